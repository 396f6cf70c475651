/- Parts of the proof, joined: Rm4. -/
import Derived.Test.YtfapmcpmfeigbaaDoorUD27
import Derived.Test.YtfapmcpmfeigbaaDoorUD18
import Derived.StillTailTactics
namespace Go.Proofs.YtfapmcpmfeigbaaDoor.Tm
open Go.RowKit Go Go.Proofs Go.Proofs.YtfapmcpmfeigbaaDoor Go.Proofs.YtfapmcpmfeigbaaDoor.Tr Go.Proofs.YtfapmcpmfeigbaaDoorW.PrintWords Go.Proofs.YtfapmcpmfeigbaaDoorW.PrintLast Go.Proofs.YtfapmcpmfeigbaaDoorW.PrintMore
set_option linter.unusedVariables false
set_option linter.unusedSimpArgs false
variable {w : World} {t : St}
structure SRel (own : Bool) (S N : Nat) (w : World) (n : Nat) (t' : St) (vp vs : Value) (wr : World) (k : Nat) : Prop where mk ::
 out : ∃ (T : St) (p : Int) (s : Bool) (A : Option Addr) (c : Nat), vp = .int .i64 p ∧ vs = .int .i64 (sd s) ∧ Sb own S N w wr w.heap.size (w.heap.size + 1) T A c ∧ Ok T ∧ p < T.ns.length ∧ T.ns.length = n ∧ qH k T p s = some t'
structure SRl (own : Bool) (S N : Nat) (w : World) (n : Nat) (t' : St) (vp vs : Value) (wr : World) : Prop where mk ::
 out : ∃ k, SRel own S N w n t' vp vs wr k
set_option maxHeartbeats 8000000 in
set_option maxRecDepth 100000 in
theorem rfill_ {own : Bool} {S N : Nat} (A : Option Addr) (c : Nat) (h : Tv own S N w A c t.ns) (hS : S ≤ w.heap.size) (hN : N ≤ w.heap.size) (hl : t.ns.length ≤ 1000000) (ho : Ok t) (p : Int) (s : Bool) (hp : p < t.ns.length) (k0 : Nat) (t' : St) (hm : qH k0 t p s = some t') :
  Calls Tryd.prog 53 #[.agg #[.int .i64 t.rt, .slice A t.ns.length c], .int .i64 p, .int .i64 (sd s)] w fun e w' => vO own S N w t' e w' := by
 have HO := zA.mk ho; have HM := zA.mk hm; have HX := zA.mk hp; clear ho hm hp
 have SB := zA.mk (Sb.start h hS hN)
 have HL := zA.mk hl; clear h hS hN hl
 go_enter Tryd.func53, Tryd.ntmps53
 go_upto_region 1 with (fail)
 generalize (w.alloc (.cells #[.int .i64 t.rt, .slice A t.ns.length c] 24)).alloc (.cells #[.int .i64 0, .slice none 0 0] 24) = W1 at SB ⊢
 have a0 := SB.out.a0; have a1 := SB.out.a1; have f0 := SB.out.f 0; have f1 := SB.out.f 1; have y0 := SB.out.y0; have y1 := SB.out.y1; have yf0 := SB.out.yf 0; have yf1 := SB.out.yf 1
 clear a0 a1 f0 f1 y0 y1 yf0 yf1
 go_loopw [1, 2] (fun vp vs wr => SRl own S N w t.ns.length t' vp vs wr) (fun vp vs wr => least (SRel own S N w t.ns.length t' vp vs wr))
 case atStart => exact ⟨k0, t, p, s, A, c, rfl, rfl, SB.out, HO.out, HX.out, rfl, HM.out⟩
 case round =>
  clear SB HO HM HX
  have HR := xE hrel.out
  obtain ⟨hR1, hR2⟩ := HR
  generalize hlk : least _ = lk at hR1 ⊢
  obtain ⟨T, p, s, A, c, rfl, hvs, hSB, hO, hp, hn, hmd⟩ := hR1.out
  obtain ⟨z, hz⟩ : ∃ z, z = sd s := ⟨_, rfl⟩
  rw [← hz] at hvs
  subst hvs
  obtain ⟨m, rfl⟩ : ∃ m, lk = m + 1 := by
   cases lk with
   | zero => simp [qH] at hmd
   | succ m => exact ⟨m, rfl⟩
  have HLK := zA.mk hlk
  have HZ := zA.mk hz.symm
  clear hR2 hrel hR1 hz
  rw [qH] at hmd
  have SB := zA.mk hSB; have O0 := zA.mk hO; have HP := zA.mk hp
  have HN := zA.mk (show T.ns.length ≤ 1000000 by rw [hn]; exact HL.out)
  have HNN := zA.mk hn; clear hSB hO hn hlk hp
  have a0 := SB.out.a0; have a1 := SB.out.a1; have f0 := SB.out.f 0; have f1 := SB.out.f 1; have y0 := SB.out.y0; have y1 := SB.out.y1; have yf0 := SB.out.yf 0; have yf1 := SB.out.yf 1
  by_cases hp0 : 0 ≤ p
  rotate_left
  ·rw [if_neg hp0] at hmd
   have HMD := zA.mk (Option.some.inj hmd)
   have hd : decide (0 ≤ p) = false := decide_eq_false hp0
   have hd2 : decide (p < 0) = true := decide_eq_true (by omega)
   clear hmd
   go_wp2
   go_quiet (fail)
   replace SB := zA.mk (SB.out.drewN nq)
   clear a0 a1 f0 f1 y0 y1 yf0 yf1
   generalize World.drewN _ nq = V0 at SB ⊢
   have a0 := SB.out.a0; have a1 := SB.out.a1; have f0 := SB.out.f 0; have f1 := SB.out.f 1; have y0 := SB.out.y0; have y1 := SB.out.y1; have yf0 := SB.out.yf 0; have yf1 := SB.out.yf 1
   go_wp2_with (go_at_call 52; (first | (with_reducible refine (xB (own := own) (S := S) (N := N) (t := T) A c SB.out.tb.tv SB.out.sS SB.out.sN HN.out T.rt O0.out.rt false).mono ?_; rintro e wq ⟨A1, c1, rfl, hTq, hB⟩) | (replace SB := zA.mk SB.out.drew; with_reducible refine (xB (own := own) (S := S) (N := N) (t := T) A c SB.out.tb.tv SB.out.sS SB.out.sN HN.out T.rt O0.out.rt false).mono ?_; rintro e wq ⟨A1, c1, rfl, hTq, hB⟩)); rw [HMD.out] at hTq; have TV := zA.mk hTq; replace SB := zA.mk (SB.out.below hB); replace a0 := SB.out.a0; replace a1 := SB.out.a1; replace f0 := SB.out.f 0; replace f1 := SB.out.f 1; replace y0 := SB.out.y0; replace y1 := SB.out.y1; replace yf0 := SB.out.yf 0; replace yf1 := SB.out.yf 1; rw [HMD.out]; clear hTq hB)
   refine bodyPost_ret (xP (cs := #[.int .i64 (t').rt, .slice A1 (t').ns.length c1]) rfl _ _ (w.heap.size + 1) 24 (0, 0) _ rfl (jZ SB.out.zb rfl _ _) Tryd.underlying24 rfl (by kernel_rfl)) rfl ?_
   exact SB.out.fin TV.out
  rw [if_pos hp0] at hmd
  have P0 := zA.mk hp0
  have hd : decide (0 ≤ p) = true := decide_eq_true hp0
  have hd2 : decide (p < 0) = false := decide_eq_false (by omega)
  have hz := HZ.out.symm
  clear HZ
  obtain ⟨zn, hzn⟩ : ∃ zn, zn = sd (!s) := ⟨_, rfl⟩
  have HZ := zA.mk hz.symm
  have HZN := zA.mk hzn.symm
  have hz2 : IntKind.i64.wrap (1 - z) = zn := by rw [hz, hzn]; cases s <;> kernel_rfl
  have hz3 : wrap64 (1 - z) = zn := by rw [hz, hzn]; cases s <;> kernel_rfl
  have hz4 : (zn != z) = true := by rw [hz, hzn]; cases s <;> rfl
  clear hz hzn
  obtain ⟨kd, hq⟩ : ∃ q, q = kidA T p s := ⟨_, rfl⟩
  have HK := zA.mk hq.symm
  have HKN := zA.mk (show kd < (T.ns.length : Int) by rw [hq]; exact O0.out.kid _ _)
  rw [← hq] at hmd
  clear hq
  go_upto_region 1 with (fail)
  cases hrk : redA T kd with
  | true =>
   have HRK := zA.mk hrk
   rw [hrk, if_pos rfl] at hmd
   have HMD := zA.mk (Option.some.inj hmd)
   clear hrk hmd
   refine jQ (n := 11) (S := fun w' => w'.cell? ⟨w.heap.size, 0, none⟩ = some (.int .i64 T.rt) ∧ w'.cell? ⟨w.heap.size, 1, none⟩ = some (.slice A T.ns.length c)) (ds := []) #[false, false, false, false, false, false, false, false, false, false, false] (by kernel_rfl) rfl rfl ⟨SB.out.drew.a0, SB.out.drew.a1⟩ (fun hHeld => ?_)
   replace SB := zA.mk SB.out.drew
   clear a0 a1 f0 f1 y0 y1 yf0 yf1
   generalize World.drew _ = V0 at SB hHeld ⊢
   have a0 := SB.out.a0; have a1 := SB.out.a1; have f0 := SB.out.f 0; have f1 := SB.out.f 1; have y0 := SB.out.y0; have y1 := SB.out.y1; have yf0 := SB.out.yf 0; have yf1 := SB.out.yf 1
   refine yB (i := 0) (N := some 10) (v := ?_) (a' := ?_) #[true, false, false, false, false, false, false, false, false, false, false] rfl rfl (by kernel_rfl) (fun _ _ _ h => h) (Or.inl ⟨by rfl, ?_⟩) ?_ ?_
   rotate_left
   ·intro w'
    go_simp
    with_reducible rfl
   rotate_left
   ·(simp only [Act.put, List.setIfInBounds_toArray, List.set_cons_zero, List.set_cons_succ, zU, zV]; rfl)
   refine yB (i := 1) (N := some 11) (v := ?_) (a' := ?_) #[true, true, false, false, false, false, false, false, false, false, false] rfl rfl (by kernel_rfl) (fun _ _ _ h => h) (Or.inl ⟨by rfl, ?_⟩) ?_ ?_
   rotate_left
   ·intro w'
    go_simp
    with_reducible rfl
   rotate_left
   ·(simp only [Act.put, List.setIfInBounds_toArray, List.set_cons_zero, List.set_cons_succ, zU, zV]; rfl)
   refine yB (i := 2) (N := some 12) (v := ?_) (a' := ?_) #[true, true, true, false, false, false, false, false, false, false, false] rfl rfl (by kernel_rfl) (fun _ _ _ h => h) (Or.inl ⟨by rfl, ?_⟩) ?_ ?_
   rotate_left
   ·intro w'
    go_simp
    with_reducible rfl
   rotate_left
   ·(simp only [Act.put, List.setIfInBounds_toArray, List.set_cons_zero, List.set_cons_succ, zU, zV]; rfl)
   refine x9 (i := 3) (N := some 13) (v := ?_) (a' := ?_) #[true, true, true, true, false, false, false, false, false, false, false] rfl rfl (by kernel_rfl) (fun _ _ _ h => h) (Or.inl ⟨by rfl, ?_⟩) hHeld ?_ ?_
   rotate_left
   ·rintro w' ⟨s0, s1⟩
    go_simp
    with_reducible rfl
   rotate_left
   ·(simp only [Act.put, List.setIfInBounds_toArray, List.set_cons_zero, List.set_cons_succ, zU, zV]; rfl)
   refine x9 (i := 4) (N := some 14) (v := ?_) (a' := ?_) #[true, true, true, true, true, false, false, false, false, false, false] rfl rfl (by kernel_rfl) (fun _ _ _ h => h) (Or.inl ⟨by rfl, ?_⟩) hHeld ?_ ?_
   rotate_left
   ·rintro w' ⟨s0, s1⟩
    go_simp
    with_reducible rfl
   rotate_left
   ·(simp only [Act.put, List.setIfInBounds_toArray, List.set_cons_zero, List.set_cons_succ, zU, zV]; rfl)
   refine yB (i := 5) (N := some 15) (v := ?_) (a' := ?_) #[true, true, true, true, true, true, false, false, false, false, false] rfl rfl (by kernel_rfl) (fun _ _ _ h => h) (Or.inl ⟨by rfl, ?_⟩) ?_ ?_
   rotate_left
   ·intro w'
    go_simp
    with_reducible rfl
   rotate_left
   ·(simp only [Act.put, List.setIfInBounds_toArray, List.set_cons_zero, List.set_cons_succ, zU, zV]; rfl)
   refine yB (i := 6) (N := some 16) (v := ?_) (a' := ?_) #[true, true, true, true, true, true, true, false, false, false, false] rfl rfl (by kernel_rfl) (fun _ _ _ h => h) (Or.inl ⟨by rfl, ?_⟩) ?_ ?_
   rotate_left
   ·intro w'
    go_simp
    with_reducible rfl
   rotate_left
   ·(simp only [Act.put, List.setIfInBounds_toArray, List.set_cons_zero, List.set_cons_succ, zU, zV]; rfl)
   refine one_ (i := 7) (N := some 17) #[true, true, true, true, true, true, true, true, false, false, false] rfl rfl (by kernel_rfl) (by decide) (fun K hK => ?_)
   refine qF Tryd.func38 (by kernel_rfl) rfl #[.agg #[.int .i64 T.rt, .slice A T.ns.length c], .int .i64 p, .int .i64 z] (by rfl) rfl rfl (by (try simp only [List.map_toArray, List.map_cons, List.map_nil]); first | done | rfl) ?_
   with_reducible refine (qV (t := T) A c SB.out.tb.tv.rd p P0.out HP.out s z HZ.out kd HK.out).mono ?_
   rintro e wq ⟨rfl, hB⟩
   refine ⟨_, rfl, ?_⟩
   replace SB := zA.mk (SB.out.below hB); replace a0 := SB.out.a0; replace a1 := SB.out.a1; replace f0 := SB.out.f 0; replace f1 := SB.out.f 1; replace y0 := SB.out.y0; replace y1 := SB.out.y1; replace yf0 := SB.out.yf 0; replace yf1 := SB.out.yf 1
   clear hB
   refine hK.out _ _ ⟨SB.out.a0, SB.out.a1⟩ (fun hHeld => ?_)
   clear hK K
   refine xA (a' := ?_) ?_ ?_
   rotate_left
   ·(show Act.put _ (some 17) _ = _; (simp only [Act.put, List.setIfInBounds_toArray, List.set_cons_zero, List.set_cons_succ, zU, zV]; rfl))
   refine one_ (i := 8) (N := some 18) #[true, true, true, true, true, true, true, true, true, false, false] rfl rfl (by kernel_rfl) (by decide) (fun K hK => ?_)
   refine qF Tryd.func58 (by kernel_rfl) rfl #[.agg #[.int .i64 T.rt, .slice A T.ns.length c], .int .i64 kd] (by rfl) rfl rfl (by (try simp only [List.map_toArray, List.map_cons, List.map_nil]); first | done | rfl) ?_
   with_reducible refine (xW (t := T) A c SB.out.tb.tv.rd kd HKN.out true HRK.out).mono ?_
   rintro e wq ⟨rfl, hB⟩
   refine ⟨_, rfl, ?_⟩
   replace SB := zA.mk (SB.out.below hB); replace a0 := SB.out.a0; replace a1 := SB.out.a1; replace f0 := SB.out.f 0; replace f1 := SB.out.f 1; replace y0 := SB.out.y0; replace y1 := SB.out.y1; replace yf0 := SB.out.yf 0; replace yf1 := SB.out.yf 1
   clear hB
   refine hK.out _ _ ⟨SB.out.a0, SB.out.a1⟩ (fun hHeld => ?_)
   clear hK K
   refine xA (a' := ?_) ?_ ?_
   rotate_left
   ·(show Act.put _ (some 18) _ = _; (simp only [Act.put, List.setIfInBounds_toArray, List.set_cons_zero, List.set_cons_succ, zU, zV]; rfl))
   refine yB (i := 9) (N := some 19) (v := ?_) (a' := ?_) #[true, true, true, true, true, true, true, true, true, true, false] rfl rfl (by kernel_rfl) (fun _ _ _ h => h) (Or.inl ⟨by rfl, ?_⟩) ?_ ?_
   rotate_left
   ·intro w'
    go_simp
    with_reducible rfl
   rotate_left
   ·(simp only [Act.put, List.setIfInBounds_toArray, List.set_cons_zero, List.set_cons_succ, zU, zV]; rfl)
   refine yB (i := 10) (N := some 20) (v := ?_) (a' := ?_) #[true, true, true, true, true, true, true, true, true, true, true] rfl rfl (by kernel_rfl) (fun _ _ _ h => h) (Or.inl ⟨by rfl, ?_⟩) ?_ ?_
   rotate_left
   ·intro w'
    go_simp
    with_reducible rfl
   rotate_left
   ·(simp only [Act.put, List.setIfInBounds_toArray, List.set_cons_zero, List.set_cons_succ, zU, zV]; rfl)
   refine vJ (by kernel_rfl) ?_
   go_upto_region 21 with (fail)
   refine jQ (n := 7) (S := fun w' => w'.cell? ⟨w.heap.size, 0, none⟩ = some (.int .i64 T.rt) ∧ w'.cell? ⟨w.heap.size, 1, none⟩ = some (.slice A T.ns.length c)) (ds := [6]) #[false, false, false, false, false, false, false] (by kernel_rfl) rfl rfl ⟨SB.out.drew.a0, SB.out.drew.a1⟩ (fun hHeld => ?_)
   replace SB := zA.mk SB.out.drew
   clear a0 a1 f0 f1 y0 y1 yf0 yf1
   generalize World.drew _ = V1 at SB hHeld ⊢
   have a0 := SB.out.a0; have a1 := SB.out.a1; have f0 := SB.out.f 0; have f1 := SB.out.f 1; have y0 := SB.out.y0; have y1 := SB.out.y1; have yf0 := SB.out.yf 0; have yf1 := SB.out.yf 1
   refine x9 (i := 0) (N := some 120) (v := ?_) (a' := ?_) #[true, false, false, false, false, false, false] rfl rfl (by kernel_rfl) (fun _ _ _ h => h) (Or.inl ⟨by rfl, ?_⟩) hHeld ?_ ?_
   rotate_left
   ·rintro w' ⟨s0, s1⟩
    go_simp
    with_reducible rfl
   rotate_left
   ·(simp only [Act.put, List.setIfInBounds_toArray, List.set_cons_zero, List.set_cons_succ, zU, zV]; rfl)
   refine x9 (i := 1) (N := some 121) (v := ?_) (a' := ?_) #[true, true, false, false, false, false, false] rfl rfl (by kernel_rfl) (fun _ _ _ h => h) (Or.inl ⟨by rfl, ?_⟩) hHeld ?_ ?_
   rotate_left
   ·rintro w' ⟨s0, s1⟩
    go_simp
    with_reducible rfl
   rotate_left
   ·(simp only [Act.put, List.setIfInBounds_toArray, List.set_cons_zero, List.set_cons_succ, zU, zV]; rfl)
   refine yB (i := 2) (N := some 122) (v := ?_) (a' := ?_) #[true, true, true, false, false, false, false] rfl rfl (by kernel_rfl) (fun _ _ _ h => h) (Or.inl ⟨by rfl, ?_⟩) ?_ ?_
   rotate_left
   ·intro w'
    go_simp
    with_reducible rfl
   rotate_left
   ·(simp only [Act.put, List.setIfInBounds_toArray, List.set_cons_zero, List.set_cons_succ, zU, zV]; rfl)
   refine yB (i := 3) (N := some 123) (v := ?_) (a' := ?_) #[true, true, true, true, false, false, false] rfl rfl (by kernel_rfl) (fun _ _ _ h => h) (Or.inl ⟨by rfl, ?_⟩) ?_ ?_
   rotate_left
   ·intro w'
    go_simp
    with_reducible rfl
   rotate_left
   ·(simp only [Act.put, List.setIfInBounds_toArray, List.set_cons_zero, List.set_cons_succ, zU, zV]; rfl)
   refine one_ (i := 4) (N := some 124) #[true, true, true, true, true, false, false] rfl rfl (by kernel_rfl) (by decide) (fun K hK => ?_)
   refine qF Tryd.func38 (by kernel_rfl) rfl #[.agg #[.int .i64 T.rt, .slice A T.ns.length c], .int .i64 p, .int .i64 z] (by rfl) rfl rfl (by (try simp only [List.map_toArray, List.map_cons, List.map_nil]); first | done | rfl) ?_
   with_reducible refine (qV (t := T) A c SB.out.tb.tv.rd p P0.out HP.out s z HZ.out kd HK.out).mono ?_
   rintro e wq ⟨rfl, hB⟩
   refine ⟨_, rfl, ?_⟩
   replace SB := zA.mk (SB.out.below hB); replace a0 := SB.out.a0; replace a1 := SB.out.a1; replace f0 := SB.out.f 0; replace f1 := SB.out.f 1; replace y0 := SB.out.y0; replace y1 := SB.out.y1; replace yf0 := SB.out.yf 0; replace yf1 := SB.out.yf 1
   clear hB
   refine hK.out _ _ ⟨SB.out.a0, SB.out.a1⟩ (fun hHeld => ?_)
   clear hK K
   refine xA (a' := ?_) ?_ ?_
   rotate_left
   ·(show Act.put _ (some 124) _ = _; (simp only [Act.put, List.setIfInBounds_toArray, List.set_cons_zero, List.set_cons_succ, zU, zV]; rfl))
   refine one_ (i := 5) (N := some 125) #[true, true, true, true, true, true, false] rfl rfl (by kernel_rfl) (by decide) (fun K hK => ?_)
   refine qF Tryd.func52 (by kernel_rfl) rfl #[.agg #[.int .i64 T.rt, .slice A T.ns.length c], .int .i64 kd, .bool false] (by rfl) rfl rfl (by (try simp only [List.map_toArray, List.map_cons, List.map_nil]); first | done | rfl) ?_
   with_reducible refine (xB (own := own) (S := S) (N := N) (t := T) A c SB.out.tb.tv SB.out.sS SB.out.sN HN.out kd HKN.out false).mono ?_
   rintro e wq ⟨A1, c1, rfl, hTq, hB⟩
   refine ⟨_, rfl, ?_⟩
   rw [HMD.out] at hTq
   have TV := zA.mk hTq
   replace SB := zA.mk (SB.out.below hB); replace a0 := SB.out.a0; replace a1 := SB.out.a1; replace f0 := SB.out.f 0; replace f1 := SB.out.f 1; replace y0 := SB.out.y0; replace y1 := SB.out.y1; replace yf0 := SB.out.yf 0; replace yf1 := SB.out.yf 1
   rw [HMD.out]
   clear hTq hB
   refine hK.out _ _ ⟨SB.out.a0, SB.out.a1⟩ (fun hHeld => ?_)
   clear hK K
   refine xA (a' := ?_) ?_ ?_
   rotate_left
   ·(show Act.put _ (some 125) _ = _; (simp only [Act.put, List.setIfInBounds_toArray, List.set_cons_zero, List.set_cons_succ, zU, zV]; rfl))
   refine last_ (i := 6) (N := none) #[true, true, true, true, true, true, true] rfl rfl (by kernel_rfl) (by decide) (fun K hK => ?_)
   refine zab (w1 := ?_) (by rfl) rfl ?_ ?_
   rotate_left
   ·go_simp
    rfl
   refine hK.out _ _ ?_
   clear hK K
   refine vJ (by kernel_rfl) ?_
   go_wp2
   refine bodyPost_ret (xP (cs := #[.int .i64 (t').rt, .slice A1 (t').ns.length c1]) rfl _ _ (w.heap.size + 1) 24 (0, 0) _ rfl (jZ SB.out.zb rfl _ _) Tryd.underlying24 rfl (by kernel_rfl)) rfl ?_
   exact SB.out.fin TV.out
  | false =>
  have HRK := zA.mk hrk
  rw [hrk, if_neg (by simp)] at hmd
  clear hrk
  obtain ⟨bb, hq⟩ : ∃ q, q = kidA T p (!s) := ⟨_, rfl⟩
  have HB := zA.mk hq.symm
  have HBN := zA.mk (show bb < (T.ns.length : Int) by rw [hq]; exact O0.out.kid _ _)
  rw [← hq] at hmd
  clear hq
  obtain ⟨rb, hrb⟩ : ∃ rb, rb = redA T bb := ⟨_, rfl⟩
  rw [← hrb] at hmd
  have HRB := zA.mk hrb.symm
  clear hrb
  refine jQ (n := 11) (S := fun w' => w'.cell? ⟨w.heap.size, 0, none⟩ = some (.int .i64 T.rt) ∧ w'.cell? ⟨w.heap.size, 1, none⟩ = some (.slice A T.ns.length c)) (ds := []) #[false, false, false, false, false, false, false, false, false, false, false] (by kernel_rfl) rfl rfl ⟨SB.out.drew.a0, SB.out.drew.a1⟩ (fun hHeld => ?_)
  replace SB := zA.mk SB.out.drew
  clear a0 a1 f0 f1 y0 y1 yf0 yf1
  generalize World.drew _ = V0 at SB hHeld ⊢
  have a0 := SB.out.a0; have a1 := SB.out.a1; have f0 := SB.out.f 0; have f1 := SB.out.f 1; have y0 := SB.out.y0; have y1 := SB.out.y1; have yf0 := SB.out.yf 0; have yf1 := SB.out.yf 1
  refine yB (i := 0) (N := some 10) (v := ?_) (a' := ?_) #[true, false, false, false, false, false, false, false, false, false, false] rfl rfl (by kernel_rfl) (fun _ _ _ h => h) (Or.inl ⟨by rfl, ?_⟩) ?_ ?_
  rotate_left
  ·intro w'
   go_simp
   with_reducible rfl
  rotate_left
  ·(simp only [Act.put, List.setIfInBounds_toArray, List.set_cons_zero, List.set_cons_succ, zU, zV]; rfl)
  refine yB (i := 1) (N := some 11) (v := ?_) (a' := ?_) #[true, true, false, false, false, false, false, false, false, false, false] rfl rfl (by kernel_rfl) (fun _ _ _ h => h) (Or.inl ⟨by rfl, ?_⟩) ?_ ?_
  rotate_left
  ·intro w'
   go_simp
   with_reducible rfl
  rotate_left
  ·(simp only [Act.put, List.setIfInBounds_toArray, List.set_cons_zero, List.set_cons_succ, zU, zV]; rfl)
  refine yB (i := 2) (N := some 12) (v := ?_) (a' := ?_) #[true, true, true, false, false, false, false, false, false, false, false] rfl rfl (by kernel_rfl) (fun _ _ _ h => h) (Or.inl ⟨by rfl, ?_⟩) ?_ ?_
  rotate_left
  ·intro w'
   go_simp
   with_reducible rfl
  rotate_left
  ·(simp only [Act.put, List.setIfInBounds_toArray, List.set_cons_zero, List.set_cons_succ, zU, zV]; rfl)
  refine x9 (i := 3) (N := some 13) (v := ?_) (a' := ?_) #[true, true, true, true, false, false, false, false, false, false, false] rfl rfl (by kernel_rfl) (fun _ _ _ h => h) (Or.inl ⟨by rfl, ?_⟩) hHeld ?_ ?_
  rotate_left
  ·rintro w' ⟨s0, s1⟩
   go_simp
   with_reducible rfl
  rotate_left
  ·(simp only [Act.put, List.setIfInBounds_toArray, List.set_cons_zero, List.set_cons_succ, zU, zV]; rfl)
  refine x9 (i := 4) (N := some 14) (v := ?_) (a' := ?_) #[true, true, true, true, true, false, false, false, false, false, false] rfl rfl (by kernel_rfl) (fun _ _ _ h => h) (Or.inl ⟨by rfl, ?_⟩) hHeld ?_ ?_
  rotate_left
  ·rintro w' ⟨s0, s1⟩
   go_simp
   with_reducible rfl
  rotate_left
  ·(simp only [Act.put, List.setIfInBounds_toArray, List.set_cons_zero, List.set_cons_succ, zU, zV]; rfl)
  refine yB (i := 5) (N := some 15) (v := ?_) (a' := ?_) #[true, true, true, true, true, true, false, false, false, false, false] rfl rfl (by kernel_rfl) (fun _ _ _ h => h) (Or.inl ⟨by rfl, ?_⟩) ?_ ?_
  rotate_left
  ·intro w'
   go_simp
   with_reducible rfl
  rotate_left
  ·(simp only [Act.put, List.setIfInBounds_toArray, List.set_cons_zero, List.set_cons_succ, zU, zV]; rfl)
  refine yB (i := 6) (N := some 16) (v := ?_) (a' := ?_) #[true, true, true, true, true, true, true, false, false, false, false] rfl rfl (by kernel_rfl) (fun _ _ _ h => h) (Or.inl ⟨by rfl, ?_⟩) ?_ ?_
  rotate_left
  ·intro w'
   go_simp
   with_reducible rfl
  rotate_left
  ·(simp only [Act.put, List.setIfInBounds_toArray, List.set_cons_zero, List.set_cons_succ, zU, zV]; rfl)
  refine one_ (i := 7) (N := some 17) #[true, true, true, true, true, true, true, true, false, false, false] rfl rfl (by kernel_rfl) (by decide) (fun K hK => ?_)
  refine qF Tryd.func38 (by kernel_rfl) rfl #[.agg #[.int .i64 T.rt, .slice A T.ns.length c], .int .i64 p, .int .i64 z] (by rfl) rfl rfl (by (try simp only [List.map_toArray, List.map_cons, List.map_nil]); first | done | rfl) ?_
  with_reducible refine (qV (t := T) A c SB.out.tb.tv.rd p P0.out HP.out s z HZ.out kd HK.out).mono ?_
  rintro e wq ⟨rfl, hB⟩
  refine ⟨_, rfl, ?_⟩
  replace SB := zA.mk (SB.out.below hB); replace a0 := SB.out.a0; replace a1 := SB.out.a1; replace f0 := SB.out.f 0; replace f1 := SB.out.f 1; replace y0 := SB.out.y0; replace y1 := SB.out.y1; replace yf0 := SB.out.yf 0; replace yf1 := SB.out.yf 1
  clear hB
  refine hK.out _ _ ⟨SB.out.a0, SB.out.a1⟩ (fun hHeld => ?_)
  clear hK K
  refine xA (a' := ?_) ?_ ?_
  rotate_left
  ·(show Act.put _ (some 17) _ = _; (simp only [Act.put, List.setIfInBounds_toArray, List.set_cons_zero, List.set_cons_succ, zU, zV]; rfl))
  refine one_ (i := 8) (N := some 18) #[true, true, true, true, true, true, true, true, true, false, false] rfl rfl (by kernel_rfl) (by decide) (fun K hK => ?_)
  refine qF Tryd.func58 (by kernel_rfl) rfl #[.agg #[.int .i64 T.rt, .slice A T.ns.length c], .int .i64 kd] (by rfl) rfl rfl (by (try simp only [List.map_toArray, List.map_cons, List.map_nil]); first | done | rfl) ?_
  with_reducible refine (xW (t := T) A c SB.out.tb.tv.rd kd HKN.out false HRK.out).mono ?_
  rintro e wq ⟨rfl, hB⟩
  refine ⟨_, rfl, ?_⟩
  replace SB := zA.mk (SB.out.below hB); replace a0 := SB.out.a0; replace a1 := SB.out.a1; replace f0 := SB.out.f 0; replace f1 := SB.out.f 1; replace y0 := SB.out.y0; replace y1 := SB.out.y1; replace yf0 := SB.out.yf 0; replace yf1 := SB.out.yf 1
  clear hB
  refine hK.out _ _ ⟨SB.out.a0, SB.out.a1⟩ (fun hHeld => ?_)
  clear hK K
  refine xA (a' := ?_) ?_ ?_
  rotate_left
  ·(show Act.put _ (some 18) _ = _; (simp only [Act.put, List.setIfInBounds_toArray, List.set_cons_zero, List.set_cons_succ, zU, zV]; rfl))
  refine yB (i := 9) (N := some 19) (v := ?_) (a' := ?_) #[true, true, true, true, true, true, true, true, true, true, false] rfl rfl (by kernel_rfl) (fun _ _ _ h => h) (Or.inl ⟨by rfl, ?_⟩) ?_ ?_
  rotate_left
  ·intro w'
   go_simp
   with_reducible rfl
  rotate_left
  ·(simp only [Act.put, List.setIfInBounds_toArray, List.set_cons_zero, List.set_cons_succ, zU, zV]; rfl)
  refine yB (i := 10) (N := some 20) (v := ?_) (a' := ?_) #[true, true, true, true, true, true, true, true, true, true, true] rfl rfl (by kernel_rfl) (fun _ _ _ h => h) (Or.inl ⟨by rfl, ?_⟩) ?_ ?_
  rotate_left
  ·intro w'
   go_simp
   with_reducible rfl
  rotate_left
  ·(simp only [Act.put, List.setIfInBounds_toArray, List.set_cons_zero, List.set_cons_succ, zU, zV]; rfl)
  refine vJ (by kernel_rfl) ?_
  obtain ⟨Z1, hh⟩ : ∃ q, q = zQ T false bb := ⟨_, rfl⟩
  have HZ1 := zA.mk hh.symm
  have LZ1 := zA.mk (show Z1.ns.length = T.ns.length by rw [hh]; rw [zP])
  have OZ1 := zA.mk (show Ok Z1 by rw [hh]; exact O0.out.yE false bb HBN.out)
  clear hh
  obtain ⟨Z2, hh⟩ : ∃ q, q = zQ Z1 true p := ⟨_, rfl⟩
  have HZ2 := zA.mk hh.symm
  have LZ2 := zA.mk (show Z2.ns.length = T.ns.length by rw [hh]; rw [zP, LZ1.out])
  have OZ2 := zA.mk (show Ok Z2 by rw [hh]; exact OZ1.out.yE true p (by rw [LZ1.out]; exact HP.out))
  clear hh
  obtain ⟨Z3, hh⟩ : ∃ q, q = yU Z2 p s := ⟨_, rfl⟩
  have HZ3 := zA.mk hh.symm
  have LZ3 := zA.mk (show Z3.ns.length = T.ns.length by rw [hh]; rw [xM, LZ2.out])
  have OZ3 := zA.mk (show Ok Z3 by rw [hh]; exact OZ2.out.turn p s (by rw [LZ2.out]; exact HP.out))
  clear hh
  rw [HZ1.out, HZ2.out, HZ3.out] at hmd
  have KZ := zA.mk (show kidA Z2 p (!s) = bb by rw [← HZ2.out, yC _ _ _ _ _ (by rw [LZ1.out]; exact HP.out), ← HZ1.out, yC _ _ _ _ _ HBN.out]; exact HB.out)
  obtain ⟨R, b, hR0, hR1, hR2⟩ : ∃ (R : St) (b : Int), (rb = false → R = T ∧ b = bb) ∧ (rb = true → R = Z3 ∧ b = kidA Z3 p (!s)) ∧ xR (qH m) R p s b = some t' ∧ Ok R ∧ R.ns.length = T.ns.length ∧ kidA R p (!s) = b := by
   cases rb with
   | false =>
    rw [if_neg (by simp)] at hmd
    exact ⟨T, bb, (fun _ => ⟨rfl, rfl⟩), (fun h => by cases h), hmd, O0.out, rfl, HB.out⟩
   | true =>
    rw [if_pos rfl] at hmd
    exact ⟨Z3, _, (fun h => by cases h), (fun _ => ⟨rfl, rfl⟩), hmd, OZ3.out, LZ3.out, rfl⟩
  obtain ⟨hR2, hR3, hR4, hR5⟩ := hR2
  clear hmd; have HMD := zA.mk hR2; have OR := zA.mk hR3; have LR := zA.mk hR4; have HRb := zA.mk hR5; have HR0 := zA.mk hR0; have HR1 := zA.mk hR1; clear hR0 hR1 hR2 hR3 hR4 hR5
  go_upto_region 3 with ((go_at_call_of 38 (Value.int IntKind.i64 p); (first | (with_reducible refine (qV (t := T) A c SB.out.tb.tv.rd p P0.out HP.out (!s) zn HZN.out bb HB.out).mono ?_; rintro e wq ⟨rfl, hB⟩) | (replace SB := zA.mk SB.out.drew; with_reducible refine (qV (t := T) A c SB.out.tb.tv.rd p P0.out HP.out (!s) zn HZN.out bb HB.out).mono ?_; rintro e wq ⟨rfl, hB⟩)); replace SB := zA.mk (SB.out.below hB); replace a0 := SB.out.a0; replace a1 := SB.out.a1; replace f0 := SB.out.f 0; replace f1 := SB.out.f 1; replace y0 := SB.out.y0; replace y1 := SB.out.y1; replace yf0 := SB.out.yf 0; replace yf1 := SB.out.yf 1; clear hB))
  go_upto_if 28 with ((go_at_call_of 58 (Value.int IntKind.i64 bb); (first | (with_reducible refine (xW (t := T) A c SB.out.tb.tv.rd bb HBN.out rb HRB.out).mono ?_; rintro e wq ⟨rfl, hB⟩) | (replace SB := zA.mk SB.out.drew; with_reducible refine (xW (t := T) A c SB.out.tb.tv.rd bb HBN.out rb HRB.out).mono ?_; rintro e wq ⟨rfl, hB⟩)); replace SB := zA.mk (SB.out.below hB); replace a0 := SB.out.a0; replace a1 := SB.out.a1; replace f0 := SB.out.f 0; replace f1 := SB.out.f 1; replace y0 := SB.out.y0; replace y1 := SB.out.y1; replace yf0 := SB.out.yf 0; replace yf1 := SB.out.yf 1; clear hB))
  go_cut [7] (fun s7 wx => s7 = .int .i64 b ∧ ∃ (A : Option Addr) (c : Nat), zA (Sb own S N w wx w.heap.size (w.heap.size + 1) R A c))
  case first =>
   cases rb with
   | false =>
    obtain ⟨rfl, rfl⟩ := HR0.out rfl
    go_wp2_with fail
    go_meet
    exact ⟨rfl, _, _, SB⟩
   | true =>
    obtain ⟨rfl, hb2⟩ := HR1.out rfl
    have BB0 := zA.mk (vY HRB.out)
    clear hb2
    go_upto_region 5 with (first | (go_at_call_of 52 (Value.int IntKind.i64 bb); (first | (with_reducible refine (xB (own := own) (S := S) (N := N) (t := T) A c SB.out.tb.tv SB.out.sS SB.out.sN HN.out bb HBN.out false).mono ?_; rintro e wq ⟨C1, k1, rfl, hTq, hB⟩) | (replace SB := zA.mk SB.out.drew; with_reducible refine (xB (own := own) (S := S) (N := N) (t := T) A c SB.out.tb.tv SB.out.sS SB.out.sN HN.out bb HBN.out false).mono ?_; rintro e wq ⟨C1, k1, rfl, hTq, hB⟩)); rw [HZ1.out] at hTq; have TV := zA.mk hTq; replace SB := zA.mk (SB.out.below hB); replace a0 := SB.out.a0; replace a1 := SB.out.a1; replace f0 := SB.out.f 0; replace f1 := SB.out.f 1; replace y0 := SB.out.y0; replace y1 := SB.out.y1; replace yf0 := SB.out.yf 0; replace yf1 := SB.out.yf 1; rw [HZ1.out]; clear hTq hB) | (go_at_call_of 52 (Value.int IntKind.i64 p); (first | (with_reducible refine (xB (own := own) (S := S) (N := N) (t := Z1) C1 k1 TV.out SB.out.sS SB.out.sN (by rw [LZ1.out]; exact HN.out) p (by rw [LZ1.out]; exact HP.out) true).mono ?_; rintro e wq ⟨C2, k2, rfl, hTq, hB⟩) | (replace SB := zA.mk SB.out.drew; with_reducible refine (xB (own := own) (S := S) (N := N) (t := Z1) C1 k1 TV.out SB.out.sS SB.out.sN (by rw [LZ1.out]; exact HN.out) p (by rw [LZ1.out]; exact HP.out) true).mono ?_; rintro e wq ⟨C2, k2, rfl, hTq, hB⟩)); rw [HZ2.out] at hTq; have TV := zA.mk hTq; replace SB := zA.mk (SB.out.below hB); replace a0 := SB.out.a0; replace a1 := SB.out.a1; replace f0 := SB.out.f 0; replace f1 := SB.out.f 1; replace y0 := SB.out.y0; replace y1 := SB.out.y1; replace yf0 := SB.out.yf 0; replace yf1 := SB.out.yf 1; rw [HZ2.out]; clear hTq hB) | (go_at_call 70; (first | (with_reducible refine (jW (own := own) (S := S) (N := N) (t := Z2) C2 k2 TV.out SB.out.sS SB.out.sN (by rw [LZ2.out]; exact HN.out) OZ2.out p P0.out (by rw [LZ2.out]; exact HP.out) s z HZ.out (by rw [KZ.out]; exact BB0.out)).mono ?_; rintro e wq ⟨C3, k3, rfl, hTq, hB⟩) | (replace SB := zA.mk SB.out.drew; with_reducible refine (jW (own := own) (S := S) (N := N) (t := Z2) C2 k2 TV.out SB.out.sS SB.out.sN (by rw [LZ2.out]; exact HN.out) OZ2.out p P0.out (by rw [LZ2.out]; exact HP.out) s z HZ.out (by rw [KZ.out]; exact BB0.out)).mono ?_; rintro e wq ⟨C3, k3, rfl, hTq, hB⟩)); rw [HZ3.out] at hTq; have TV := zA.mk hTq; replace SB := zA.mk (SB.out.below hB); replace a0 := SB.out.a0; replace a1 := SB.out.a1; replace f0 := SB.out.f 0; replace f1 := SB.out.f 1; replace y0 := SB.out.y0; replace y1 := SB.out.y1; replace yf0 := SB.out.yf 0; replace yf1 := SB.out.yf 1; rw [HZ3.out]; clear hTq hB))
    replace SB := zA.mk (SB.out.store TV.out)
    clear a0 a1 f0 f1 y0 y1 yf0 yf1
    generalize World.setCell _ _ _ = V3 at SB ⊢
    clear TV
    have a0 := SB.out.a0; have a1 := SB.out.a1; have f0 := SB.out.f 0; have f1 := SB.out.f 1; have y0 := SB.out.y0; have y1 := SB.out.y1; have yf0 := SB.out.yf 0; have yf1 := SB.out.yf 1
    go_wp2_with (go_at_call 38; (first | (with_reducible refine (qV (t := R) C3 k3 SB.out.tb.tv.rd p P0.out (by rw [LR.out]; exact HP.out) (!s) zn HZN.out b HRb.out).mono ?_; rintro e wq ⟨rfl, hB⟩) | (replace SB := zA.mk SB.out.drew; with_reducible refine (qV (t := R) C3 k3 SB.out.tb.tv.rd p P0.out (by rw [LR.out]; exact HP.out) (!s) zn HZN.out b HRb.out).mono ?_; rintro e wq ⟨rfl, hB⟩)); replace SB := zA.mk (SB.out.below hB); replace a0 := SB.out.a0; replace a1 := SB.out.a1; replace f0 := SB.out.f 0; replace f1 := SB.out.f 1; replace y0 := SB.out.y0; replace y1 := SB.out.y1; replace yf0 := SB.out.yf 0; replace yf1 := SB.out.yf 1; clear hB)
    go_meet
    exact ⟨rfl, _, _, SB⟩
  obtain ⟨rfl, A2, c2, SB2⟩ := hcut
  clear SB a0 a1 f0 f1 y0 y1 yf0 yf1 HZ1 LZ1 OZ1 HZ2 LZ2 OZ2 HZ3 LZ3 OZ3 KZ HR0 HR1 HB HBN HK HKN HRK HRB O0; have SB := SB2; clear SB2
  generalize wc = W1 at SB ⊢
  have a0 := SB.out.a0; have a1 := SB.out.a1; have f0 := SB.out.f 0; have f1 := SB.out.f 1; have y0 := SB.out.y0; have y1 := SB.out.y1; have yf0 := SB.out.yf 0; have yf1 := SB.out.yf 1
  have hmd := HMD.out
  rw [xR] at hmd
  by_cases hb0 : b < 0
  ·rw [if_pos hb0] at hmd
   cases hmd
  rw [if_neg hb0] at hmd
  have BC0 := zA.mk (show 0 ≤ b by omega)
  clear hb0 HMD
  have HCN := zA.mk (show b < (R.ns.length : Int) by rw [← HRb.out]; exact OR.out.kid _ _)
  obtain ⟨near, hq⟩ : ∃ q, q = kidA R b s := ⟨_, rfl⟩
  have HNE := zA.mk hq.symm
  have HNEN := zA.mk (show near < (R.ns.length : Int) by rw [hq]; exact OR.out.kid _ _)
  rw [← hq] at hmd
  clear hq
  obtain ⟨far, hq⟩ : ∃ q, q = kidA R b (!s) := ⟨_, rfl⟩
  have HFA := zA.mk hq.symm
  have HFAN := zA.mk (show far < (R.ns.length : Int) by rw [hq]; exact OR.out.kid _ _)
  rw [← hq] at hmd
  clear hq
  go_upto_region 8 with (first | (go_at_call 38; (first | (with_reducible refine (qV (t := R) A2 c2 SB.out.tb.tv.rd b BC0.out HCN.out s z HZ.out near HNE.out).mono ?_; rintro e wq ⟨rfl, hB⟩) | (replace SB := zA.mk SB.out.drew; with_reducible refine (qV (t := R) A2 c2 SB.out.tb.tv.rd b BC0.out HCN.out s z HZ.out near HNE.out).mono ?_; rintro e wq ⟨rfl, hB⟩)); replace SB := zA.mk (SB.out.below hB); replace a0 := SB.out.a0; replace a1 := SB.out.a1; replace f0 := SB.out.f 0; replace f1 := SB.out.f 1; replace y0 := SB.out.y0; replace y1 := SB.out.y1; replace yf0 := SB.out.yf 0; replace yf1 := SB.out.yf 1; clear hB) | (go_at_call 38; (first | (with_reducible refine (qV (t := R) A2 c2 SB.out.tb.tv.rd b BC0.out HCN.out (!s) zn HZN.out far HFA.out).mono ?_; rintro e wq ⟨rfl, hB⟩) | (replace SB := zA.mk SB.out.drew; with_reducible refine (qV (t := R) A2 c2 SB.out.tb.tv.rd b BC0.out HCN.out (!s) zn HZN.out far HFA.out).mono ?_; rintro e wq ⟨rfl, hB⟩)); replace SB := zA.mk (SB.out.below hB); replace a0 := SB.out.a0; replace a1 := SB.out.a1; replace f0 := SB.out.f 0; replace f1 := SB.out.f 1; replace y0 := SB.out.y0; replace y1 := SB.out.y1; replace yf0 := SB.out.yf 0; replace yf1 := SB.out.yf 1; clear hB))
  obtain ⟨rn, hq⟩ : ∃ q, q = redA R near := ⟨_, rfl⟩
  rw [← hq] at hmd
  have HRN := zA.mk hq.symm
  clear hq
  obtain ⟨rf, hq⟩ : ∃ q, q = redA R far := ⟨_, rfl⟩
  rw [← hq] at hmd
  have HRF := zA.mk hq.symm
  clear hq
  go_cut [60] (fun s60 wx => s60 = .bool (!rn && !rf) ∧ zA (Sb own S N w wx w.heap.size (w.heap.size + 1) R A2 c2))
  case first =>
   cases rn with
   | true =>
    go_wp2_with (first | (go_at_call_of 58 (Value.int IntKind.i64 near); (first | (with_reducible refine (xW (t := R) A2 c2 SB.out.tb.tv.rd near HNEN.out true HRN.out).mono ?_; rintro e wq ⟨rfl, hB⟩) | (replace SB := zA.mk SB.out.drew; with_reducible refine (xW (t := R) A2 c2 SB.out.tb.tv.rd near HNEN.out true HRN.out).mono ?_; rintro e wq ⟨rfl, hB⟩)); replace SB := zA.mk (SB.out.below hB); replace a0 := SB.out.a0; replace a1 := SB.out.a1; replace f0 := SB.out.f 0; replace f1 := SB.out.f 1; replace y0 := SB.out.y0; replace y1 := SB.out.y1; replace yf0 := SB.out.yf 0; replace yf1 := SB.out.yf 1; clear hB) | (go_at_call_of 58 (Value.int IntKind.i64 far); (first | (with_reducible refine (xW (t := R) A2 c2 SB.out.tb.tv.rd far HFAN.out rf HRF.out).mono ?_; rintro e wq ⟨rfl, hB⟩) | (replace SB := zA.mk SB.out.drew; with_reducible refine (xW (t := R) A2 c2 SB.out.tb.tv.rd far HFAN.out rf HRF.out).mono ?_; rintro e wq ⟨rfl, hB⟩)); replace SB := zA.mk (SB.out.below hB); replace a0 := SB.out.a0; replace a1 := SB.out.a1; replace f0 := SB.out.f 0; replace f1 := SB.out.f 1; replace y0 := SB.out.y0; replace y1 := SB.out.y1; replace yf0 := SB.out.yf 0; replace yf1 := SB.out.yf 1; clear hB))
    go_meet
    exact ⟨by cases rf <;> rfl, SB⟩
   | false =>
    go_wp2_with (first | (go_at_call_of 58 (Value.int IntKind.i64 near); (first | (with_reducible refine (xW (t := R) A2 c2 SB.out.tb.tv.rd near HNEN.out false HRN.out).mono ?_; rintro e wq ⟨rfl, hB⟩) | (replace SB := zA.mk SB.out.drew; with_reducible refine (xW (t := R) A2 c2 SB.out.tb.tv.rd near HNEN.out false HRN.out).mono ?_; rintro e wq ⟨rfl, hB⟩)); replace SB := zA.mk (SB.out.below hB); replace a0 := SB.out.a0; replace a1 := SB.out.a1; replace f0 := SB.out.f 0; replace f1 := SB.out.f 1; replace y0 := SB.out.y0; replace y1 := SB.out.y1; replace yf0 := SB.out.yf 0; replace yf1 := SB.out.yf 1; clear hB) | (go_at_call_of 58 (Value.int IntKind.i64 far); (first | (with_reducible refine (xW (t := R) A2 c2 SB.out.tb.tv.rd far HFAN.out rf HRF.out).mono ?_; rintro e wq ⟨rfl, hB⟩) | (replace SB := zA.mk SB.out.drew; with_reducible refine (xW (t := R) A2 c2 SB.out.tb.tv.rd far HFAN.out rf HRF.out).mono ?_; rintro e wq ⟨rfl, hB⟩)); replace SB := zA.mk (SB.out.below hB); replace a0 := SB.out.a0; replace a1 := SB.out.a1; replace f0 := SB.out.f 0; replace f1 := SB.out.f 1; replace y0 := SB.out.y0; replace y1 := SB.out.y1; replace yf0 := SB.out.yf 0; replace yf1 := SB.out.yf 1; clear hB))
    go_meet
    exact ⟨by cases rf <;> rfl, SB⟩
  obtain ⟨rfl, SB2⟩ := hcut
  clear SB a0 a1 f0 f1 y0 y1 yf0 yf1; have SB := SB2; clear SB2
  generalize wc = W2 at SB ⊢
  have a0 := SB.out.a0; have a1 := SB.out.a1; have f0 := SB.out.f 0; have f1 := SB.out.f 1; have y0 := SB.out.y0; have y1 := SB.out.y1; have yf0 := SB.out.yf 0; have yf1 := SB.out.yf 1
  cases hbk : (!rn && !rf) with
  | true =>
   have hrn : rn = false := by cases rn <;> simp_all
   have hrf : rf = false := by cases rf <;> simp_all
   rw [hrn, hrf, if_pos ⟨rfl, rfl⟩] at hmd
   clear hrn hrf HRN HRF hbk
   obtain ⟨Y1, hh⟩ : ∃ q, q = zQ R true b := ⟨_, rfl⟩
   have HY1 := zA.mk hh.symm
   have LY1 := zA.mk (show Y1.ns.length = T.ns.length by rw [hh]; rw [zP, LR.out])
   have OY1 := zA.mk (show Ok Y1 by rw [hh]; exact OR.out.yE true b HCN.out)
   clear hh
   rw [HY1.out] at hmd
   obtain ⟨p2, hq⟩ : ∃ q, q = upA Y1 p := ⟨_, rfl⟩
   have HU := zA.mk hq.symm
   have HUN := zA.mk (show p2 < (Y1.ns.length : Int) by rw [hq]; exact OY1.out.up _)
   rw [← hq] at hmd
   clear hq
   obtain ⟨o, hq⟩ : ∃ q, q = onA Y1 p := ⟨_, rfl⟩
   have HOP := zA.mk hq.symm
   rw [← hq] at hmd
   have HMD := zA.mk hmd; clear hq hmd
   go_upto_region 10 with ((go_at_call 52; (first | (with_reducible refine (xB (own := own) (S := S) (N := N) (t := R) A2 c2 SB.out.tb.tv SB.out.sS SB.out.sN (by rw [LR.out]; exact HN.out) b HCN.out true).mono ?_; rintro e wq ⟨B1, e1, rfl, hTq, hB⟩) | (replace SB := zA.mk SB.out.drew; with_reducible refine (xB (own := own) (S := S) (N := N) (t := R) A2 c2 SB.out.tb.tv SB.out.sS SB.out.sN (by rw [LR.out]; exact HN.out) b HCN.out true).mono ?_; rintro e wq ⟨B1, e1, rfl, hTq, hB⟩)); rw [HY1.out] at hTq; have TV := zA.mk hTq; replace SB := zA.mk (SB.out.below hB); replace a0 := SB.out.a0; replace a1 := SB.out.a1; replace f0 := SB.out.f 0; replace f1 := SB.out.f 1; replace y0 := SB.out.y0; replace y1 := SB.out.y1; replace yf0 := SB.out.yf 0; replace yf1 := SB.out.yf 1; rw [HY1.out]; clear hTq hB))
   replace SB := zA.mk (SB.out.store TV.out)
   clear a0 a1 f0 f1 y0 y1 yf0 yf1
   generalize World.setCell _ _ _ = U1 at SB ⊢
   clear TV
   have a0 := SB.out.a0; have a1 := SB.out.a1; have f0 := SB.out.f 0; have f1 := SB.out.f 1; have y0 := SB.out.y0; have y1 := SB.out.y1; have yf0 := SB.out.yf 0; have yf1 := SB.out.yf 1
   go_upto_region 11 with ((go_at_call 51; (first | (with_reducible refine (jX (t := Y1) B1 e1 SB.out.tb.tv.rd OY1.out p P0.out (by rw [LY1.out]; exact HP.out) (sd o) (by rw [HOP.out])).mono ?_; rintro e wq ⟨rfl, hB⟩) | (replace SB := zA.mk SB.out.drew; with_reducible refine (jX (t := Y1) B1 e1 SB.out.tb.tv.rd OY1.out p P0.out (by rw [LY1.out]; exact HP.out) (sd o) (by rw [HOP.out])).mono ?_; rintro e wq ⟨rfl, hB⟩)); replace SB := zA.mk (SB.out.below hB); replace a0 := SB.out.a0; replace a1 := SB.out.a1; replace f0 := SB.out.f 0; replace f1 := SB.out.f 1; replace y0 := SB.out.y0; replace y1 := SB.out.y1; replace yf0 := SB.out.yf 0; replace yf1 := SB.out.yf 1; clear hB))
   obtain ⟨ad, e2⟩ := SB.out.some (by rw [LY1.out]; have := HP.out; have := P0.out; omega)
   subst e2
   obtain ⟨d0, d1, d2, d3, d4, d5⟩ := kH SB.out.tb.tv.rd p P0.out (by rw [LY1.out]; exact HP.out)
   clear d0 d1 d2 d3 d4
   rw [HU.out] at d5
   have hp1 : p < (Y1.ns.length : Int) := by rw [LY1.out]; exact HP.out
   have hp0' := P0.out
   go_wp2
   have hq : SRel own S N w t.ns.length t' (Value.int IntKind.i64 p2) (Value.int IntKind.i64 (sd o)) _ m := ⟨Y1, p2, o, some ad, e1, rfl, rfl, SB.out, OY1.out, HUN.out, by rw [LY1.out]; exact HNN.out, HMD.out⟩
   refine ⟨⟨m, hq⟩, ?_⟩
   have h3 := (xE ⟨m, hq⟩).2 m hq
   exact Nat.lt_of_le_of_lt h3 (by rw [HLK.out]; omega)
  | false =>
  rw [if_neg (by intro h; rw [h.1, h.2] at hbk; cases hbk)] at hmd
  obtain ⟨Y1, hh⟩ : ∃ q, q = zQ R false near := ⟨_, rfl⟩
  have HY1 := zA.mk hh.symm
  have LY1 := zA.mk (show Y1.ns.length = T.ns.length by rw [hh]; rw [zP, LR.out])
  have OY1 := zA.mk (show Ok Y1 by rw [hh]; exact OR.out.yE false near HNEN.out)
  clear hh
  obtain ⟨Y2, hh⟩ : ∃ q, q = zQ Y1 true b := ⟨_, rfl⟩
  have HY2 := zA.mk hh.symm
  have LY2 := zA.mk (show Y2.ns.length = T.ns.length by rw [hh]; rw [zP, LY1.out])
  have OY2 := zA.mk (show Ok Y2 by rw [hh]; exact OY1.out.yE true b (by rw [LY1.out, ← LR.out]; exact HCN.out))
  clear hh
  obtain ⟨Y3, hh⟩ : ∃ q, q = yU Y2 b (!s) := ⟨_, rfl⟩
  have HY3 := zA.mk hh.symm
  have LY3 := zA.mk (show Y3.ns.length = T.ns.length by rw [hh]; rw [xM, LY2.out])
  have OY3 := zA.mk (show Ok Y3 by rw [hh]; exact OY2.out.turn b (!s) (by rw [LY2.out, ← LR.out]; exact HCN.out))
  clear hh
  rw [HY1.out, HY2.out, HY3.out] at hmd
  have KY := zA.mk (show kidA Y2 b s = near by rw [← HY2.out, yC _ _ _ _ _ (by rw [LY1.out, ← LR.out]; exact HCN.out), ← HY1.out, yC _ _ _ _ _ HNEN.out]; exact HNE.out)
  obtain ⟨Q, b3, f3, hQ0, hQ1, hQ2, hQ3, hQ4, hQ5, hQ6, hQ7, hQ8⟩ : ∃ (Q : St) (b3 f3 : Int), (rf = true → Q = R ∧ b3 = b ∧ f3 = far) ∧ (rf = false → rn = true ∧ Q = Y3 ∧ b3 = near ∧ f3 = b) ∧ xQ Q p s b3 f3 = some t' ∧ Ok Q ∧ Q.ns.length = T.ns.length ∧ kidA Q p (!s) = b3 ∧ kidA Q b3 (!s) = f3 ∧ 0 ≤ b3 ∧ f3 < (T.ns.length : Int) := by
   cases rf with
   | true =>
    rw [if_neg (by simp)] at hmd
    exact ⟨R, b, far, (fun _ => ⟨rfl, rfl, rfl⟩), (fun h => by cases h), hmd, OR.out, LR.out, HRb.out, HFA.out, BC0.out, by rw [← LR.out]; exact HFAN.out⟩
   | false =>
    have hrn : rn = true := by cases rn <;> simp_all
    rw [if_pos rfl] at hmd
    have hcc : kidA Y3 p (!s) = near ∧ kidA Y3 near (!s) = b := by
     rw [xQ] at hmd
     by_cases hcc : kidA Y3 p (!s) = near ∧ kidA Y3 near (!s) = b
     ·exact hcc
     rw [if_neg hcc] at hmd; cases hmd
    exact ⟨Y3, near, b, (fun h => by cases h), (fun _ => ⟨hrn, rfl, rfl, rfl⟩), hmd, OY3.out, LY3.out, hcc.1, hcc.2, vY (by rw [HRN.out]; exact hrn), by rw [← LR.out]; exact HCN.out⟩
  clear hmd hbk; have HQ0 := zA.mk hQ0; have HQ1 := zA.mk hQ1; have HMD := zA.mk hQ2; have OQ := zA.mk hQ3; have LQ := zA.mk hQ4; have HQb := zA.mk hQ5; have HQf := zA.mk hQ6; have B30 := zA.mk hQ7; have F3N := zA.mk hQ8; clear hQ0 hQ1 hQ2 hQ3 hQ4 hQ5 hQ6 hQ7 hQ8
  go_upto_if 76 with ((go_at_call_of 58 (Value.int IntKind.i64 far); (first | (with_reducible refine (xW (t := R) A2 c2 SB.out.tb.tv.rd far HFAN.out rf HRF.out).mono ?_; rintro e wq ⟨rfl, hB⟩) | (replace SB := zA.mk SB.out.drew; with_reducible refine (xW (t := R) A2 c2 SB.out.tb.tv.rd far HFAN.out rf HRF.out).mono ?_; rintro e wq ⟨rfl, hB⟩)); replace SB := zA.mk (SB.out.below hB); replace a0 := SB.out.a0; replace a1 := SB.out.a1; replace f0 := SB.out.f 0; replace f1 := SB.out.f 1; replace y0 := SB.out.y0; replace y1 := SB.out.y1; replace yf0 := SB.out.yf 0; replace yf1 := SB.out.yf 1; clear hB))
  go_cut [7, 9] (fun s7 s9 wx => s7 = .int .i64 b3 ∧ s9 = .int .i64 f3 ∧ ∃ (A : Option Addr) (c : Nat), zA (Sb own S N w wx w.heap.size (w.heap.size + 1) Q A c))
  case first =>
   cases rf with
   | true =>
    obtain ⟨rfl, rfl, rfl⟩ := HQ0.out rfl
    go_wp2_with fail
    go_meet
    exact ⟨rfl, rfl, _, _, SB⟩
   | false =>
    obtain ⟨hrn, rfl, rfl, rfl⟩ := HQ1.out rfl
    have N0 := B30; clear hrn
    go_upto_region 14 with (first | (go_at_call_of 52 (Value.int IntKind.i64 b3); (first | (with_reducible refine (xB (own := own) (S := S) (N := N) (t := R) A2 c2 SB.out.tb.tv SB.out.sS SB.out.sN (by rw [LR.out]; exact HN.out) b3 HNEN.out false).mono ?_; rintro e wq ⟨B1, e1, rfl, hTq, hB⟩) | (replace SB := zA.mk SB.out.drew; with_reducible refine (xB (own := own) (S := S) (N := N) (t := R) A2 c2 SB.out.tb.tv SB.out.sS SB.out.sN (by rw [LR.out]; exact HN.out) b3 HNEN.out false).mono ?_; rintro e wq ⟨B1, e1, rfl, hTq, hB⟩)); rw [HY1.out] at hTq; have TV := zA.mk hTq; replace SB := zA.mk (SB.out.below hB); replace a0 := SB.out.a0; replace a1 := SB.out.a1; replace f0 := SB.out.f 0; replace f1 := SB.out.f 1; replace y0 := SB.out.y0; replace y1 := SB.out.y1; replace yf0 := SB.out.yf 0; replace yf1 := SB.out.yf 1; rw [HY1.out]; clear hTq hB) | (go_at_call_of 52 (Value.int IntKind.i64 f3); (first | (with_reducible refine (xB (own := own) (S := S) (N := N) (t := Y1) B1 e1 TV.out SB.out.sS SB.out.sN (by rw [LY1.out]; exact HN.out) f3 (by rw [LY1.out]; exact F3N.out) true).mono ?_; rintro e wq ⟨B2, e2, rfl, hTq, hB⟩) | (replace SB := zA.mk SB.out.drew; with_reducible refine (xB (own := own) (S := S) (N := N) (t := Y1) B1 e1 TV.out SB.out.sS SB.out.sN (by rw [LY1.out]; exact HN.out) f3 (by rw [LY1.out]; exact F3N.out) true).mono ?_; rintro e wq ⟨B2, e2, rfl, hTq, hB⟩)); rw [HY2.out] at hTq; have TV := zA.mk hTq; replace SB := zA.mk (SB.out.below hB); replace a0 := SB.out.a0; replace a1 := SB.out.a1; replace f0 := SB.out.f 0; replace f1 := SB.out.f 1; replace y0 := SB.out.y0; replace y1 := SB.out.y1; replace yf0 := SB.out.yf 0; replace yf1 := SB.out.yf 1; rw [HY2.out]; clear hTq hB) | (go_at_call 70; (first | (with_reducible refine (jW (own := own) (S := S) (N := N) (t := Y2) B2 e2 TV.out SB.out.sS SB.out.sN (by rw [LY2.out]; exact HN.out) OY2.out f3 BC0.out (by rw [LY2.out]; exact F3N.out) (!s) zn HZN.out (by rw [Bool.not_not, KY.out]; exact N0.out)).mono ?_; rintro e wq ⟨B3, e3, rfl, hTq, hB⟩) | (replace SB := zA.mk SB.out.drew; with_reducible refine (jW (own := own) (S := S) (N := N) (t := Y2) B2 e2 TV.out SB.out.sS SB.out.sN (by rw [LY2.out]; exact HN.out) OY2.out f3 BC0.out (by rw [LY2.out]; exact F3N.out) (!s) zn HZN.out (by rw [Bool.not_not, KY.out]; exact N0.out)).mono ?_; rintro e wq ⟨B3, e3, rfl, hTq, hB⟩)); rw [HY3.out] at hTq; have TV := zA.mk hTq; replace SB := zA.mk (SB.out.below hB); replace a0 := SB.out.a0; replace a1 := SB.out.a1; replace f0 := SB.out.f 0; replace f1 := SB.out.f 1; replace y0 := SB.out.y0; replace y1 := SB.out.y1; replace yf0 := SB.out.yf 0; replace yf1 := SB.out.yf 1; rw [HY3.out]; clear hTq hB))
    replace SB := zA.mk (SB.out.store TV.out)
    clear a0 a1 f0 f1 y0 y1 yf0 yf1
    generalize World.setCell _ _ _ = U3 at SB ⊢
    clear TV
    have a0 := SB.out.a0; have a1 := SB.out.a1; have f0 := SB.out.f 0; have f1 := SB.out.f 1; have y0 := SB.out.y0; have y1 := SB.out.y1; have yf0 := SB.out.yf 0; have yf1 := SB.out.yf 1
    go_wp2_with (first | (go_at_call_of 38 (Value.int IntKind.i64 p); (first | (with_reducible refine (qV (t := Q) B3 e3 SB.out.tb.tv.rd p P0.out (by rw [LQ.out]; exact HP.out) (!s) zn HZN.out b3 HQb.out).mono ?_; rintro e wq ⟨rfl, hB⟩) | (replace SB := zA.mk SB.out.drew; with_reducible refine (qV (t := Q) B3 e3 SB.out.tb.tv.rd p P0.out (by rw [LQ.out]; exact HP.out) (!s) zn HZN.out b3 HQb.out).mono ?_; rintro e wq ⟨rfl, hB⟩)); replace SB := zA.mk (SB.out.below hB); replace a0 := SB.out.a0; replace a1 := SB.out.a1; replace f0 := SB.out.f 0; replace f1 := SB.out.f 1; replace y0 := SB.out.y0; replace y1 := SB.out.y1; replace yf0 := SB.out.yf 0; replace yf1 := SB.out.yf 1; clear hB) | (go_at_call_of 38 (Value.int IntKind.i64 b3); (first | (with_reducible refine (qV (t := Q) B3 e3 SB.out.tb.tv.rd b3 N0.out (by rw [← HQb.out]; exact OQ.out.kid _ _) (!s) zn HZN.out f3 HQf.out).mono ?_; rintro e wq ⟨rfl, hB⟩) | (replace SB := zA.mk SB.out.drew; with_reducible refine (qV (t := Q) B3 e3 SB.out.tb.tv.rd b3 N0.out (by rw [← HQb.out]; exact OQ.out.kid _ _) (!s) zn HZN.out f3 HQf.out).mono ?_; rintro e wq ⟨rfl, hB⟩)); replace SB := zA.mk (SB.out.below hB); replace a0 := SB.out.a0; replace a1 := SB.out.a1; replace f0 := SB.out.f 0; replace f1 := SB.out.f 1; replace y0 := SB.out.y0; replace y1 := SB.out.y1; replace yf0 := SB.out.yf 0; replace yf1 := SB.out.yf 1; clear hB))
    go_meet
    exact ⟨rfl, rfl, _, _, SB⟩
  obtain ⟨rfl, rfl, A3, c3, SB2⟩ := hcut
  clear SB a0 a1 f0 f1 y0 y1 yf0 yf1 HQ0 HQ1 HY1 LY1 OY1 HY2 LY2 OY2 HY3 LY3 OY3 KY HRN HRF OR HNE HNEN HFA HFAN HCN BC0; have SB := SB2; clear SB2
  generalize wc = W3 at SB ⊢
  have a0 := SB.out.a0; have a1 := SB.out.a1; have f0 := SB.out.f 0; have f1 := SB.out.f 1; have y0 := SB.out.y0; have y1 := SB.out.y1; have yf0 := SB.out.yf 0; have yf1 := SB.out.yf 1
  have hmd := HMD.out
  rw [xQ, if_pos ⟨HQb.out, HQf.out⟩] at hmd
  replace hmd := Option.some.inj hmd
  clear HMD
  have B3N := zA.mk (show b3 < (Q.ns.length : Int) by rw [← HQb.out]; exact OQ.out.kid _ _)
  obtain ⟨rp, hrp⟩ : ∃ q, q = redA Q p := ⟨_, rfl⟩
  rw [← hrp] at hmd
  have HRP := zA.mk hrp.symm
  clear hrp
  obtain ⟨X1, hh⟩ : ∃ q, q = zQ Q rp b3 := ⟨_, rfl⟩
  have HX1 := zA.mk hh.symm
  have LX1 := zA.mk (show X1.ns.length = T.ns.length by rw [hh]; rw [zP, LQ.out])
  have OX1 := zA.mk (show Ok X1 by rw [hh]; exact OQ.out.yE rp b3 B3N.out)
  clear hh
  obtain ⟨X2, hh⟩ : ∃ q, q = zQ X1 false p := ⟨_, rfl⟩
  have HX2 := zA.mk hh.symm
  have LX2 := zA.mk (show X2.ns.length = T.ns.length by rw [hh]; rw [zP, LX1.out])
  have OX2 := zA.mk (show Ok X2 by rw [hh]; exact OX1.out.yE false p (by rw [LX1.out]; exact HP.out))
  clear hh
  obtain ⟨X3, hh⟩ : ∃ q, q = zQ X2 false f3 := ⟨_, rfl⟩
  have HX3 := zA.mk hh.symm
  have LX3 := zA.mk (show X3.ns.length = T.ns.length by rw [hh]; rw [zP, LX2.out])
  have OX3 := zA.mk (show Ok X3 by rw [hh]; exact OX2.out.yE false f3 (by rw [LX2.out]; exact F3N.out))
  clear hh
  rw [HX1.out, HX2.out, HX3.out] at hmd
  have HMD := zA.mk hmd; clear hmd
  have KX := zA.mk (show kidA X3 p (!s) = b3 by rw [← HX3.out, yC _ _ _ _ _ (by rw [LX2.out]; exact F3N.out), ← HX2.out, yC _ _ _ _ _ (by rw [LX1.out]; exact HP.out), ← HX1.out, yC _ _ _ _ _ B3N.out]; exact HQb.out)
  obtain ⟨ad, e1⟩ := SB.out.some (by rw [LQ.out]; have := HP.out; have := P0.out; omega)
  subst e1
  obtain ⟨d0, d1, d2, d3, d4, d5⟩ := kH SB.out.tb.tv.rd p P0.out (by rw [LQ.out]; exact HP.out)
  clear d0 d2 d3 d4 d5
  rw [HRP.out] at d1
  have hp1 : p < (Q.ns.length : Int) := (by rw [LQ.out]; exact HP.out)
  have hp0' := P0.out
  go_upto_region 16 with (fail)
  go_still_tail 8, (by kernel_rfl)
  change wpList _ _ _ _ _ (World.drew _)
  replace SB := zA.mk SB.out.drew
  clear a0 a1 f0 f1 y0 y1 yf0 yf1
  generalize World.drew _ = U0 at SB ⊢
  have a0 := SB.out.a0; have a1 := SB.out.a1; have f0 := SB.out.f 0; have f1 := SB.out.f 1; have y0 := SB.out.y0; have y1 := SB.out.y1; have yf0 := SB.out.yf 0; have yf1 := SB.out.yf 1
  clear d1 hp1 hp0'
  go_upto_region 17 with ((go_at_call 52; (first | (with_reducible refine (xB (own := own) (S := S) (N := N) (t := Q) (some ad) c3 SB.out.tb.tv SB.out.sS SB.out.sN (by rw [LQ.out]; exact HN.out) b3 B3N.out rp).mono ?_; rintro e wq ⟨B1, e1, rfl, hTq, hB⟩) | (replace SB := zA.mk SB.out.drew; with_reducible refine (xB (own := own) (S := S) (N := N) (t := Q) (some ad) c3 SB.out.tb.tv SB.out.sS SB.out.sN (by rw [LQ.out]; exact HN.out) b3 B3N.out rp).mono ?_; rintro e wq ⟨B1, e1, rfl, hTq, hB⟩)); rw [HX1.out] at hTq; have TV := zA.mk hTq; replace SB := zA.mk (SB.out.below hB); replace a0 := SB.out.a0; replace a1 := SB.out.a1; replace f0 := SB.out.f 0; replace f1 := SB.out.f 1; replace y0 := SB.out.y0; replace y1 := SB.out.y1; replace yf0 := SB.out.yf 0; replace yf1 := SB.out.yf 1; rw [HX1.out]; clear hTq hB))
  replace SB := zA.mk (SB.out.store TV.out)
  clear a0 a1 f0 f1 y0 y1 yf0 yf1
  generalize World.setCell _ _ _ = U1 at SB ⊢
  clear TV
  have a0 := SB.out.a0; have a1 := SB.out.a1; have f0 := SB.out.f 0; have f1 := SB.out.f 1; have y0 := SB.out.y0; have y1 := SB.out.y1; have yf0 := SB.out.yf 0; have yf1 := SB.out.yf 1
  go_upto_region 18 with (first | (go_at_call_of 52 (Value.int IntKind.i64 p); (first | (with_reducible refine (xB (own := own) (S := S) (N := N) (t := X1) B1 e1 SB.out.tb.tv SB.out.sS SB.out.sN (by rw [LX1.out]; exact HN.out) p (by rw [LX1.out]; exact HP.out) false).mono ?_; rintro e wq ⟨B2, e2, rfl, hTq, hB⟩) | (replace SB := zA.mk SB.out.drew; with_reducible refine (xB (own := own) (S := S) (N := N) (t := X1) B1 e1 SB.out.tb.tv SB.out.sS SB.out.sN (by rw [LX1.out]; exact HN.out) p (by rw [LX1.out]; exact HP.out) false).mono ?_; rintro e wq ⟨B2, e2, rfl, hTq, hB⟩)); rw [HX2.out] at hTq; have TV := zA.mk hTq; replace SB := zA.mk (SB.out.below hB); replace a0 := SB.out.a0; replace a1 := SB.out.a1; replace f0 := SB.out.f 0; replace f1 := SB.out.f 1; replace y0 := SB.out.y0; replace y1 := SB.out.y1; replace yf0 := SB.out.yf 0; replace yf1 := SB.out.yf 1; rw [HX2.out]; clear hTq hB) | (go_at_call_of 52 (Value.int IntKind.i64 f3); (first | (with_reducible refine (xB (own := own) (S := S) (N := N) (t := X2) B2 e2 TV.out SB.out.sS SB.out.sN (by rw [LX2.out]; exact HN.out) f3 (by rw [LX2.out]; exact F3N.out) false).mono ?_; rintro e wq ⟨B3, e3, rfl, hTq, hB⟩) | (replace SB := zA.mk SB.out.drew; with_reducible refine (xB (own := own) (S := S) (N := N) (t := X2) B2 e2 TV.out SB.out.sS SB.out.sN (by rw [LX2.out]; exact HN.out) f3 (by rw [LX2.out]; exact F3N.out) false).mono ?_; rintro e wq ⟨B3, e3, rfl, hTq, hB⟩)); rw [HX3.out] at hTq; have TV := zA.mk hTq; replace SB := zA.mk (SB.out.below hB); replace a0 := SB.out.a0; replace a1 := SB.out.a1; replace f0 := SB.out.f 0; replace f1 := SB.out.f 1; replace y0 := SB.out.y0; replace y1 := SB.out.y1; replace yf0 := SB.out.yf 0; replace yf1 := SB.out.yf 1; rw [HX3.out]; clear hTq hB))
  replace SB := zA.mk (SB.out.store TV.out)
  clear a0 a1 f0 f1 y0 y1 yf0 yf1
  generalize World.setCell _ _ _ = U2 at SB ⊢
  clear TV
  have a0 := SB.out.a0; have a1 := SB.out.a1; have f0 := SB.out.f 0; have f1 := SB.out.f 1; have y0 := SB.out.y0; have y1 := SB.out.y1; have yf0 := SB.out.yf 0; have yf1 := SB.out.yf 1
  go_wp2_with (go_at_call 70; (first | (with_reducible refine (jW (own := own) (S := S) (N := N) (t := X3) B3 e3 SB.out.tb.tv SB.out.sS SB.out.sN (by rw [LX3.out]; exact HN.out) OX3.out p P0.out (by rw [LX3.out]; exact HP.out) s z HZ.out (by rw [KX.out]; exact B30.out)).mono ?_; rintro e wq ⟨B4, e4, rfl, hTq, hB⟩) | (replace SB := zA.mk SB.out.drew; with_reducible refine (jW (own := own) (S := S) (N := N) (t := X3) B3 e3 SB.out.tb.tv SB.out.sS SB.out.sN (by rw [LX3.out]; exact HN.out) OX3.out p P0.out (by rw [LX3.out]; exact HP.out) s z HZ.out (by rw [KX.out]; exact B30.out)).mono ?_; rintro e wq ⟨B4, e4, rfl, hTq, hB⟩)); rw [HMD.out] at hTq; have TV := zA.mk hTq; replace SB := zA.mk (SB.out.below hB); replace a0 := SB.out.a0; replace a1 := SB.out.a1; replace f0 := SB.out.f 0; replace f1 := SB.out.f 1; replace y0 := SB.out.y0; replace y1 := SB.out.y1; replace yf0 := SB.out.yf 0; replace yf1 := SB.out.yf 1; rw [HMD.out]; clear hTq hB)
  refine bodyPost_ret (xP (cs := #[.int .i64 (t').rt, .slice B4 (t').ns.length e4]) rfl _ _ (w.heap.size + 1) 24 (0, 0) _ rfl (jZ SB.out.zb rfl _ _) Tryd.underlying24 rfl (by kernel_rfl)) rfl ?_
  exact SB.out.fin TV.out
end Go.Proofs.YtfapmcpmfeigbaaDoor.Tm
