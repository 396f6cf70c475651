/- Parts of the proof, joined: Rm10. -/
import Derived.Test.YtfapmcpmfeigbaaDoorUD25
import Derived.Test.YtfapmcpmfeigbaaDoorUD16
namespace Go.Proofs.YtfapmcpmfeigbaaDoor.Tm
open Go.RowKit Go Go.Proofs Go.Proofs.YtfapmcpmfeigbaaDoor Go.Proofs.YtfapmcpmfeigbaaDoor.Tr Go.Proofs.YtfapmcpmfeigbaaDoor.Tk Go.Proofs.YtfapmcpmfeigbaaDoorW.PrintWords Go.Proofs.YtfapmcpmfeigbaaDoorW.PrintLast Go.Proofs.YtfapmcpmfeigbaaDoorW.PrintMore
set_option linter.unusedVariables false
set_option linter.unusedSimpArgs false
variable {w : World} {t : St}
theorem rblacks_v (a : T) {u : Option Int} (A : Option Addr) (c : Nat) (hr : kn.C w A t.ns.length t.ns) (hL : Lay t a u) (hs : a.size ≤ 1000000) (x : Int) (hx : x = a.rt) :
  Calls Tryd.prog 59 #[.agg #[.int .i64 t.rt, .slice A t.ns.length c], .int .i64 x] w fun e w' => e = .returned (.int .i64 (blR a)) ∧ Below w.heap.size w w' := by
 rw [hx]
 exact rblacks_ a w u A c hr hL hs
set_option maxHeartbeats 16000000 in
set_option maxRecDepth 100000 in
theorem rWalk_ (A : Option Addr) (c : Nat) (hr : kn.C w A t.ns.length t.ns) (hl : t.ns.length ≤ 1000000) :
  Calls Tryd.prog 22 #[.agg #[.int .i64 t.rt, .slice A t.ns.length c]] w fun e w' => KPost w (jF t) e w' := by
 have SB := zA.mk (Hb.start (c := c) hr)
 have HL := zA.mk hl; clear hr
 go_enter Tryd.func22, Tryd.ntmps22
 go_upto_region 1 with (fail)
 generalize w.alloc (.cells #[.int .i64 t.rt, .slice A t.ns.length c] 24) = W1 at SB ⊢
 have a0 := SB.out.a0
 have a1 := SB.out.a1
 cases hO : ordA t with
 | none =>
  have HO := zA.mk hO; clear hO
  go_wp2_with (go_at_call 57; with_reducible refine (zbX (t := t) A c SB.out.rd HL.out).mono ?_; rintro e wq ⟨hB, hno, hyes⟩; obtain rfl := hno HO.out; replace SB := zA.mk (SB.out.below hB); clear hB hno hyes)
  go_ret
  exact ⟨_, rfl, by rw [walkA_none HO.out]; exact Kd.vE _ _ _ _ _, SB.out.bb⟩
 | some a =>
  have HO := zA.mk hO
  have hwh := (qD.1 hO).2
  have HKE := zA.mk (kU hO)
  have HID := zA.mk (show ∀ z ∈ a.ids, z < t.ns.length from fun z hz => hwh.lay.lt z hz)
  have HLI := zA.mk (show a.ids.length ≤ 64 from Nat.le_trans (xO hwh.nd HID.out) (qD.1 hO).1)
  clear hO hwh
  go_upto_region 4 with (go_at_call 57; with_reducible refine (zbX (t := t) A c SB.out.rd HL.out).mono ?_; rintro e wq ⟨hB, hno, hyes⟩; obtain ⟨A3, c3, rfl, hC⟩ := hyes a HO.out; replace SB := zA.mk (SB.out.below hB); have HC := zA.mk hC; clear hB hno hyes hC)
  clear a0 a1
  go_wp2
  go_loopw [5, 6] (fun v i wr => ∃ k : Nat, k ≤ a.ids.length ∧ i = .int .i64 k ∧ zA (Hb w wr w.heap.size t A c) ∧ zA (Below wq.heap.size wq wr) ∧ zA (kp.R 27 wr wq.heap.size (fun _ => True) v (keysOf t (a.ids.take k)))) (fun v i wr => a.ids.length - (intOf i).toNat)
  case atStart => exact ⟨0, Nat.zero_le _, rfl, SB, ⟨Below.refl _ _⟩, ⟨Kd.vE _ _ _ _ _⟩⟩
  case round =>
   have HSZ := zA.mk SB.out.bb.size
   have HSBQ := zA.mk SB.out
   clear SB
   obtain ⟨k, hk, rfl, SB, HB, HR⟩ := hrel
   have h64 := HLI.out
   by_cases hlt : k < a.ids.length
   rotate_left
   ·obtain rfl : k = a.ids.length := by omega
    go_wp2
    go_ret
    refine ⟨_, rfl, ?_, SB.out.bb⟩
    rw [HKE.out, ← List.take_length (l := a.ids)]
    exact Kd.qB HR.out HSZ.out
   have hn1 : (k : Int) < (a.ids.length : Int) := by omega
   have HN1 := zA.mk (show ((k : Int) + 1).toNat = k + 1 by omega)
   obtain ⟨ad, e1, c1⟩ := int_at (Kd.zY HC.out HB.out) k hlt
   subst e1
   rw [iz_at _ _ hlt] at c1
   have HKT := zA.mk (keys_take t a.ids k hlt)
   have HXI := zA.mk (HID.out a.ids[k] (List.getElem_mem hlt))
   have HXK := zA.mk (iz_at a.ids k hlt)
   generalize a.ids[k] = x at c1 HKT HXI HXK
   have hxn := HXI.out
   have hxi : (x : Int) < (t.ns.length : Int) := by omega
   obtain ⟨ad2, e2, d0, d1, d2, d3, d4, d5⟩ := zaA SB.out.rd (x : Int) (by omega) hxi
   subst e2
   rw [Int.toNat_natCast] at d2
   have d6 : wr.cell? ⟨(ad2.add (x * 6)).block, (ad2.add (x * 6)).off + 2, none⟩ = some (.int .u64 (gn t x).v) := d2
   have a1 := SB.out.a1
   clear d0 d1 d2 d3 d4 d5
   obtain ⟨vx, hvx⟩ : ∃ vx, vx = (gn t x).v := ⟨_, rfl⟩
   have HXV := zA.mk hvx.symm
   rw [← hvx] at d6 HKT
   clear hvx
   obtain ⟨A6, c6, hv6, _, _⟩ := Kd.qG HR.out
   have HLK := zA.mk (show (keysOf t (a.ids.take k)).length = k by unfold keysOf; rw [List.length_map, List.length_take]; omega)
   subst hv6
   go_upto_region 8 with (fail)
   have C1 := zA.mk (show wr.drew.cell? (ad.add k) = some (.int .i64 (x : Int)) from c1)
   have D6 := zA.mk (show wr.drew.cell? ⟨(ad2.add (x * 6)).block, (ad2.add (x * 6)).off + 2, none⟩ = some (.int .u64 vx) from d6)
   refine jQ (n := 18) (S := fun w' => w'.cell? ⟨w.heap.size, 1, none⟩ = some (.slice (some ad2) t.ns.length c) ∧ w'.cell? (ad.add k) = some (.int .i64 (x : Int)) ∧ w'.cell? ⟨(ad2.add (x * 6)).block, (ad2.add (x * 6)).off + 2, none⟩ = some (.int .u64 vx)) (ds := []) #[false, false, false, false, false, false, false, false, false, false, false, false, false, false, false, false, false, false] (by kernel_rfl) rfl rfl ⟨SB.out.drew.a1, C1.out, D6.out⟩ (fun hHeld => ?_)
   replace SB := zA.mk SB.out.drew
   replace HB := zA.mk (Below.drew HB.out)
   replace HR := zA.mk (Kd.yG HR.out (Below.drew (Below.refl _ _)))
   clear a1 c1 d6
   generalize wr.drew = V0 at SB HB HR C1 D6 hHeld ⊢
   refine yB (i := 0) (N := some 20) (v := ?_) (a' := ?_) #[true, false, false, false, false, false, false, false, false, false, false, false, false, false, false, false, false, false] rfl rfl (by kernel_rfl) (fun _ _ _ h => h) (Or.inl ⟨by rfl, ?_⟩) ?_ ?_
   rotate_left
   ·intro w'
    go_simp
    with_reducible rfl
   rotate_left
   ·(simp only [Act.put, List.setIfInBounds_toArray, List.set_cons_zero, List.set_cons_succ, zU, zV]; rfl)
   refine yB (i := 1) (N := some 21) (v := ?_) (a' := ?_) #[true, true, false, false, false, false, false, false, false, false, false, false, false, false, false, false, false, false] rfl rfl (by kernel_rfl) (fun _ _ _ h => h) (Or.inl ⟨by rfl, ?_⟩) ?_ ?_
   rotate_left
   ·intro w'
    go_simp
    with_reducible rfl
   rotate_left
   ·(simp only [Act.put, List.setIfInBounds_toArray, List.set_cons_zero, List.set_cons_succ, zU, zV]; rfl)
   refine x9 (i := 2) (N := some 22) (v := ?_) (a' := ?_) #[true, true, true, false, false, false, false, false, false, false, false, false, false, false, false, false, false, false] rfl rfl (by kernel_rfl) (fun _ _ _ h => h) (Or.inl ⟨by rfl, ?_⟩) hHeld ?_ ?_
   rotate_left
   ·rintro w' ⟨s1, s2, s3⟩
    go_simp
    with_reducible rfl
   rotate_left
   ·(simp only [Act.put, List.setIfInBounds_toArray, List.set_cons_zero, List.set_cons_succ, zU, zV]; rfl)
   refine yB (i := 3) (N := some 23) (v := ?_) (a' := ?_) #[true, true, true, true, false, false, false, false, false, false, false, false, false, false, false, false, false, false] rfl rfl (by kernel_rfl) (fun _ _ _ h => h) (Or.inl ⟨by rfl, ?_⟩) ?_ ?_
   rotate_left
   ·intro w'
    go_simp
    with_reducible rfl
   rotate_left
   ·(simp only [Act.put, List.setIfInBounds_toArray, List.set_cons_zero, List.set_cons_succ, zU, zV]; rfl)
   refine yB (i := 4) (N := some 24) (v := ?_) (a' := ?_) #[true, true, true, true, true, false, false, false, false, false, false, false, false, false, false, false, false, false] rfl rfl (by kernel_rfl) (fun _ _ _ h => h) (Or.inl ⟨by rfl, ?_⟩) ?_ ?_
   rotate_left
   ·intro w'
    go_simp
    with_reducible rfl
   rotate_left
   ·(simp only [Act.put, List.setIfInBounds_toArray, List.set_cons_zero, List.set_cons_succ, zU, zV]; rfl)
   refine yB (i := 5) (N := some 25) (v := ?_) (a' := ?_) #[true, true, true, true, true, true, false, false, false, false, false, false, false, false, false, false, false, false] rfl rfl (by kernel_rfl) (fun _ _ _ h => h) (Or.inl ⟨by rfl, ?_⟩) ?_ ?_
   rotate_left
   ·intro w'
    go_simp
    with_reducible rfl
   rotate_left
   ·(simp only [Act.put, List.setIfInBounds_toArray, List.set_cons_zero, List.set_cons_succ, zU, zV]; rfl)
   refine x9 (i := 6) (N := some 26) (v := ?_) (a' := ?_) #[true, true, true, true, true, true, true, false, false, false, false, false, false, false, false, false, false, false] rfl rfl (by kernel_rfl) (fun _ _ _ h => h) (Or.inl ⟨by rfl, ?_⟩) hHeld ?_ ?_
   rotate_left
   ·rintro w' ⟨s1, s2, s3⟩
    go_simp
    with_reducible rfl
   rotate_left
   ·(simp only [Act.put, List.setIfInBounds_toArray, List.set_cons_zero, List.set_cons_succ, zU, zV]; rfl)
   refine yB (i := 7) (N := some 27) (v := ?_) (a' := ?_) #[true, true, true, true, true, true, true, true, false, false, false, false, false, false, false, false, false, false] rfl rfl (by kernel_rfl) (fun _ _ _ h => h) (Or.inl ⟨by rfl, ?_⟩) ?_ ?_
   rotate_left
   ·intro w'
    go_simp
    with_reducible rfl
   rotate_left
   ·(simp only [Act.put, List.setIfInBounds_toArray, List.set_cons_zero, List.set_cons_succ, zU, zV]; rfl)
   refine yB (i := 8) (N := some 28) (v := ?_) (a' := ?_) #[true, true, true, true, true, true, true, true, true, false, false, false, false, false, false, false, false, false] rfl rfl (by kernel_rfl) (fun _ _ _ h => h) (Or.inl ⟨by rfl, ?_⟩) ?_ ?_
   rotate_left
   ·intro w'
    go_simp
    with_reducible rfl
   rotate_left
   ·(simp only [Act.put, List.setIfInBounds_toArray, List.set_cons_zero, List.set_cons_succ, zU, zV]; rfl)
   refine x9 (i := 9) (N := some 29) (v := ?_) (a' := ?_) #[true, true, true, true, true, true, true, true, true, true, false, false, false, false, false, false, false, false] rfl rfl (by kernel_rfl) (fun _ _ _ h => h) (Or.inl ⟨by rfl, ?_⟩) hHeld ?_ ?_
   rotate_left
   ·rintro w' ⟨s1, s2, s3⟩
    go_simp
    with_reducible rfl
   rotate_left
   ·(simp only [Act.put, List.setIfInBounds_toArray, List.set_cons_zero, List.set_cons_succ, zU, zV]; rfl)
   refine yB (i := 10) (N := some 30) (v := ?_) (a' := ?_) #[true, true, true, true, true, true, true, true, true, true, true, false, false, false, false, false, false, false] rfl rfl (by kernel_rfl) (fun _ _ _ h => h) (Or.inl ⟨by rfl, ?_⟩) ?_ ?_
   rotate_left
   ·intro w'
    go_simp
    with_reducible rfl
   rotate_left
   ·(simp only [Act.put, List.setIfInBounds_toArray, List.set_cons_zero, List.set_cons_succ, zU, zV]; rfl)
   refine yB (i := 11) (N := some 31) (v := ?_) (a' := ?_) #[true, true, true, true, true, true, true, true, true, true, true, true, false, false, false, false, false, false] rfl rfl (by kernel_rfl) (fun _ _ _ h => h) (Or.inl ⟨by rfl, ?_⟩) ?_ ?_
   rotate_left
   ·intro w'
    go_simp
    with_reducible rfl
   rotate_left
   ·(simp only [Act.put, List.setIfInBounds_toArray, List.set_cons_zero, List.set_cons_succ, zU, zV]; rfl)
   refine yB (i := 12) (N := some 32) (v := ?_) (a' := ?_) #[true, true, true, true, true, true, true, true, true, true, true, true, true, false, false, false, false, false] rfl rfl (by kernel_rfl) (fun _ _ _ h => h) (Or.inl ⟨by rfl, ?_⟩) ?_ ?_
   rotate_left
   ·intro w'
    go_simp
    with_reducible rfl
   rotate_left
   ·(simp only [Act.put, List.setIfInBounds_toArray, List.set_cons_zero, List.set_cons_succ, zU, zV]; rfl)
   refine x9 (i := 13) (N := some 33) (v := ?_) (a' := ?_) #[true, true, true, true, true, true, true, true, true, true, true, true, true, true, false, false, false, false] rfl rfl (by kernel_rfl) (fun _ _ _ h => h) (Or.inl ⟨by rfl, ?_⟩) hHeld ?_ ?_
   rotate_left
   ·rintro w' ⟨s1, s2, s3⟩
    go_simp
    with_reducible rfl
   rotate_left
   ·(simp only [Act.put, List.setIfInBounds_toArray, List.set_cons_zero, List.set_cons_succ, zU, zV]; rfl)
   refine yB (i := 14) (N := some 34) (v := ?_) (a' := ?_) #[true, true, true, true, true, true, true, true, true, true, true, true, true, true, true, false, false, false] rfl rfl (by kernel_rfl) (fun _ _ _ h => h) (Or.inl ⟨by rfl, ?_⟩) ?_ ?_
   rotate_left
   ·intro w'
    go_simp
    with_reducible rfl
   rotate_left
   ·(simp only [Act.put, List.setIfInBounds_toArray, List.set_cons_zero, List.set_cons_succ, zU, zV]; rfl)
   refine one_ (i := 15) (N := some 35) #[true, true, true, true, true, true, true, true, true, true, true, true, true, true, true, true, false, false] rfl rfl (by kernel_rfl) (by decide) (fun K hK => ?_)
   have HVS := zA.mk (Nat.le_refl V0.heap.size)
   refine Kd.wW kp (w0 := V0) V0.heap.size 27 ?hg (N := 35) ?hd (xs := ([(vx, (x : Int))] : List (Int × Int))) (inner := [.int .u64 vx, .int .i64 (x : Int)]) (ok := fun _ => True) (okp := fun _ => True) ?hr ?hp (fun _ hk => hk) trivial (Below.refl _ _) (Nat.le_refl _) (by simp) ?_; (case hd => rfl); (case hg => rfl); (case hr => first | (go_simp; done) | (go_simp; rfl)); (case hp => exact (by have h_ := Reps.snoc (Reps.none (kp.M V0 V0.heap.size (fun _ => True)) 2) (kp_mkM V0 V0.heap.size (fun _ => True) (vx, (x : Int))) rfl; exact h_))
   intro v2 w2 hR2 hB2 hg2 hn2
   have HRV := zA.mk HR.out
   have HLT := zA.mk (Kd.R_lt HR.out)
   replace SB := zA.mk (SB.out.below hB2)
   replace HR := zA.mk (Kd.yG HR.out hB2)
   have HBV := zA.mk HB.out
   replace HB := zA.mk (HB.out.trans (hB2.mono HB.out.size))
   replace C1 := zA.mk (yZ C1.out hB2)
   replace D6 := zA.mk (yZ D6.out hB2)
   refine hK.out _ _ ⟨SB.out.a1, C1.out, D6.out⟩ (fun hHeld => ?_)
   clear hK K
   refine xA (a' := ?_) ?_ ?_
   rotate_left
   ·(show Act.put _ (some 35) _ = _; (simp only [Act.put, List.setIfInBounds_toArray, List.set_cons_zero, List.set_cons_succ, zU, zV]; rfl))
   obtain ⟨A9, c9, rfl, hl9, hC9⟩ := Kd.qG hR2
   obtain ⟨b9, e9, l9⟩ := hn2
   refine one_ (i := 16) (N := some 36) #[true, true, true, true, true, true, true, true, true, true, true, true, true, true, true, true, true, false] rfl rfl (by kernel_rfl) (by decide) (fun K hK => ?_)
   refine Kd.jE kp (Rr := fun p cs => kp.K w2 p cs) (w0 := wq) wq.heap.size (by rfl) (.tmp 20) (.tmp 35) 38 27 (.agg #[(.int .u64 0), (.int .i64 0)]) 16 rfl Tryd.underlying38 info26 rfl (show 0 < kp.sz by show 0 < 2; omega) (by omega) _ (keysOf t (a.ids.take k)) [(vx, (x : Int))] A9 1 c9 (fun k_ => some k_ ≠ (.slice A9 1 c9 : Value).ownBlock) (fun _ => False) rfl rfl (Kd.R_reok rfl HR.out (fun k_ hk_ he_ => by have := HLT.out k_ hk_; rw [show (Value.slice A9 1 c9).ownBlock = some b9 from e9] at he_; have := Option.some.inj he_; omega)) hC9 (fun p cs h => by rw [kp_open h]; exact kp_mkM _ _ _ _) (fun _ h => h.elim) (fun k_ hk_ he_ => by have := Kd.R_lt hR2 k_ he_.symm; omega) HB.out HB.out.size (by rw [HLK.out]; omega) ?_
   intro v3 w3 hR3 hB3 hg3 hat3
   have hBW : Below wq.heap.size wq w3 := hB3
   have SBw := HSBQ.out.below hBW
   replace SB := zA.mk SBw
   replace HB := zA.mk hBW
   replace C1 := zA.mk (show w3.cell? (ad.add k) = some (.int .i64 (x : Int)) from by
    obtain ⟨ad', e', c'⟩ := int_at (Kd.zY HC.out hBW) k hlt
    obtain rfl := Option.some.inj e'
    rw [c', HXK.out])
   replace D6 := zA.mk (show w3.cell? ⟨(ad2.add (x * 6)).block, (ad2.add (x * 6)).off + 2, none⟩ = some (.int .u64 vx) from by
    have := (kH (t := t) SB.out.rd (x : Int) (by omega) hxi).2.2.1
    rw [Int.toNat_natCast] at this
    rw [this, HXV.out])
   refine hK.out _ _ ⟨SB.out.a1, C1.out, D6.out⟩ (fun hHeld => ?_)
   clear hK K
   refine xA (a' := ?_) ?_ ?_
   rotate_left
   ·(show Act.put _ (some 36) _ = _; (simp only [Act.put, List.setIfInBounds_toArray, List.set_cons_zero, List.set_cons_succ, zU, zV]; rfl))
   refine yB (i := 17) (N := some 5) (v := ?_) (a' := ?_) #[true, true, true, true, true, true, true, true, true, true, true, true, true, true, true, true, true, true] rfl rfl (by kernel_rfl) (fun _ _ _ h => h) (Or.inl ⟨by rfl, ?_⟩) ?_ ?_
   rotate_left
   ·intro w'
    go_simp
    with_reducible rfl
   rotate_left
   ·(simp only [Act.put, List.setIfInBounds_toArray, List.set_cons_zero, List.set_cons_succ, zU, zV]; rfl)
   refine vJ (by kernel_rfl) ?_
   replace HR := zA.mk (Kd.R_reok (ok := fun _ => True) rfl hR3 (fun _ _ => trivial))
   clear hHeld hR3 hB3 hg3 hat3 hR2 hB2 hg2 hC9 hl9
   go_wp2
   refine ⟨⟨k + 1, by omega, by simp, SB, HB, ⟨by rw [HKT.out]; exact HR.out⟩⟩, ?_⟩
   show a.ids.length - ((k : Int) + 1).toNat < a.ids.length - (k : Int).toNat
   rw [HN1.out]
   omega
set_option maxHeartbeats 8000000 in
set_option maxRecDepth 100000 in
theorem zbY (A : Option Addr) (c : Nat) (mn : Int) (hr : kn.C w A t.ns.length t.ns) (hl : t.ns.length ≤ 1000000) :
  Calls Tryd.prog 19 #[.agg #[.int .i64 t.rt, .slice A t.ns.length c], .int .u64 mn] w fun e w' => e = .returned (.bool (qO t mn)) ∧ Below w.heap.size w w' := by
 have SB := zA.mk (Hb.start (c := c) hr)
 have HL := zA.mk hl; clear hr
 go_enter Tryd.func19, Tryd.ntmps19
 go_upto_region 1 with (fail)
 generalize w.alloc (.cells #[.int .i64 t.rt, .slice A t.ns.length c] 24) = W1 at SB ⊢
 have a0 := SB.out.a0
 have a1 := SB.out.a1
 cases hO : ordA t with
 | none =>
  have HO := zA.mk hO; clear hO
  go_wp2_with (go_at_call 57; with_reducible refine (zbX (t := t) A c SB.out.rd HL.out).mono ?_; rintro e wq ⟨hB, hno, hyes⟩; obtain rfl := hno HO.out; replace SB := zA.mk (SB.out.below hB); clear hB hno hyes)
  go_ret
  rw [zaK mn HO.out]
  exact ⟨rfl, SB.out.bb⟩
 | some a =>
  have HO := zA.mk hO
  have hwh := (qD.1 hO).2
  have HE := zA.mk (zbP mn hO)
  have HLY := zA.mk hwh.lay
  have HRT := zA.mk hwh.rt
  have HS := zA.mk (size_le hO)
  have HRTN := zA.mk (show t.rt < (t.ns.length : Int) by rw [hwh.rt]; exact wO hwh.lay.loose)
  have HRED := zA.mk (show redA t t.rt = a.red by rw [hwh.rt]; exact jY hwh.lay)
  have HWL := zA.mk (show (jF t).length ≤ 1000000 by
   rw [kU hO]
   unfold keysOf
   rw [List.length_map]
   have := xO hwh.nd (fun x hx => hwh.lay.lt x hx)
   have := HL.out
   omega)
  clear hO hwh
  go_upto_region 2 with (go_at_call 57; with_reducible refine (zbX (t := t) A c SB.out.rd HL.out).mono ?_; rintro e wq ⟨hB, hno, hyes⟩; obtain ⟨A3, c3, rfl, hC⟩ := hyes a HO.out; replace SB := zA.mk (SB.out.below hB); replace a0 := SB.out.a0; replace a1 := SB.out.a1; clear hB hno hyes hC)
  cases hred : a.red with
  | true =>
   have HR2 := zA.mk (HRED.out.trans hred)
   rw [hred, if_pos rfl] at HE
   clear hred
   go_wp2_with (go_at_call 58; with_reducible refine (xW (t := t) A c SB.out.rd t.rt HRTN.out true HR2.out).mono ?_; rintro e wq ⟨rfl, hB⟩; replace SB := zA.mk (SB.out.below hB); clear hB)
   go_ret
   rw [HE.out]
   exact ⟨rfl, SB.out.bb⟩
  | false =>
   have HR2 := zA.mk (HRED.out.trans hred)
   rw [hred, if_neg (by simp)] at HE
   clear hred
   cases hbl : (blA a).2 with
   | false =>
    have HB2 := zA.mk ((blR_iff a).trans hbl)
    rw [hbl, if_pos rfl] at HE
    clear hbl
    obtain ⟨z, hz⟩ : ∃ z, z = blR a := ⟨_, rfl⟩
    have HZ := zA.mk hz.symm
    have hd : decide (0 ≤ z) = false := by rw [hz]; exact HB2.out
    clear hz
    go_wp2_with (first
     | (go_at_call 58; with_reducible refine (xW (t := t) A c SB.out.rd t.rt HRTN.out false HR2.out).mono ?_; rintro e wq ⟨rfl, hB⟩; replace SB := zA.mk (SB.out.below hB); replace a0 := SB.out.a0; replace a1 := SB.out.a1; clear hB)
     | (go_at_call 59; with_reducible refine (rblacks_v (t := t) a A c SB.out.rd HLY.out HS.out t.rt HRT.out).mono ?_; rintro e wq ⟨rfl, hB⟩; rw [HZ.out]; replace SB := zA.mk (SB.out.below hB); clear hB))
    go_ret
    rw [HE.out]
    exact ⟨rfl, SB.out.bb⟩
   | true =>
    have HB2 := zA.mk ((blR_iff a).trans hbl)
    rw [hbl, if_neg (by simp)] at HE
    clear hbl
    obtain ⟨z, hz⟩ : ∃ z, z = blR a := ⟨_, rfl⟩
    have HZ := zA.mk hz.symm
    have hd : decide (0 ≤ z) = true := by rw [hz]; exact HB2.out
    clear hz
    go_wp2_with (first
     | (go_at_call 58; with_reducible refine (xW (t := t) A c SB.out.rd t.rt HRTN.out false HR2.out).mono ?_; rintro e wq ⟨rfl, hB⟩; replace SB := zA.mk (SB.out.below hB); replace a0 := SB.out.a0; replace a1 := SB.out.a1; clear hB)
     | (go_at_call 59; with_reducible refine (rblacks_v (t := t) a A c SB.out.rd HLY.out HS.out t.rt HRT.out).mono ?_; rintro e wq ⟨rfl, hB⟩; rw [HZ.out]; replace SB := zA.mk (SB.out.below hB); replace a0 := SB.out.a0; replace a1 := SB.out.a1; clear hB)
     | (go_at_call 22; with_reducible refine (rWalk_ (t := t) A c SB.out.rd HL.out).mono ?_; rintro e wq ⟨v, rfl, hv, hB⟩; obtain ⟨A7, c7, rfl, _, hC7⟩ := Kd.qG hv; have HC7 := zA.mk hC7; replace SB := zA.mk (SB.out.below hB); clear hB hv hC7)
     | (go_at_call 60; with_reducible refine (rsorted_ mn A7 c7 (jF t) HC7.out HWL.out).mono ?_; rintro e wq ⟨rfl, hB⟩; replace SB := zA.mk (SB.out.below hB); clear hB))
    go_ret
    rw [HE.out]
    exact ⟨rfl, SB.out.bb⟩
end Go.Proofs.YtfapmcpmfeigbaaDoor.Tm
