/- Parts of the proof, joined: Rm8. -/
import Derived.Test.YtfapmcpmfeigbaaDoorUD23
import Derived.Test.YtfapmcpmfeigbaaDoorUD9
namespace Go.Proofs.YtfapmcpmfeigbaaDoor.Tm
open Go.RowKit Go Go.Proofs Go.Proofs.YtfapmcpmfeigbaaDoor Go.Proofs.YtfapmcpmfeigbaaDoor.Tr Go.Proofs.YtfapmcpmfeigbaaDoor.Tk Go.Proofs.YtfapmcpmfeigbaaDoorW.PrintWords Go.Proofs.YtfapmcpmfeigbaaDoorW.PrintLast Go.Proofs.YtfapmcpmfeigbaaDoorW.PrintMore
set_option linter.unusedVariables false
set_option linter.unusedSimpArgs false
variable {w : World} {t : St}
def mOf (l : List Nat) : Nat → Bool := fun z => decide (z ∈ l)
theorem mOf_snoc (l : List Nat) (x : Nat) : mOf (l ++ [x]) = setM (mOf l) x := by
 funext z
 unfold mOf setM
 by_cases h1 : z ∈ l <;> by_cases h2 : z = x <;> simp [h1, h2]
theorem mOf_iz {l : List Nat} {x : Int} (h0 : 0 ≤ x) : decide (x ∈ iz l) = mOf l x.toNat := by
 unfold mOf iz
 rw [decide_eq_decide, List.mem_map]
 constructor
 ·rintro ⟨z, hz, rfl⟩
  rw [Int.toNat_natCast]; exact hz
 ·intro h
  exact ⟨x.toNat, h, by omega⟩
theorem WRes.shift {x u : Int} {M M' : Nat → Bool} {L : List Int} {r : Bool} (P : List Int) (h : WRes t x u M [] r M' L) : WRes t x u M P r M' (P ++ L) := by
 refine ⟨fun e => ?_, h.no⟩
 obtain ⟨a, h1, h2, h3, h4, h5, h6⟩ := h.yes e
 exact ⟨a, h1, h2, h3, h4, by rw [h5]; rfl, h6⟩
theorem rin_iz {w : World} (A : Option Addr) (c : Nat) (Ms : List Nat) (hr : (Kd.int .i64).C w A Ms.length (iz Ms)) (hl : Ms.length ≤ 1000000) (x : Int) :
  Calls Tryd.prog 77 #[.slice A Ms.length c, .int .i64 x] w fun e w' => e = .returned (.bool (decide (x ∈ iz Ms))) ∧ w' = w := by
 have h := rin_ (w := w) A c (iz Ms) (by rw [wD]; exact hr) (by rw [wD]; exact hl) x
 rw [wD] at h
 exact h
structure vK (w : World) (t : St) (Ms : List Nat) (x u : Int) (e : Ending) (w' : World) : Prop where mk ::
 out : ∃ (A1 : Option Addr) (c1 : Nat) (A2 : Option Addr) (c2 : Nat) (L : List Int) (Ms' : List Nat) (r : Bool), e = .returned (.tuple #[.slice A1 L.length c1, .slice A2 Ms'.length c2, .bool r]) ∧ (Kd.int .i64).C w' A1 L.length L ∧ (Kd.int .i64).C w' A2 Ms'.length (iz Ms') ∧ Ms'.Nodup ∧ (∀ z ∈ Ms', z < t.ns.length) ∧ L.length + Ms.length ≤ Ms'.length ∧ WRes t x u (mOf Ms) [] r (mOf Ms') L ∧ Below w.heap.size w w'
theorem vK.ways {w w' : World} {Ms : List Nat} {x u : Int} {A : Option Addr} {c : Nat} {r : Bool} (hb : Below w.heap.size w w') (hm : (Kd.int .i64).C w A Ms.length (iz Ms)) (hn : Ms.Nodup) (hl : ∀ z ∈ Ms, z < t.ns.length) (h : WRes t x u (mOf Ms) [] r (mOf Ms) []) :
  vK w t Ms x u (.returned (.tuple #[.slice none 0 0, .slice A Ms.length c, .bool r])) w' :=
 ⟨none, 0, A, c, [], Ms, r, rfl, ⟨rfl, by simp, fun h => absurd h (by simp)⟩, Kd.zY hm hb, hn, hl, by simp, h, hb⟩
theorem wU {Ms : List Nat} {x : Nat} (hn : Ms.Nodup) (hx : x ∉ Ms) : (Ms ++ [x]).Nodup := by
 rw [List.nodup_append]
 exact ⟨hn, by simp, fun a ha b hb => by rw [List.mem_singleton.1 hb]; exact fun e => hx (e ▸ ha)⟩
set_option maxHeartbeats 16000000 in
set_option maxRecDepth 100000 in
theorem rgather_ : ∀ (k : Nat) (w : World) (A : Option Addr) (c : Nat) (x u : Int) (Ms : List Nat) (AM : Option Addr) (cM : Nat), t.ns.length ≤ Ms.length + k → kn.C w A t.ns.length t.ns → t.ns.length ≤ 1000000 → (Kd.int .i64).C w AM Ms.length (iz Ms) → Ms.Nodup → (∀ z ∈ Ms, z < t.ns.length) →
  Calls Tryd.prog 72 #[.agg #[.int .i64 t.rt, .slice A t.ns.length c], .int .i64 x, .int .i64 u, .slice AM Ms.length cM] w fun e w' => vK w t Ms x u e w' := by
 intro k
 induction k with
 | zero =>
  intro w A c x u Ms AM cM hk hr hl hm hmn hml
  have HK := zA.mk hk; have HL := zA.mk hl; have HM := zA.mk hm; have HMN := zA.mk hmn; have HML := zA.mk hml
  have SB := zA.mk (Hb.start (c := c) hr)
  have HB0 := zA.mk (zH (Below.refl w.heap.size w) (.cells #[.int .i64 t.rt, .slice A t.ns.length c] 24))
  clear hr hm hmn hml hk
  go_enter Tryd.func72, Tryd.ntmps72
  go_upto_region 1 with (fail)
  generalize w.alloc (.cells #[.int .i64 t.rt, .slice A t.ns.length c] 24) = W1 at SB HB0 ⊢
  have a0 := SB.out.a0
  have a1 := SB.out.a1
  have HMC := zA.mk (Kd.zY HM.out HB0.out)
  by_cases hx1 : x = -1
  ·subst hx1
   go_wp2
   go_ret3
   exact vK.ways SB.out.bb HM.out HMN.out HML.out (WRes.nil _ _ _ _)
  have q1 : (x == -1) = false := by simpa using hx1
  have HX := zA.mk hx1; clear hx1
  by_cases h0 : x < 0
  ·have HO := zA.mk h0
   go_wp2
   go_ret3
   exact vK.ways SB.out.bb HM.out HMN.out HML.out (WRes.off HX.out (Or.inl HO.out))
  have h1 : decide (x < 0) = false := decide_eq_false h0
  have h2 : 0 ≤ x := by omega
  clear h0
  by_cases h3 : (t.ns.length : Int) ≤ x
  ·have HO := zA.mk h3
   go_wp2
   go_ret3
   exact vK.ways SB.out.bb HM.out HMN.out HML.out (WRes.off HX.out (Or.inr (Or.inl HO.out)))
  have h4 : x < (t.ns.length : Int) := by omega
  have h5 : decide ((t.ns.length : Int) ≤ x) = false := decide_eq_false h3
  have H2 := zA.mk h2; have H4 := zA.mk h4; clear h3
  have HMLE := zA.mk (xO HMN.out HML.out)
  cases hin : mOf Ms x.toNat with
  | true =>
   have HIN := zA.mk hin
   go_wp2_with (go_at_call 77; (with_reducible refine (rin_iz AM cM Ms HMC.out (by have := HMLE.out; have := HL.out; omega) x).mono ?_); rintro e wq ⟨rfl, rfl⟩; rw [mOf_iz H2.out, HIN.out])
   go_ret3
   exact vK.ways SB.out.bb HM.out HMN.out HML.out (WRes.off HX.out (Or.inr (Or.inr (Or.inl HIN.out))))
  | false =>
  have HIN := zA.mk hin; clear hin
  obtain ⟨ad, rfl, d0, d1, d2, d3, d4, d5⟩ := zbK SB.out.rd x h2 h4
  go_upto_region 6 with (go_at_call 77; (with_reducible refine (rin_iz AM cM Ms HMC.out (by have := HMLE.out; have := HL.out; omega) x).mono ?_); rintro e wq ⟨rfl, rfl⟩; rw [mOf_iz H2.out, HIN.out])
  have NB : zA (Nb w (wq.alloc (.cells #[.bool (gn t x.toNat).inn, .bool (redA t x), .int .u64 (gn t x.toNat).v, .int .i64 (kidA t x false), .int .i64 (kidA t x true), .int .i64 (upA t x)] 57)) w.heap.size wq.heap.size t (some ad) c ⟨(gn t x.toNat).inn, redA t x, (gn t x.toNat).v, kidA t x false, kidA t x true, upA t x⟩) := ⟨⟨zK SB.out.tb (zH (Below.refl _ _) _), yM _ _, zT SB.out.bb (zH (Below.refl _ _) _), Kd.zY SB.out.rd (zH (Below.refl _ _) _)⟩⟩
  clear a0 a1 d0 d1 d2 d3 d4 d5 HMC HB0 SB
  generalize wq.alloc (.cells #[.bool (gn t x.toNat).inn, .bool (redA t x), .int .u64 (gn t x.toNat).v, .int .i64 (kidA t x false), .int .i64 (kidA t x true), .int .i64 (upA t x)] 57) = W2 at NB ⊢
  generalize wq.heap.size = kb at NB ⊢
  have b0 := NB.out.b0
  have b5 := NB.out.b5
  simp only at b0 b5
  cases hi : (gn t x.toNat).inn with
  | false =>
   have HI := zA.mk hi
   rw [hi] at b0
   clear hi
   go_wp2
   go_ret3
   exact vK.ways NB.out.bb HM.out HMN.out HML.out (WRes.off HX.out (Or.inr (Or.inr (Or.inr (Or.inl HI.out)))))
  | true =>
  have HI := zA.mk hi
  rw [hi] at b0
  clear hi
  by_cases hu : upA t x = u
  rotate_left
  ·have HU := zA.mk hu
   obtain ⟨y, hy⟩ : ∃ y, y = upA t x := ⟨_, rfl⟩
   rw [← hy] at b5
   have hq : (y != u) = true := by rw [hy]; simpa using hu
   clear hu hy
   go_wp2
   go_ret3
   exact vK.ways NB.out.bb HM.out HMN.out HML.out (WRes.off HX.out (Or.inr (Or.inr (Or.inr (Or.inr HU.out)))))
  have HU := zA.mk hu
  rw [hu] at b5
  have hq : (u != u) = false := by simp
  clear hu
  have HLT := zA.mk (show Ms.length + 1 ≤ t.ns.length by
   have h := xO (n := t.ns.length) (wU HMN.out (x := x.toNat) (by intro h; have := HIN.out; unfold mOf at this; rw [decide_eq_true h] at this; cases this)) (fun z hz => by
    rcases List.mem_append.1 hz with h | h
    ·exact HML.out z h
    ·rw [List.mem_singleton.1 h]; omega)
   rw [List.length_append] at h
   exact h)
  exfalso
  have := HK.out
  have := HLT.out
  omega
 | succ k ih =>
  intro w A c x u Ms AM cM hk hr hl hm hmn hml
  have HK := zA.mk hk; have HL := zA.mk hl; have HM := zA.mk hm; have HMN := zA.mk hmn; have HML := zA.mk hml
  have SB := zA.mk (Hb.start (c := c) hr)
  have HB0 := zA.mk (zH (Below.refl w.heap.size w) (.cells #[.int .i64 t.rt, .slice A t.ns.length c] 24))
  have IH := zA.mk ih; clear ih; clear hr hm hmn hml hk
  go_enter Tryd.func72, Tryd.ntmps72
  go_upto_region 1 with (fail)
  generalize w.alloc (.cells #[.int .i64 t.rt, .slice A t.ns.length c] 24) = W1 at SB HB0 ⊢
  have a0 := SB.out.a0
  have a1 := SB.out.a1
  have HMC := zA.mk (Kd.zY HM.out HB0.out)
  by_cases hx1 : x = -1
  ·subst hx1
   go_wp2
   go_ret3
   exact vK.ways SB.out.bb HM.out HMN.out HML.out (WRes.nil _ _ _ _)
  have q1 : (x == -1) = false := by simpa using hx1
  have HX := zA.mk hx1; clear hx1
  by_cases h0 : x < 0
  ·have HO := zA.mk h0
   go_wp2
   go_ret3
   exact vK.ways SB.out.bb HM.out HMN.out HML.out (WRes.off HX.out (Or.inl HO.out))
  have h1 : decide (x < 0) = false := decide_eq_false h0
  have h2 : 0 ≤ x := by omega
  clear h0
  by_cases h3 : (t.ns.length : Int) ≤ x
  ·have HO := zA.mk h3
   go_wp2
   go_ret3
   exact vK.ways SB.out.bb HM.out HMN.out HML.out (WRes.off HX.out (Or.inr (Or.inl HO.out)))
  have h4 : x < (t.ns.length : Int) := by omega
  have h5 : decide ((t.ns.length : Int) ≤ x) = false := decide_eq_false h3
  have H2 := zA.mk h2; have H4 := zA.mk h4; clear h3
  have HMLE := zA.mk (xO HMN.out HML.out)
  cases hin : mOf Ms x.toNat with
  | true =>
   have HIN := zA.mk hin
   go_wp2_with (go_at_call 77; (with_reducible refine (rin_iz AM cM Ms HMC.out (by have := HMLE.out; have := HL.out; omega) x).mono ?_); rintro e wq ⟨rfl, rfl⟩; rw [mOf_iz H2.out, HIN.out])
   go_ret3
   exact vK.ways SB.out.bb HM.out HMN.out HML.out (WRes.off HX.out (Or.inr (Or.inr (Or.inl HIN.out))))
  | false =>
  have HIN := zA.mk hin; clear hin
  obtain ⟨ad, rfl, d0, d1, d2, d3, d4, d5⟩ := zbK SB.out.rd x h2 h4
  go_upto_region 6 with (go_at_call 77; (with_reducible refine (rin_iz AM cM Ms HMC.out (by have := HMLE.out; have := HL.out; omega) x).mono ?_); rintro e wq ⟨rfl, rfl⟩; rw [mOf_iz H2.out, HIN.out])
  have NB : zA (Nb w (wq.alloc (.cells #[.bool (gn t x.toNat).inn, .bool (redA t x), .int .u64 (gn t x.toNat).v, .int .i64 (kidA t x false), .int .i64 (kidA t x true), .int .i64 (upA t x)] 57)) w.heap.size wq.heap.size t (some ad) c ⟨(gn t x.toNat).inn, redA t x, (gn t x.toNat).v, kidA t x false, kidA t x true, upA t x⟩) := ⟨⟨zK SB.out.tb (zH (Below.refl _ _) _), yM _ _, zT SB.out.bb (zH (Below.refl _ _) _), Kd.zY SB.out.rd (zH (Below.refl _ _) _)⟩⟩
  clear a0 a1 d0 d1 d2 d3 d4 d5 HMC HB0 SB
  generalize wq.alloc (.cells #[.bool (gn t x.toNat).inn, .bool (redA t x), .int .u64 (gn t x.toNat).v, .int .i64 (kidA t x false), .int .i64 (kidA t x true), .int .i64 (upA t x)] 57) = W2 at NB ⊢
  generalize wq.heap.size = kb at NB ⊢
  have b0 := NB.out.b0
  have b5 := NB.out.b5
  simp only at b0 b5
  cases hi : (gn t x.toNat).inn with
  | false =>
   have HI := zA.mk hi
   rw [hi] at b0
   clear hi
   go_wp2
   go_ret3
   exact vK.ways NB.out.bb HM.out HMN.out HML.out (WRes.off HX.out (Or.inr (Or.inr (Or.inr (Or.inl HI.out)))))
  | true =>
  have HI := zA.mk hi
  rw [hi] at b0
  clear hi
  by_cases hu : upA t x = u
  rotate_left
  ·have HU := zA.mk hu
   obtain ⟨y, hy⟩ : ∃ y, y = upA t x := ⟨_, rfl⟩
   rw [← hy] at b5
   have hq : (y != u) = true := by rw [hy]; simpa using hu
   clear hu hy
   go_wp2
   go_ret3
   exact vK.ways NB.out.bb HM.out HMN.out HML.out (WRes.off HX.out (Or.inr (Or.inr (Or.inr (Or.inr HU.out)))))
  have HU := zA.mk hu
  rw [hu] at b5
  have hq : (u != u) = false := by simp
  clear hu
  have HLT := zA.mk (show Ms.length + 1 ≤ t.ns.length by
   have h := xO (n := t.ns.length) (wU HMN.out (x := x.toNat) (by intro h; have := HIN.out; unfold mOf at this; rw [decide_eq_true h] at this; cases this)) (fun z hz => by
    rcases List.mem_append.1 hz with h | h
    ·exact HML.out z h
    ·rw [List.mem_singleton.1 h]; omega)
   rw [List.length_append] at h
   exact h)
  have HMX := zA.mk (wU HMN.out (x := x.toNat) (by intro h; have := HIN.out; unfold mOf at this; rw [decide_eq_true h] at this; cases this))
  have HMLX := zA.mk (show ∀ z ∈ Ms ++ [x.toNat], z < t.ns.length from fun z hz => by
   rcases List.mem_append.1 hz with h | h
   ·exact HML.out z h
   ·rw [List.mem_singleton.1 h]; omega)
  have HLX := zA.mk (show (Ms ++ [x.toNat]).length = Ms.length + 1 by simp)
  have HIZ := zA.mk (show iz Ms ++ [x] = iz (Ms ++ [x.toNat]) by unfold iz; rw [List.map_append]; show _ = _ ++ [((x.toNat : Nat) : Int)]; rw [show ((x.toNat : Nat) : Int) = x by omega])
  go_upto_region 8 with (fail)
  refine jQ (n := 17) (S := fun w' => w'.cell? ⟨w.heap.size, 0, none⟩ = some (.int .i64 t.rt) ∧ w'.cell? ⟨w.heap.size, 1, none⟩ = some (.slice (some ad) t.ns.length c) ∧ w'.cell? ⟨kb, 3, none⟩ = some (.int .i64 (kidA t x false))) (ds := []) #[false, false, false, false, false, false, false, false, false, false, false, false, false, false, false, false, false] (by kernel_rfl) rfl rfl ⟨NB.out.drew.a0, NB.out.drew.a1, NB.out.drew.b3⟩ (fun hHeld => ?_)
  replace NB := zA.mk NB.out.drew
  clear b0 b5 hq
  generalize World.drew _ = V0 at NB hHeld ⊢
  refine yB (i := 1) (N := some 53) (v := ?_) (a' := ?_) #[false, true, false, false, false, false, false, false, false, false, false, false, false, false, false, false, false] rfl rfl (by kernel_rfl) (fun _ _ _ h => h) (Or.inl ⟨by rfl, ?_⟩) ?_ ?_
  rotate_left
  ·intro w'
   go_simp
   with_reducible rfl
  rotate_left
  ·(simp only [Act.put, List.setIfInBounds_toArray, List.set_cons_zero, List.set_cons_succ, zU, zV]; rfl)
  refine yB (i := 3) (N := some 55) (v := ?_) (a' := ?_) #[false, true, false, true, false, false, false, false, false, false, false, false, false, false, false, false, false] rfl rfl (by kernel_rfl) (fun _ _ _ h => h) (Or.inl ⟨by rfl, ?_⟩) ?_ ?_
  rotate_left
  ·intro w'
   go_simp
   with_reducible rfl
  rotate_left
  ·(simp only [Act.put, List.setIfInBounds_toArray, List.set_cons_zero, List.set_cons_succ, zU, zV]; rfl)
  refine yB (i := 4) (N := some 56) (v := ?_) (a' := ?_) #[false, true, false, true, true, false, false, false, false, false, false, false, false, false, false, false, false] rfl rfl (by kernel_rfl) (fun _ _ _ h => h) (Or.inl ⟨by rfl, ?_⟩) ?_ ?_
  rotate_left
  ·intro w'
   go_simp
   with_reducible rfl
  rotate_left
  ·(simp only [Act.put, List.setIfInBounds_toArray, List.set_cons_zero, List.set_cons_succ, zU, zV]; rfl)
  refine yB (i := 6) (N := some 58) (v := ?_) (a' := ?_) #[false, true, false, true, true, false, true, false, false, false, false, false, false, false, false, false, false] rfl rfl (by kernel_rfl) (fun _ _ _ h => h) (Or.inl ⟨by rfl, ?_⟩) ?_ ?_
  rotate_left
  ·intro w'
   go_simp
   with_reducible rfl
  rotate_left
  ·(simp only [Act.put, List.setIfInBounds_toArray, List.set_cons_zero, List.set_cons_succ, zU, zV]; rfl)
  refine x9 (i := 0) (N := some 52) (v := ?_) (a' := ?_) #[true, true, false, true, true, false, true, false, false, false, false, false, false, false, false, false, false] rfl rfl (by kernel_rfl) (fun _ _ _ h => h) (Or.inl ⟨by rfl, ?_⟩) hHeld ?_ ?_
  rotate_left
  ·rintro w' ⟨s0, s1, s2⟩
   go_simp
   with_reducible rfl
  rotate_left
  ·(simp only [Act.put, List.setIfInBounds_toArray, List.set_cons_zero, List.set_cons_succ, zU, zV]; rfl)
  refine x9 (i := 2) (N := some 54) (v := ?_) (a' := ?_) #[true, true, true, true, true, false, true, false, false, false, false, false, false, false, false, false, false] rfl rfl (by kernel_rfl) (fun _ _ _ h => h) (Or.inl ⟨by rfl, ?_⟩) hHeld ?_ ?_
  rotate_left
  ·rintro w' ⟨s0, s1, s2⟩
   go_simp
   with_reducible rfl
  rotate_left
  ·(simp only [Act.put, List.setIfInBounds_toArray, List.set_cons_zero, List.set_cons_succ, zU, zV]; rfl)
  have HMV := zA.mk (Kd.zY HM.out NB.out.bb)
  refine join_ (σ := Value × Value) 9 #[true, true, true, true, true, true, true, true, false, false, false, false, false, false, false, false, false] (fun s_ => [(57, s_.1), (59, s_.2)]) (fun s_ w' => Nb w w' w.heap.size kb t (some ad) c ⟨(gn t x.toNat).inn, redA t x, (gn t x.toNat).v, kidA t x false, kidA t x true, upA t x⟩ ∧ Below V0.heap.size V0 w' ∧ Kd.R (Kd.int .i64) 3 w' V0.heap.size (fun k => some k ≠ (s_.2 : Value).ownBlock) s_.1 (iz Ms) ∧ Kd.R (Kd.int .i64) 3 w' V0.heap.size (fun _ => True) s_.2 [x]) (fun s_ w' hF => ?_) (fun hCont => ?_)
  rotate_left
  ·refine two_ (i := 5) (j := 7) (Ni := some 57) (Nj := some 59) #[true, true, true, true, true, true, true, false, false, false, false, false, false, false, false, false, false] #[true, true, true, true, true, false, true, true, false, false, false, false, false, false, false, false, false] rfl rfl rfl rfl (by kernel_rfl) (by decide) (by decide) (fun K hK => ?_) (fun K hK => ?_)
   ·skip
    refine Kd.jE (Kd.int .i64) (Rr := (Kd.int .i64).K V0) (w0 := V0) V0.heap.size (by rfl) (.const (.slice none 0 0)) (.tmp 56) 83 3 (.int .i64 0) 8 rfl Tryd.underlying83 infoI rfl (by decide) (by omega) (.slice none 0 0) ([] : List Int) (iz Ms) AM Ms.length cM (fun _ => True) (fun _ => False) rfl rfl (Kd.vE _ _ _ _ _) HMV.out (fun _ _ h => h) (fun _ h => h.elim) (fun _ _ => trivial) (Below.refl _ _) (Nat.le_refl _) (by have := HMLE.out; have := HL.out; simp; omega) ?_
    intro v1 w1 hR1 hB1 hg1 _
    have N1 := NB.out.below hB1
    refine hK.out _ _ ⟨N1.a0, N1.a1, N1.b3⟩ (fun hHeld => ?_)
    clear hK K
    refine xA (a' := ?_) ?_ ?_
    rotate_left
    ·(show Act.put _ (some 57) _ = _; (simp only [Act.put, List.setIfInBounds_toArray, List.set_cons_zero, List.set_cons_succ, zU, zV]; rfl))
    refine one_ (i := 7) (N := some 59) #[true, true, true, true, true, true, true, true, false, false, false, false, false, false, false, false, false] rfl rfl (by kernel_rfl) (by decide) (fun K hK => ?_)
    refine Kd.wW (Kd.int .i64) (w0 := V0) V0.heap.size 3 ?hg (N := 59) ?hd (xs := ([x] : List Int)) (inner := [.int .i64 x]) (ok := fun _ => True) (okp := fun _ => True) ?hr ?hp (fun _ hk => hk) trivial hB1 hB1.size (by simp) ?_; (case hd => rfl); (case hg => rfl); (case hr => first | (go_simp; done) | (go_simp; rfl)); (case hp => exact (Reps.one (show Kd.M (Kd.int .i64) _ _ _ x [.int .i64 x] from rfl) (Reps.none _ _)))
    intro v2 w2 hR2 hB2 hg2 hn2
    have N2 := NB.out.below hB2
    refine hK.out _ _ ⟨N2.a0, N2.a1, N2.b3⟩ (fun hHeld => ?_)
    clear hK K
    refine xA (a' := ?_) ?_ ?_
    rotate_left
    ·(show Act.put _ (some 59) _ = _; (simp only [Act.put, List.setIfInBounds_toArray, List.set_cons_zero, List.set_cons_succ, zU, zV]; rfl))
    obtain ⟨b2, e2, l2⟩ := hn2
    have hlt := Kd.R_lt hR1
    exact xA (by simp only [kJ, Act.put, List.setIfInBounds_toArray, List.set_cons_zero, List.set_cons_succ]) (hCont (v1, v2) _ ⟨N2, hB2, Kd.R_reok rfl (Kd.R_grown hR1 hg2 (fun _ _ h => by cases h)) (fun k hk he => by have := hlt k hk; rw [show (v2 : Value).ownBlock = some b2 from e2] at he; have := Option.some.inj he; omega), hR2⟩)
   ·skip
    refine Kd.wW (Kd.int .i64) (w0 := V0) V0.heap.size 3 ?hg (N := 59) ?hd (xs := ([x] : List Int)) (inner := [.int .i64 x]) (ok := fun _ => True) (okp := fun _ => True) ?hr ?hp (fun _ hk => hk) trivial (Below.refl _ _) (Nat.le_refl _) (by simp) ?_; (case hd => rfl); (case hg => rfl); (case hr => first | (go_simp; done) | (go_simp; rfl)); (case hp => exact (Reps.one (show Kd.M (Kd.int .i64) _ _ _ x [.int .i64 x] from rfl) (Reps.none _ _)))
    intro v2 w1 hR2 hB1 hg1 hn2
    have N1 := NB.out.below hB1
    refine hK.out _ _ ⟨N1.a0, N1.a1, N1.b3⟩ (fun hHeld => ?_)
    clear hK K
    refine xA (a' := ?_) ?_ ?_
    rotate_left
    ·(show Act.put _ (some 59) _ = _; (simp only [Act.put, List.setIfInBounds_toArray, List.set_cons_zero, List.set_cons_succ, zU, zV]; rfl))
    refine one_ (i := 5) (N := some 57) #[true, true, true, true, true, true, true, true, false, false, false, false, false, false, false, false, false] rfl rfl (by kernel_rfl) (by decide) (fun K hK => ?_)
    refine Kd.jE (Kd.int .i64) (Rr := (Kd.int .i64).K w1) (w0 := V0) V0.heap.size (by rfl) (.const (.slice none 0 0)) (.tmp 56) 83 3 (.int .i64 0) 8 rfl Tryd.underlying83 infoI rfl (by decide) (by omega) (.slice none 0 0) ([] : List Int) (iz Ms) AM Ms.length cM (fun _ => True) (fun _ => False) rfl rfl (Kd.vE _ _ _ _ _) (Kd.zY HMV.out hB1) (fun _ _ h => h) (fun _ h => h.elim) (fun _ _ => trivial) hB1 hB1.size (by have := HMLE.out; have := HL.out; simp; omega) ?_
    intro v1 w2 hR1 hB2 hg2 hat
    have N2 := NB.out.below hB2
    refine hK.out _ _ ⟨N2.a0, N2.a1, N2.b3⟩ (fun hHeld => ?_)
    clear hK K
    refine xA (a' := ?_) ?_ ?_
    rotate_left
    ·(show Act.put _ (some 57) _ = _; (simp only [Act.put, List.setIfInBounds_toArray, List.set_cons_zero, List.set_cons_succ, zU, zV]; rfl))
    obtain ⟨b2, e2, l2⟩ := hn2
    have hlt := Kd.R_lt hR2
    exact xA (by simp only [kJ, Act.put, List.setIfInBounds_toArray, List.set_cons_zero, List.set_cons_succ]) (hCont (v1, v2) _ ⟨N2, hB2, Kd.R_reok rfl hR1 (fun k hk he => by
     have h1 := hlt k he.symm
     rcases hat with h | ⟨b, h, hb⟩
     ·rw [hk] at h; simp [Value.ownBlock] at h
     ·rw [hk] at h; have := Option.some.inj h; omega), Kd.R_grown hR2 hg2 (fun _ _ h => by simp [Value.ownBlock] at h)⟩)
  obtain ⟨s1, s2⟩ := s_
  obtain ⟨hN, hBV, hR1, hR2⟩ := hF
  simp only at hN hBV hR1 hR2
  obtain ⟨A9, c9, rfl, hl9, hC9⟩ := Kd.qG hR2
  have NV := hN
  refine xA (a' := ?_) ?_ ?_
  rotate_left
  ·(simp only [kJ, Act.put, List.setIfInBounds_toArray, List.set_cons_zero, List.set_cons_succ]; rfl)
  refine one_ (i := 8) (N := some 60) #[true, true, true, true, true, true, true, true, true, false, false, false, false, false, false, false, false] rfl rfl (by kernel_rfl) (by decide) (fun K hK => ?_)
  refine Kd.jE (Kd.int .i64) (Rr := (Kd.int .i64).K w') (w0 := V0) V0.heap.size (by rfl) (.tmp 57) (.tmp 59) 83 3 (.int .i64 0) 8 rfl Tryd.underlying83 infoI rfl (by decide) (by omega) s1 (iz Ms) [x] A9 1 c9 (fun k => some k ≠ (.slice A9 1 c9 : Value).ownBlock) (fun _ => False) rfl rfl hR1 hC9 (fun _ _ h => h) (fun _ h => h.elim) (fun k hk he => by have := Kd.R_lt hR2 k he.symm; omega) hBV hBV.size (by rw [wD]; have := HMLE.out; have := HL.out; omega) ?_
  intro v3 w3 hR3 hB3 _ _
  rw [HIZ.out] at hR3
  replace NB := zA.mk (NB.out.below hB3)
  obtain ⟨A3, c3, rfl, hl3, hC3⟩ := Kd.qG hR3
  rw [wD] at hC3
  have HC3 := zA.mk hC3
  refine hK.out _ _ ⟨NB.out.a0, NB.out.a1, NB.out.b3⟩ (fun hHeld => ?_)
  clear hK K
  refine xA (a' := ?_) ?_ ?_
  rotate_left
  ·(show Act.put _ (some 60) _ = _; (simp only [Act.put, List.setIfInBounds_toArray, List.set_cons_zero, List.set_cons_succ, zU, zV]; rfl))
  clear hN hBV hR1 hR2 hC9 hl9 hR3 hB3 hl3 hC3 NV HMV
  refine one_ (i := 9) (N := some 61) #[true, true, true, true, true, true, true, true, true, true, false, false, false, false, false, false, false] rfl rfl (by kernel_rfl) (by decide) (fun K hK => ?_)
  rw [wD]
  refine qF Tryd.func72 (by kernel_rfl) rfl #[.agg #[.int .i64 t.rt, .slice (some ad) t.ns.length c], .int .i64 (kidA t x false), .int .i64 x, .slice A3 (Ms ++ [x.toNat]).length c3] (by rfl) rfl rfl (by (try simp only [List.map_toArray, List.map_cons, List.map_nil]); first | done | rfl) ?_
  with_reducible refine (IH.out _ (some ad) c (kidA t x false) x (Ms ++ [x.toNat]) A3 c3 (by rw [HLX.out]; have := HK.out; omega) NB.out.rd HL.out HC3.out HMX.out HMLX.out).mono ?_
  rintro e w4 ⟨B1, e1, B2, e2, Lf, M1, r1, rfl, hL1, hM1, hn1, hl1, hs1, hW1, hB⟩
  refine ⟨_, rfl, ?_⟩
  replace NB := zA.mk (NB.out.below hB)
  have HL1 := zA.mk hL1; have HM1 := zA.mk hM1; have HN1 := zA.mk hn1; have HQ1 := zA.mk hl1; have HS1 := zA.mk hs1; have HW1 := zA.mk hW1
  have HC4 := zA.mk HC3.out
  clear hL1 hM1 hn1 hl1 hs1 hW1 hB HC3 HC4
  refine hK.out _ _ ⟨NB.out.a0, NB.out.a1, NB.out.b3⟩ (fun hHeld => ?_)
  clear hK K
  refine xA (a' := ?_) ?_ ?_
  rotate_left
  ·(show Act.put _ (some 61) _ = _; (simp only [Act.put, List.setIfInBounds_toArray, List.set_cons_zero, List.set_cons_succ, zU, zV]; rfl))
  refine yB (i := 10) (N := some 51) (v := ?_) (a' := ?_) #[true, true, true, true, true, true, true, true, true, true, true, false, false, false, false, false, false] rfl rfl (by kernel_rfl) (fun _ _ _ h => h) (Or.inl ⟨by rfl, ?_⟩) ?_ ?_
  rotate_left
  ·intro w'
   go_simp
   with_reducible rfl
  rotate_left
  ·(simp only [Act.put, List.setIfInBounds_toArray, List.set_cons_zero, List.set_cons_succ, zU, zV]; rfl)
  refine yB (i := 11) (N := some 62) (v := ?_) (a' := ?_) #[true, true, true, true, true, true, true, true, true, true, true, true, false, false, false, false, false] rfl rfl (by kernel_rfl) (fun _ _ _ h => h) (Or.inl ⟨by rfl, ?_⟩) ?_ ?_
  rotate_left
  ·intro w'
   go_simp
   with_reducible rfl
  rotate_left
  ·(simp only [Act.put, List.setIfInBounds_toArray, List.set_cons_zero, List.set_cons_succ, zU, zV]; rfl)
  refine yB (i := 12) (N := some 63) (v := ?_) (a' := ?_) #[true, true, true, true, true, true, true, true, true, true, true, true, true, false, false, false, false] rfl rfl (by kernel_rfl) (fun _ _ _ h => h) (Or.inl ⟨by rfl, ?_⟩) ?_ ?_
  rotate_left
  ·intro w'
   go_simp
   with_reducible rfl
  rotate_left
  ·(simp only [Act.put, List.setIfInBounds_toArray, List.set_cons_zero, List.set_cons_succ, zU, zV]; rfl)
  refine yB (i := 13) (N := some 64) (v := ?_) (a' := ?_) #[true, true, true, true, true, true, true, true, true, true, true, true, true, true, false, false, false] rfl rfl (by kernel_rfl) (fun _ _ _ h => h) (Or.inl ⟨by rfl, ?_⟩) ?_ ?_
  rotate_left
  ·intro w'
   go_simp
   with_reducible rfl
  rotate_left
  ·(simp only [Act.put, List.setIfInBounds_toArray, List.set_cons_zero, List.set_cons_succ, zU, zV]; rfl)
  refine yB (i := 14) (N := some 12) (v := ?_) (a' := ?_) #[true, true, true, true, true, true, true, true, true, true, true, true, true, true, true, false, false] rfl rfl (by kernel_rfl) (fun _ _ _ h => h) (Or.inl ⟨by rfl, ?_⟩) ?_ ?_
  rotate_left
  ·intro w'
   go_simp
   with_reducible rfl
  rotate_left
  ·(simp only [Act.put, List.setIfInBounds_toArray, List.set_cons_zero, List.set_cons_succ, zU, zV]; rfl)
  refine yB (i := 15) (N := some 13) (v := ?_) (a' := ?_) #[true, true, true, true, true, true, true, true, true, true, true, true, true, true, true, true, false] rfl rfl (by kernel_rfl) (fun _ _ _ h => h) (Or.inl ⟨by rfl, ?_⟩) ?_ ?_
  rotate_left
  ·intro w'
   go_simp
   with_reducible rfl
  rotate_left
  ·(simp only [Act.put, List.setIfInBounds_toArray, List.set_cons_zero, List.set_cons_succ, zU, zV]; rfl)
  refine yB (i := 16) (N := some 14) (v := ?_) (a' := ?_) #[true, true, true, true, true, true, true, true, true, true, true, true, true, true, true, true, true] rfl rfl (by kernel_rfl) (fun _ _ _ h => h) (Or.inl ⟨by rfl, ?_⟩) ?_ ?_
  rotate_left
  ·intro w'
   go_simp
   with_reducible rfl
  rotate_left
  ·(simp only [Act.put, List.setIfInBounds_toArray, List.set_cons_zero, List.set_cons_succ, zU, zV]; rfl)
  refine vJ (by kernel_rfl) ?_
  clear hHeld
  go_upto_region 9 with (fail)
  cases r1 with
  | false =>
   go_wp2
   go_ret3
   exact ⟨none, 0, B2, e2, [], M1, false, rfl, ⟨rfl, by simp, fun h => absurd h (by simp)⟩, HM1.out, HN1.out, HQ1.out, by have := HS1.out; rw [HLX.out] at this; simp; omega, (by have h := HW1.out; rw [mOf_snoc] at h; exact ⟨(fun h => by cases h), (WRes.noL HX.out h).no⟩), NB.out.bb⟩
  | true =>
  have a0 := NB.out.a0
  have a1 := NB.out.a1
  have b4 := NB.out.b4
  simp only at b4
  have HLE1 := zA.mk (xO HN1.out HQ1.out)
  go_upto_region 12 with (go_at_call 72; with_reducible refine (IH.out _ (some ad) c (kidA t x true) x M1 B2 e2 (by have := HS1.out; rw [HLX.out] at this; have := HK.out; omega) NB.out.rd HL.out HM1.out HN1.out HQ1.out).mono ?_; rintro e w5 ⟨C1, f1, C2, f2, Lr, M2, r2, rfl, hL2, hM2, hn2, hl2, hs2, hW2, hB⟩; replace NB := zA.mk (NB.out.below hB); have HL1' := zA.mk (Kd.zY HL1.out hB); have HL2 := zA.mk hL2; have HM2 := zA.mk hM2; have HN2 := zA.mk hn2; have HQ2 := zA.mk hl2; have HS2 := zA.mk hs2; have HW2 := zA.mk hW2; clear hL2 hM2 hn2 hl2 hs2 hW2 hB)
  have HLE2 := zA.mk (xO HN2.out HQ2.out)
  clear a0 a1 b4
  have HB5 := zA.mk (Below.refl w5.heap.size w5)
  go_wp2_with (first | (at_builtin; refine Kd.vD (Kd.int .i64) (Rr := (Kd.int .i64).K w5) (w0 := w5) w5.heap.size rfl (.const (.slice none 0 0)) (.tmp 78) 83 3 (.int .i64 0) 8 rfl Tryd.underlying83 infoI rfl (by decide) (by omega) (.slice none 0 0) ([] : List Int) Lf B1 Lf.length e1 (fun _ => True) (fun _ => False) rfl rfl (Kd.vE _ _ _ _ _) HL1'.out (fun _ _ h => h) (fun _ h => h.elim) (fun _ _ => trivial) (Below.refl _ _) (Nat.le_refl _) (by have := HS1.out; have := HLE1.out; have := HL.out; rw [HLX.out] at *; simp; omega) ?_; intro v1 w6 hR6 hB6 _ _; have HR6 := zA.mk hR6; have HB6 := zA.mk hB6; clear hR6 hB6) | (at_builtin; refine Kd.zaJ (Kd.int .i64) (w0 := w5) w5.heap.size rfl (.tmp 79) (.tmp 81) 83 3 (.int .i64 0) 8 rfl Tryd.underlying83 infoI rfl (by decide) (by omega) _ ([] ++ Lf) x [.int .i64 x] (fun _ => True) (fun _ => False) rfl rfl (show Kd.M (Kd.int .i64) _ _ _ x [.int .i64 x] from rfl) (fun _ hk => hk.elim) (fun _ _ => trivial) HR6.out HB6.out HB6.out.size (by have := HS1.out; have := HLE1.out; have := HL.out; rw [HLX.out] at *; simp; omega) ?_; intro v2 w7 hR7 hB7 _ _; have HR7 := zA.mk hR7; have HB7 := zA.mk hB7; clear hR7 hB7) | (at_builtin; refine Kd.vD (Kd.int .i64) (Rr := (Kd.int .i64).K w7) (w0 := w5) w5.heap.size rfl (.tmp 82) (.tmp 83) 83 3 (.int .i64 0) 8 rfl Tryd.underlying83 infoI rfl (by decide) (by omega) _ (([] ++ Lf) ++ [x]) Lr C1 Lr.length f1 (fun _ => True) (fun _ => False) rfl rfl HR7.out (Kd.zY HL2.out HB7.out) (fun _ _ h => h) (fun _ h => h.elim) (fun _ _ => trivial) HB7.out HB7.out.size (by have := HS1.out; have := HS2.out; have := HLE2.out; have := HL.out; rw [HLX.out] at *; simp; omega) ?_; intro v3 w8 hR8 hB8 _ _; have HR8 := zA.mk hR8; have HB8 := zA.mk hB8; clear hR8 hB8))
  go_ret3
  obtain ⟨D1, g1, hv3, hl3, hC3⟩ := Kd.qG HR8.out
  subst hv3
  refine ⟨D1, g1, C2, f2, _, M2, r2, rfl, hC3, Kd.zY HM2.out HB8.out, HN2.out, HQ2.out, ?_, ?_, zT NB.out.bb HB8.out⟩
  ·have h1 := HS1.out
   have h2 := HS2.out
   rw [HLX.out] at h1
   simp only [List.nil_append, List.length_append, List.length_cons, List.length_nil]
   omega
  ·have h1 := HW1.out
   rw [mOf_snoc] at h1
   exact WRes.both H2.out H4.out HIN.out HI.out HU.out h1 (HW2.out.shift (Lf ++ [x]))
end Go.Proofs.YtfapmcpmfeigbaaDoor.Tm
