/- Parts of the proof, joined: Tm3. -/
import Derived.Test.YtnkhnnojdlgfjaaDoorUF6
namespace Go.Proofs.YtnkhnnojdlgfjaaDoor.Tm
open Go.RowKit Go Go.Proofs Go.Proofs.YtnkhnnojdlgfjaaDoor Go.Proofs.YtnkhnnojdlgfjaaDoor.Tr Go.Proofs.YtnkhnnojdlgfjaaDoorW.PrintWords Go.Proofs.YtnkhnnojdlgfjaaDoorW.PrintLast Go.Proofs.YtnkhnnojdlgfjaaDoorW.PrintMore
set_option linter.unusedVariables false
set_option linter.unusedSimpArgs false
structure Ok (t : St) : Prop where
  ns : ∀ z : Nat, (gn t z).l < t.ns.length ∧ (gn t z).r < t.ns.length ∧ (gn t z).u < t.ns.length
  rt : t.rt < t.ns.length
section
variable {t : St}
theorem Ok.kid (h : Ok t) (x : Int) (s : Bool) : kidA t x s < t.ns.length := by
  unfold kidA
  cases s
  · exact (h.ns x.toNat).1
  · exact (h.ns x.toNat).2.1
theorem Ok.up (h : Ok t) (x : Int) : upA t x < t.ns.length := (h.ns x.toNat).2.2
theorem Ok.sn (h : Ok t) (x : Nat) (n : Nd) (hx : x < t.ns.length) (h1 : n.l < t.ns.length ∧ n.r < t.ns.length ∧ n.u < t.ns.length) : Ok (sn t x n) := by
  refine ⟨fun z => ?_, by rw [sn_len]; exact h.rt⟩
  rw [sn_len, gn_sn _ _ _ _ hx]
  split
  · exact h1
  · exact h.ns z
theorem Ok.paint (h : Ok t) (is : Bool) (x : Int) (hx : x < t.ns.length) : Ok (paintA t is x) := by
  unfold paintA
  split
  · exact h.sn _ _ (by omega) (h.ns _)
  · exact h
theorem Ok.hang1 (h : Ok t) (x : Int) (s : Bool) (y : Int) (hx : x < t.ns.length) (hy : y < t.ns.length) : Ok (hang1 t x s y) := by
  unfold Tr.hang1
  split
  · exact ⟨h.ns, hy⟩
  · refine h.sn _ _ (by omega) ?_
    unfold setKid
    cases s
    · exact ⟨hy, (h.ns _).2.1, (h.ns _).2.2⟩
    · exact ⟨(h.ns _).1, hy, (h.ns _).2.2⟩
theorem Ok.hang (h : Ok t) (x : Int) (s : Bool) (y : Int) (hx : x < t.ns.length) (hy : y < t.ns.length) : Ok (hangA t x s y) := by
  have k := h.hang1 x s y hx hy
  have hl := hang1_len t x s y
  unfold hangA hang2
  split
  · exact k.sn _ _ (by rw [hl]; omega) ⟨(k.ns _).1, (k.ns _).2.1, by rw [hl]; exact hx⟩
  · exact k
theorem Ok.turn (h : Ok t) (x : Int) (s : Bool) (hx : x < t.ns.length) : Ok (turnA t x s) := by
  unfold turnA
  have k1 := h.hang x (!s) (kidA t (kidA t x (!s)) s) hx (h.kid _ _)
  have k2 := k1.hang (gn t x.toNat).u (onA t x) (kidA t x (!s)) (by rw [hang_len]; exact (h.ns _).2.2) (by rw [hang_len]; exact h.kid _ _)
  exact k2.hang _ _ _ (by rw [hang_len, hang_len]; exact h.kid _ _) (by rw [hang_len, hang_len]; exact hx)
end
theorem turn_len (t : St) (x : Int) (s : Bool) : (turnA t x s).ns.length = t.ns.length := by
  unfold turnA
  rw [hang_len, hang_len, hang_len]
section
variable {A : Option Addr} {c : Nat} {w w1 : World} {g b : Nat} {t : St}
theorem paint1_ (h : Wk A c w g b t) (is : Bool) (x : Int) (h0 : 0 < t.ns.length) (hx : x < t.ns.length) :
    Calls Tryd.prog 65 #[.pointer (some ⟨g, 0, none⟩), .bool is, .slice (some ⟨w.heap.size, 0, none⟩) 1 1] (w.alloc (.cells #[.int .i64 x] 3)) fun e w' => e = .returned (.tuple #[]) ∧ Wk A c w' g b (paintA t is x) ∧ Gs g b w w' := by
  have h1 := h.ltg
  have h2 := h.ltb h0
  refine (paint_ (h.alloc (.cells #[.int .i64 x] 3)) is w.heap.size 1 [x] (by omega) (by omega) (by simp) (fun k hk => ?_) (fun y hy => ?_)).mono ?_
  · rw [blk_cell (blk_new w (.cells #[.int .i64 x] 3))]
    obtain rfl : k = 0 := by simpa using hk
    rfl
  · rw [List.mem_singleton.1 hy]; exact hx
  · rintro e w' ⟨rfl, hW, hG⟩
    exact ⟨rfl, hW, ((Gs.refl g b w).alloc _).trans hG⟩
theorem paint1d_ (h : Wk A c w g b t) (is : Bool) (x : Int) (h0 : 0 < t.ns.length) (hx : x < t.ns.length) :
    Calls Tryd.prog 65 #[.pointer (some ⟨g, 0, none⟩), .bool is, .slice (some ⟨w.heap.size, 0, none⟩) 1 1] (w.alloc (.cells #[.int .i64 x] 3)).drew fun e w' => e = .returned (.tuple #[]) ∧ Wk A c w' g b (paintA t is x) ∧ Gs g b w w' := by
  have h1 := h.ltg
  have h2 := h.ltb h0
  refine (paint_ (h.alloc (.cells #[.int .i64 x] 3)).drew is w.heap.size 1 [x] (by omega) (by omega) (by simp) (fun k hk => ?_) (fun y hy => ?_)).mono ?_
  · show (w.alloc (.cells #[.int .i64 x] 3)).cell? _ = _
    rw [blk_cell (blk_new w (.cells #[.int .i64 x] 3))]
    obtain rfl : k = 0 := by simpa using hk
    rfl
  · rw [List.mem_singleton.1 hy]; exact hx
  · rintro e w' ⟨rfl, hW, hG⟩
    exact ⟨rfl, hW, (((Gs.refl g b w).alloc _).drew).trans hG⟩
theorem paint2_ (h : Wk A c w g b t) (is : Bool) (x y : Int) (h0 : 0 < t.ns.length) (hx : x < t.ns.length) (hy : y < t.ns.length) :
    Calls Tryd.prog 65 #[.pointer (some ⟨g, 0, none⟩), .bool is, .slice (some ⟨w.heap.size, 0, none⟩) 2 2] (w.alloc (.cells #[.int .i64 x, .int .i64 y] 3)) fun e w' => e = .returned (.tuple #[]) ∧ Wk A c w' g b (paintA (paintA t is x) is y) ∧ Gs g b w w' := by
  have h1 := h.ltg
  have h2 := h.ltb h0
  refine (paint_ (h.alloc (.cells #[.int .i64 x, .int .i64 y] 3)) is w.heap.size 2 [x, y] (by omega) (by omega) (by simp) (fun k hk => ?_) (fun z hz => ?_)).mono ?_
  · rw [blk_cell (blk_new w (.cells #[.int .i64 x, .int .i64 y] 3))]
    have hk : k < 2 := hk
    match k, hk with
    | 0, _ => rfl
    | 1, _ => rfl
  · rcases List.mem_cons.1 hz with rfl | hz
    · exact hx
    · rw [List.mem_singleton.1 hz]; exact hy
  · rintro e w' ⟨rfl, hW, hG⟩
    exact ⟨rfl, hW, ((Gs.refl g b w).alloc _).trans hG⟩
end
noncomputable def least (P : Nat → Prop) : Nat := open Classical in if h : ∃ k, P k ∧ ∀ j, P j → k ≤ j then Classical.choose h else 0
theorem least_ex {P : Nat → Prop} (h : ∃ k, P k) : ∃ k, P k ∧ ∀ j, P j → k ≤ j := by
  obtain ⟨k, hk⟩ := h
  induction k using Nat.strongRecOn with
  | ind k ih =>
    by_cases hj : ∃ j, j < k ∧ P j
    · obtain ⟨j, h1, h2⟩ := hj
      exact ih j h1 h2
    · exact ⟨k, hk, fun j h => by
        by_cases e : k ≤ j
        · exact e
        · exact absurd ⟨j, by omega, h⟩ hj⟩
theorem least_of {P : Nat → Prop} (h : ∃ k, P k) : P (least P) ∧ ∀ j, P j → least P ≤ j := by
  have h2 := least_ex h
  unfold least
  rw [dif_pos h2]
  exact Classical.choose_spec h2
section
variable {A : Option Addr} {c : Nat} {w w1 : World} {g b : Nat} {t : St}
theorem red_ge {x : Int} (h : redA t x = true) : 0 ≤ x := by
  unfold redA at h
  rw [Bool.and_eq_true] at h
  exact of_decide_eq_true h.1
theorem red_v (h : Wk A c w g b t) (x : Int) (hx : x < t.ns.length) (v : Bool) (hv : redA t x = v) :
    Calls Tryd.prog 62 #[.pointer (some ⟨g, 0, none⟩), .int .i64 x] w fun e w' => e = .returned (.bool v) ∧ w' = w := hv ▸ red_ h x hx
theorem up_v (h : Wk A c w g b t) (x : Int) (h0 : 0 ≤ x) (hx : x < t.ns.length) (v : Int) (hv : upA t x = v) :
    Calls Tryd.prog 63 #[.pointer (some ⟨g, 0, none⟩), .int .i64 x] w fun e w' => e = .returned (.int .i64 v) ∧ w' = w := hv ▸ up_ h x h0 hx
theorem on_v (h : Wk A c w g b t) (ho : Ok t) (x : Int) (h0 : 0 ≤ x) (hx : x < t.ns.length) (v : Int) (hv : sd (onA t x) = v) :
    Calls Tryd.prog 60 #[.pointer (some ⟨g, 0, none⟩), .int .i64 x] w fun e w' => e = .returned (.int .i64 v) ∧ w' = w := hv ▸ on_ h x h0 hx (ho.up x)
theorem kid_v (h : Wk A c w g b t) (x : Int) (h0 : 0 ≤ x) (hx : x < t.ns.length) (s : Bool) (z : Int) (hz : sd s = z) (v : Int) (hv : kidA t x s = v) :
    Calls Tryd.prog 53 #[.pointer (some ⟨g, 0, none⟩), .int .i64 x, .int .i64 z] w fun e w' => e = .returned (.int .i64 v) ∧ w' = w := by
  subst hz
  exact hv ▸ kid_ h x h0 hx s
theorem turn_v (h : Wk A c w g b t) (ho : Ok t) (x : Int) (h0 : 0 ≤ x) (hx : x < t.ns.length) (s : Bool) (hk0 : 0 ≤ kidA t x (!s)) (z : Int) (hz : sd s = z) :
    Calls Tryd.prog 78 #[.pointer (some ⟨g, 0, none⟩), .int .i64 x, .int .i64 z] w fun e w' => e = .returned (.tuple #[]) ∧ Wk A c w' g b (turnA t x s) ∧ Gs g b w w' := by
  subst hz
  exact turn_ h x s h0 hx (ho.up x) hk0 (ho.kid _ _) (ho.kid _ _)
theorem hang_z (h : Wk A c w g b t) (x y : Int) (s : Bool) (hx : x < t.ns.length) (hy : y < t.ns.length) (z : Int) (hz : sd s = z) :
    Calls Tryd.prog 54 #[.pointer (some ⟨g, 0, none⟩), .int .i64 x, .int .i64 z, .int .i64 y] w fun e w' => e = .returned (.tuple #[]) ∧ Wk A c w' g b (hangA t x s y) ∧ Gs g b w w' := by
  subst hz
  exact hang_ h x y s hx hy
end
structure MRel (A : Option Addr) (c g b : Nat) (w : World) (n : Nat) (t' : St) (vx vp : Value) (wr : World) (k : Nat) : Prop where mk ::
  out : ∃ (T : St) (x : Int), vx = .int .i64 x ∧ vp = .int .i64 (upA T x) ∧ Wk A c wr g b T ∧ Ok T ∧ 0 ≤ x ∧ x < T.ns.length ∧ T.ns.length = n ∧ mendA k T x = some t' ∧ Gs g b w wr
structure MRl (A : Option Addr) (c g b : Nat) (w : World) (n : Nat) (t' : St) (vx vp : Value) (wr : World) : Prop where mk ::
  out : ∃ k, MRel A c g b w n t' vx vp wr k
variable {A : Option Addr} {c : Nat} {w w1 : World} {g b : Nat} {t : St}
set_option maxHeartbeats 8000000 in
set_option maxRecDepth 100000 in
theorem mend_ (h : Wk A c w g b t) (ho : Ok t) (x : Int) (h0 : 0 ≤ x) (hx : x < t.ns.length) (k0 : Nat) (t' : St) (hm : mendA k0 t x = some t') :
    Calls Tryd.prog 55 #[.pointer (some ⟨g, 0, none⟩), .int .i64 x] w fun e w' => e = .returned (.tuple #[]) ∧ Wk A c w' g b t' ∧ Gs g b w w' := by
  have H := Aside0.mk h
  have HO := Aside0.mk ho
  have HM := Aside0.mk hm
  have HX := Aside0.mk hx
  have H0 := Aside0.mk h0
  clear h ho hm hx h0
  go_enter Tryd.func55, Tryd.ntmps55
  go_upto_region 1 with (go_at_call 63; refine (up_ H.out x H0.out HX.out).mono ?_; rintro e w' ⟨rfl, rfl⟩)
  go_loopw [1, 4] (fun vx vp wr => MRl A c g b w' t.ns.length t' vx vp wr) (fun vx vp wr => least (MRel A c g b w' t.ns.length t' vx vp wr))
  case atStart => exact ⟨k0, t, x, rfl, rfl, H.out, HO.out, H0.out, HX.out, rfl, HM.out, Gs.refl _ _ _⟩
  case round =>
    clear H HO HM HX H0
    have HR := least_of hrel.out
    obtain ⟨hR1, hR2⟩ := HR
    have HL := Aside0.mk hR2
    generalize hlk : least _ = lk at hR1 HL ⊢
    obtain ⟨T, y, rfl, rfl, hW, hO, hy0, hy, hn, hmd, hG⟩ := hR1.out
    obtain ⟨m, rfl⟩ : ∃ m, lk = m + 1 := by
      cases lk with
      | zero => simp [mendA] at hmd
      | succ m => exact ⟨m, rfl⟩
    clear hR2 hrel hR1 HL
    rw [mendA] at hmd
    obtain ⟨p, hpe⟩ : ∃ p, p = upA T y := ⟨_, rfl⟩
    have HP := Aside0.mk (show p < (T.ns.length : Int) by rw [hpe]; exact hO.up y)
    have HPE := Aside0.mk hpe.symm
    rw [← hpe] at hmd hlk ⊢
    clear hpe
    have W0 := Aside0.mk hW
    have O0 := Aside0.mk hO
    have G0 := Aside0.mk hG
    have HY := Aside0.mk hy
    have HY0 := Aside0.mk hy0
    have HN := Aside0.mk hn
    clear hW hO hG hy hy0 hn
    cases hr : redA T p with
    | false =>
      have HR := Aside0.mk hr
      rw [hr, if_neg (by simp)] at hmd
      have HMD := Aside0.mk (Option.some.inj hmd)
      have hc1 := W0.out.c1
      clear hr hmd
      go_wp2_with (go_at_call 62; refine (red_v W0.out p HP.out false HR.out).mono ?_; rintro e wq ⟨rfl, rfl⟩)
      go_region_with (go_at_call 65; refine (paint1d_ W0.out false T.rt (by have := HY.out; have := HY0.out; omega) O0.out.rt).mono ?_; rintro e wr ⟨rfl, hWq, hGq⟩; have W1 := Aside0.mk hWq; have G1 := Aside0.mk (G0.out.trans hGq); clear hWq hGq)
      go_end0
      exact ⟨rfl, by rw [← HMD.out]; exact W1.out, G1.out⟩
    | true =>
    have P0 := Aside0.mk (red_ge hr)
    have HR := Aside0.mk hr
    rw [hr, if_pos rfl] at hmd
    obtain ⟨gg, hge⟩ : ∃ q, q = upA T p := ⟨_, rfl⟩
    rw [← hge] at hmd
    have HGN := Aside0.mk (show gg < (T.ns.length : Int) by rw [hge]; exact O0.out.up p)
    have HGE := Aside0.mk hge.symm
    clear hge hr
    by_cases hg : 0 ≤ gg
    rotate_left
    · rw [if_neg hg] at hmd
      cases hmd
    have GG0 := Aside0.mk hg
    rw [if_pos hg] at hmd
    clear hg
    cases hs : onA T p with
    | false =>
      have HS : Aside0 (sd (onA T p) = 0) := ⟨by rw [hs]; rfl⟩
      obtain ⟨u, hue⟩ : ∃ u, u = kidA T gg true := ⟨_, rfl⟩
      rw [hs] at hmd
      simp only [Bool.not_false] at hmd
      rw [← hue] at hmd
      have HUE := Aside0.mk hue.symm
      have HUN := Aside0.mk (show u < (T.ns.length : Int) by rw [hue]; exact O0.out.kid _ _)
      clear hue
      cases hru : redA T u with
      | true =>
        have HRU := Aside0.mk hru
        rw [hru, if_pos rfl] at hmd
        clear hs hru
        have HMD := Aside0.mk hmd
        clear hmd
        go_upto_region 7 with (first
          | (go_at_call_of 62 (Value.int IntKind.i64 p); refine (red_v W0.out p HP.out true HR.out).mono ?_; rintro e wq ⟨rfl, rfl⟩)
          | (go_at_call 63; refine (up_v W0.out p P0.out HP.out gg HGE.out).mono ?_; rintro e wq ⟨rfl, rfl⟩)
          | (go_at_call_of 60 (Value.int IntKind.i64 p); refine (on_v W0.out O0.out p P0.out HP.out 0 HS.out).mono ?_; rintro e wq ⟨rfl, rfl⟩)
          | (go_at_call 53; refine (kid_v W0.out gg GG0.out HGN.out true 1 rfl u HUE.out).mono ?_; rintro e wq ⟨rfl, rfl⟩)
          | (go_at_call_of 62 (Value.int IntKind.i64 u); refine (red_v W0.out u HUN.out true HRU.out).mono ?_; rintro e wq ⟨rfl, rfl⟩)
          | (go_at_call 65; refine (paint2_ W0.out false p u (by have := P0.out; have := HP.out; omega) HP.out HUN.out).mono ?_; rintro e wq ⟨rfl, hWq, hGq⟩; have W1 := Aside0.mk hWq; have G1 := Aside0.mk (G0.out.trans hGq); clear hWq hGq))
        go_upto_region 8 with (go_at_call 65; refine (paint1_ W1.out true gg (by rw [paint_len, paint_len]; have := P0.out; have := HP.out; omega) (by rw [paint_len, paint_len]; exact HGN.out)).mono ?_; rintro e wq ⟨rfl, hWq, hGq⟩; have W2 := Aside0.mk hWq; have G2 := Aside0.mk (G1.out.trans hGq); clear hWq hGq)
        have O2 := Aside0.mk (((O0.out.paint false p HP.out).paint false u (by rw [paint_len]; exact HUN.out)).paint true gg (by rw [paint_len, paint_len]; exact HGN.out))
        have L2 := Aside0.mk (show (paintA (paintA (paintA T false p) false u) true gg).ns.length = T.ns.length by rw [paint_len, paint_len, paint_len])
        generalize paintA (paintA (paintA T false p) false u) true gg = T2 at W2 O2 L2 HMD
        go_wp2_with (go_at_call 63; refine (up_v W2.out gg GG0.out (by rw [L2.out]; exact HGN.out) _ rfl).mono ?_; rintro e wq ⟨rfl, rfl⟩)
        have hq : MRel A c g b w' t.ns.length t' (Value.int IntKind.i64 gg) (Value.int IntKind.i64 (upA T2 gg)) wq m := ⟨T2, gg, rfl, rfl, W2.out, O2.out, GG0.out, by rw [L2.out]; exact HGN.out, by rw [L2.out]; exact HN.out, HMD.out, G2.out⟩
        refine ⟨⟨m, hq⟩, ?_⟩
        have h3 := (least_of ⟨m, hq⟩).2 m hq
        exact Nat.lt_of_le_of_lt h3 (by rw [hlk]; omega)
      | false =>
        have HRU := Aside0.mk hru
        rw [hru, if_neg (by simp)] at hmd
        clear hs hru
        cases ho1 : onA T y with
        | false =>
          have HO1 := Aside0.mk ho1
          rw [ho1, if_pos rfl] at hmd
          clear ho1
          obtain ⟨T3, hT3⟩ : ∃ T3, T3 = paintA (paintA T false p) true gg := ⟨_, rfl⟩
          rw [← hT3, turnK] at hmd
          have L3 := Aside0.mk (show T3.ns.length = T.ns.length by rw [hT3, paint_len, paint_len])
          have HT3 := Aside0.mk hT3
          have O3 := Aside0.mk (show Ok T3 by rw [hT3]; exact (O0.out.paint false p (by exact HP.out)).paint true gg (by rw [paint_len]; exact HGN.out))
          clear hT3
          by_cases hkg : 0 ≤ kidA T3 gg (!true)
          rotate_left
          · rw [if_neg hkg] at hmd
            cases hmd
          rw [if_pos hkg] at hmd
          have HKG := Aside0.mk hkg
          have O4 := Aside0.mk (O3.out.turn gg true (by rw [L3.out]; exact HGN.out))
          have L4 := Aside0.mk (turn_len T3 gg true)
          have HMD := Aside0.mk hmd
          clear hkg hmd
          go_upto_region 13 with (first
          | (go_at_call_of 62 (Value.int IntKind.i64 p); refine (red_v W0.out p HP.out true HR.out).mono ?_; rintro e wq ⟨rfl, rfl⟩)
          | (go_at_call 63; refine (up_v W0.out p P0.out HP.out gg HGE.out).mono ?_; rintro e wq ⟨rfl, rfl⟩)
          | (go_at_call_of 60 (Value.int IntKind.i64 p); refine (on_v W0.out O0.out p P0.out HP.out 0 HS.out).mono ?_; rintro e wq ⟨rfl, rfl⟩)
          | (go_at_call 53; refine (kid_v W0.out gg GG0.out HGN.out true 1 rfl u HUE.out).mono ?_; rintro e wq ⟨rfl, rfl⟩)
          | (go_at_call_of 62 (Value.int IntKind.i64 u); refine (red_v W0.out u HUN.out false HRU.out).mono ?_; rintro e wq ⟨rfl, rfl⟩)
          | (go_at_call_of 60 (Value.int IntKind.i64 y); refine (on_v W0.out O0.out y HY0.out HY.out 0 (by rw [HO1.out]; rfl)).mono ?_; rintro e wq ⟨rfl, rfl⟩)
            | (go_at_call 65; refine (paint1_ W0.out false p (by have := P0.out; have := HP.out; omega) (by exact HP.out)).mono ?_; rintro e wq ⟨rfl, hWq, hGq⟩; have W2 := Aside0.mk hWq; have G2 := Aside0.mk (G0.out.trans hGq); clear hWq hGq))
          go_upto_region 14 with (go_at_call 65; refine (paint1_ W2.out true gg (by have := L3.out; rw [HT3.out, paint_len] at this; have := P0.out; have := HP.out; omega) (by have := L3.out; rw [HT3.out, paint_len] at this; rw [this]; exact HGN.out)).mono ?_; rintro e wq ⟨rfl, hWq, hGq⟩; rw [← HT3.out] at hWq; have W3 := Aside0.mk hWq; have G3 := Aside0.mk (G2.out.trans hGq); clear hWq hGq)
          go_upto_region 2 with (go_at_call 78; refine (turn_v W3.out O3.out gg GG0.out (by rw [L3.out]; exact HGN.out) true HKG.out 1 rfl).mono ?_; rintro e wq ⟨rfl, hWq, hGq⟩; have W4 := Aside0.mk hWq; have G4 := Aside0.mk (G3.out.trans hGq); clear hWq hGq)
          generalize turnA T3 gg true = T4 at W4 O4 L4 HMD
          have HX4 := Aside0.mk (show y < (T4.ns.length : Int) by rw [L4.out, L3.out]; exact HY.out)
          go_wp2_with (go_at_call 63; refine (up_v W4.out y HY0.out HX4.out _ rfl).mono ?_; rintro e wq ⟨rfl, rfl⟩)
          have hq : MRel A c g b w' t.ns.length t' (Value.int IntKind.i64 y) (Value.int IntKind.i64 (upA T4 y)) wq m := ⟨T4, y, rfl, rfl, W4.out, O4.out, HY0.out, HX4.out, by rw [L4.out, L3.out]; exact HN.out, HMD.out, G4.out⟩
          refine ⟨⟨m, hq⟩, ?_⟩
          have h3 := (least_of ⟨m, hq⟩).2 m hq
          exact Nat.lt_of_le_of_lt h3 (by rw [hlk]; omega)
        | true =>
          have HO1 := Aside0.mk ho1
          rw [ho1, if_neg (by simp)] at hmd
          clear ho1
          by_cases hkp : kidA T p true = y
          rotate_left
          · rw [if_neg hkp] at hmd
            cases hmd
          rw [if_pos hkp] at hmd
          have HKP := Aside0.mk hkp
          clear hkp
          have O1 := Aside0.mk (O0.out.turn p false HP.out)
          have L1 := Aside0.mk (turn_len T p false)
          obtain ⟨T1, hT1⟩ : ∃ T1, T1 = turnA T p false := ⟨_, rfl⟩
          rw [← hT1] at hmd O1 L1
          have HT1 := Aside0.mk hT1
          clear hT1
          obtain ⟨T3, hT3⟩ : ∃ T3, T3 = paintA (paintA T1 false y) true gg := ⟨_, rfl⟩
          rw [← hT3, turnK] at hmd
          have L3 := Aside0.mk (show T3.ns.length = T.ns.length by rw [hT3, paint_len, paint_len, L1.out])
          have HT3 := Aside0.mk hT3
          have O3 := Aside0.mk (show Ok T3 by rw [hT3]; exact (O1.out.paint false y (by rw [L1.out]; exact HY.out)).paint true gg (by rw [paint_len, L1.out]; exact HGN.out))
          clear hT3
          by_cases hkg : 0 ≤ kidA T3 gg (!true)
          rotate_left
          · rw [if_neg hkg] at hmd
            cases hmd
          rw [if_pos hkg] at hmd
          have HKG := Aside0.mk hkg
          have O4 := Aside0.mk (O3.out.turn gg true (by rw [L3.out]; exact HGN.out))
          have L4 := Aside0.mk (turn_len T3 gg true)
          have HMD := Aside0.mk hmd
          clear hkg hmd
          go_upto_region 13 with (first
          | (go_at_call_of 62 (Value.int IntKind.i64 p); refine (red_v W0.out p HP.out true HR.out).mono ?_; rintro e wq ⟨rfl, rfl⟩)
          | (go_at_call 63; refine (up_v W0.out p P0.out HP.out gg HGE.out).mono ?_; rintro e wq ⟨rfl, rfl⟩)
          | (go_at_call_of 60 (Value.int IntKind.i64 p); refine (on_v W0.out O0.out p P0.out HP.out 0 HS.out).mono ?_; rintro e wq ⟨rfl, rfl⟩)
          | (go_at_call 53; refine (kid_v W0.out gg GG0.out HGN.out true 1 rfl u HUE.out).mono ?_; rintro e wq ⟨rfl, rfl⟩)
          | (go_at_call_of 62 (Value.int IntKind.i64 u); refine (red_v W0.out u HUN.out false HRU.out).mono ?_; rintro e wq ⟨rfl, rfl⟩)
          | (go_at_call_of 60 (Value.int IntKind.i64 y); refine (on_v W0.out O0.out y HY0.out HY.out 1 (by rw [HO1.out]; rfl)).mono ?_; rintro e wq ⟨rfl, rfl⟩)
            | (go_at_call 78; refine (turn_v W0.out O0.out p P0.out HP.out false (by rw [show (!false) = true from rfl, HKP.out]; exact HY0.out) 0 rfl).mono ?_; rintro e wq ⟨rfl, hWq, hGq⟩; rw [← HT1.out] at hWq; have W1 := Aside0.mk hWq; have G1 := Aside0.mk (G0.out.trans hGq); clear hWq hGq)
            | (go_at_call 65; refine (paint1_ W1.out false y (by have := P0.out; have := HP.out; have := L1.out; omega) (by rw [L1.out]; exact HY.out)).mono ?_; rintro e wq ⟨rfl, hWq, hGq⟩; have W2 := Aside0.mk hWq; have G2 := Aside0.mk (G1.out.trans hGq); clear hWq hGq))
          go_upto_region 14 with (go_at_call 65; refine (paint1_ W2.out true gg (by have := L3.out; rw [HT3.out, paint_len] at this; have := P0.out; have := HP.out; omega) (by have := L3.out; rw [HT3.out, paint_len] at this; rw [this]; exact HGN.out)).mono ?_; rintro e wq ⟨rfl, hWq, hGq⟩; rw [← HT3.out] at hWq; have W3 := Aside0.mk hWq; have G3 := Aside0.mk (G2.out.trans hGq); clear hWq hGq)
          go_upto_region 2 with (go_at_call 78; refine (turn_v W3.out O3.out gg GG0.out (by rw [L3.out]; exact HGN.out) true HKG.out 1 rfl).mono ?_; rintro e wq ⟨rfl, hWq, hGq⟩; have W4 := Aside0.mk hWq; have G4 := Aside0.mk (G3.out.trans hGq); clear hWq hGq)
          generalize turnA T3 gg true = T4 at W4 O4 L4 HMD
          have HX4 := Aside0.mk (show p < (T4.ns.length : Int) by rw [L4.out, L3.out]; exact HP.out)
          go_wp2_with (go_at_call 63; refine (up_v W4.out p P0.out HX4.out _ rfl).mono ?_; rintro e wq ⟨rfl, rfl⟩)
          have hq : MRel A c g b w' t.ns.length t' (Value.int IntKind.i64 p) (Value.int IntKind.i64 (upA T4 p)) wq m := ⟨T4, p, rfl, rfl, W4.out, O4.out, P0.out, HX4.out, by rw [L4.out, L3.out]; exact HN.out, HMD.out, G4.out⟩
          refine ⟨⟨m, hq⟩, ?_⟩
          have h3 := (least_of ⟨m, hq⟩).2 m hq
          exact Nat.lt_of_le_of_lt h3 (by rw [hlk]; omega)
    | true =>
      have HS : Aside0 (sd (onA T p) = 1) := ⟨by rw [hs]; rfl⟩
      obtain ⟨u, hue⟩ : ∃ u, u = kidA T gg false := ⟨_, rfl⟩
      rw [hs] at hmd
      simp only [Bool.not_true] at hmd
      rw [← hue] at hmd
      have HUE := Aside0.mk hue.symm
      have HUN := Aside0.mk (show u < (T.ns.length : Int) by rw [hue]; exact O0.out.kid _ _)
      clear hue
      cases hru : redA T u with
      | true =>
        have HRU := Aside0.mk hru
        rw [hru, if_pos rfl] at hmd
        clear hs hru
        have HMD := Aside0.mk hmd
        clear hmd
        go_upto_region 7 with (first
          | (go_at_call_of 62 (Value.int IntKind.i64 p); refine (red_v W0.out p HP.out true HR.out).mono ?_; rintro e wq ⟨rfl, rfl⟩)
          | (go_at_call 63; refine (up_v W0.out p P0.out HP.out gg HGE.out).mono ?_; rintro e wq ⟨rfl, rfl⟩)
          | (go_at_call_of 60 (Value.int IntKind.i64 p); refine (on_v W0.out O0.out p P0.out HP.out 1 HS.out).mono ?_; rintro e wq ⟨rfl, rfl⟩)
          | (go_at_call 53; refine (kid_v W0.out gg GG0.out HGN.out false 0 rfl u HUE.out).mono ?_; rintro e wq ⟨rfl, rfl⟩)
          | (go_at_call_of 62 (Value.int IntKind.i64 u); refine (red_v W0.out u HUN.out true HRU.out).mono ?_; rintro e wq ⟨rfl, rfl⟩)
          | (go_at_call 65; refine (paint2_ W0.out false p u (by have := P0.out; have := HP.out; omega) HP.out HUN.out).mono ?_; rintro e wq ⟨rfl, hWq, hGq⟩; have W1 := Aside0.mk hWq; have G1 := Aside0.mk (G0.out.trans hGq); clear hWq hGq))
        go_upto_region 8 with (go_at_call 65; refine (paint1_ W1.out true gg (by rw [paint_len, paint_len]; have := P0.out; have := HP.out; omega) (by rw [paint_len, paint_len]; exact HGN.out)).mono ?_; rintro e wq ⟨rfl, hWq, hGq⟩; have W2 := Aside0.mk hWq; have G2 := Aside0.mk (G1.out.trans hGq); clear hWq hGq)
        have O2 := Aside0.mk (((O0.out.paint false p HP.out).paint false u (by rw [paint_len]; exact HUN.out)).paint true gg (by rw [paint_len, paint_len]; exact HGN.out))
        have L2 := Aside0.mk (show (paintA (paintA (paintA T false p) false u) true gg).ns.length = T.ns.length by rw [paint_len, paint_len, paint_len])
        generalize paintA (paintA (paintA T false p) false u) true gg = T2 at W2 O2 L2 HMD
        go_wp2_with (go_at_call 63; refine (up_v W2.out gg GG0.out (by rw [L2.out]; exact HGN.out) _ rfl).mono ?_; rintro e wq ⟨rfl, rfl⟩)
        have hq : MRel A c g b w' t.ns.length t' (Value.int IntKind.i64 gg) (Value.int IntKind.i64 (upA T2 gg)) wq m := ⟨T2, gg, rfl, rfl, W2.out, O2.out, GG0.out, by rw [L2.out]; exact HGN.out, by rw [L2.out]; exact HN.out, HMD.out, G2.out⟩
        refine ⟨⟨m, hq⟩, ?_⟩
        have h3 := (least_of ⟨m, hq⟩).2 m hq
        exact Nat.lt_of_le_of_lt h3 (by rw [hlk]; omega)
      | false =>
        have HRU := Aside0.mk hru
        rw [hru, if_neg (by simp)] at hmd
        clear hs hru
        cases ho1 : onA T y with
        | true =>
          have HO1 := Aside0.mk ho1
          rw [ho1, if_pos rfl] at hmd
          clear ho1
          obtain ⟨T3, hT3⟩ : ∃ T3, T3 = paintA (paintA T false p) true gg := ⟨_, rfl⟩
          rw [← hT3, turnK] at hmd
          have L3 := Aside0.mk (show T3.ns.length = T.ns.length by rw [hT3, paint_len, paint_len])
          have HT3 := Aside0.mk hT3
          have O3 := Aside0.mk (show Ok T3 by rw [hT3]; exact (O0.out.paint false p (by exact HP.out)).paint true gg (by rw [paint_len]; exact HGN.out))
          clear hT3
          by_cases hkg : 0 ≤ kidA T3 gg (!false)
          rotate_left
          · rw [if_neg hkg] at hmd
            cases hmd
          rw [if_pos hkg] at hmd
          have HKG := Aside0.mk hkg
          have O4 := Aside0.mk (O3.out.turn gg false (by rw [L3.out]; exact HGN.out))
          have L4 := Aside0.mk (turn_len T3 gg false)
          have HMD := Aside0.mk hmd
          clear hkg hmd
          go_upto_region 13 with (first
          | (go_at_call_of 62 (Value.int IntKind.i64 p); refine (red_v W0.out p HP.out true HR.out).mono ?_; rintro e wq ⟨rfl, rfl⟩)
          | (go_at_call 63; refine (up_v W0.out p P0.out HP.out gg HGE.out).mono ?_; rintro e wq ⟨rfl, rfl⟩)
          | (go_at_call_of 60 (Value.int IntKind.i64 p); refine (on_v W0.out O0.out p P0.out HP.out 1 HS.out).mono ?_; rintro e wq ⟨rfl, rfl⟩)
          | (go_at_call 53; refine (kid_v W0.out gg GG0.out HGN.out false 0 rfl u HUE.out).mono ?_; rintro e wq ⟨rfl, rfl⟩)
          | (go_at_call_of 62 (Value.int IntKind.i64 u); refine (red_v W0.out u HUN.out false HRU.out).mono ?_; rintro e wq ⟨rfl, rfl⟩)
          | (go_at_call_of 60 (Value.int IntKind.i64 y); refine (on_v W0.out O0.out y HY0.out HY.out 1 (by rw [HO1.out]; rfl)).mono ?_; rintro e wq ⟨rfl, rfl⟩)
            | (go_at_call 65; refine (paint1_ W0.out false p (by have := P0.out; have := HP.out; omega) (by exact HP.out)).mono ?_; rintro e wq ⟨rfl, hWq, hGq⟩; have W2 := Aside0.mk hWq; have G2 := Aside0.mk (G0.out.trans hGq); clear hWq hGq))
          go_upto_region 14 with (go_at_call 65; refine (paint1_ W2.out true gg (by have := L3.out; rw [HT3.out, paint_len] at this; have := P0.out; have := HP.out; omega) (by have := L3.out; rw [HT3.out, paint_len] at this; rw [this]; exact HGN.out)).mono ?_; rintro e wq ⟨rfl, hWq, hGq⟩; rw [← HT3.out] at hWq; have W3 := Aside0.mk hWq; have G3 := Aside0.mk (G2.out.trans hGq); clear hWq hGq)
          go_upto_region 2 with (go_at_call 78; refine (turn_v W3.out O3.out gg GG0.out (by rw [L3.out]; exact HGN.out) false HKG.out 0 rfl).mono ?_; rintro e wq ⟨rfl, hWq, hGq⟩; have W4 := Aside0.mk hWq; have G4 := Aside0.mk (G3.out.trans hGq); clear hWq hGq)
          generalize turnA T3 gg false = T4 at W4 O4 L4 HMD
          have HX4 := Aside0.mk (show y < (T4.ns.length : Int) by rw [L4.out, L3.out]; exact HY.out)
          go_wp2_with (go_at_call 63; refine (up_v W4.out y HY0.out HX4.out _ rfl).mono ?_; rintro e wq ⟨rfl, rfl⟩)
          have hq : MRel A c g b w' t.ns.length t' (Value.int IntKind.i64 y) (Value.int IntKind.i64 (upA T4 y)) wq m := ⟨T4, y, rfl, rfl, W4.out, O4.out, HY0.out, HX4.out, by rw [L4.out, L3.out]; exact HN.out, HMD.out, G4.out⟩
          refine ⟨⟨m, hq⟩, ?_⟩
          have h3 := (least_of ⟨m, hq⟩).2 m hq
          exact Nat.lt_of_le_of_lt h3 (by rw [hlk]; omega)
        | false =>
          have HO1 := Aside0.mk ho1
          rw [ho1, if_neg (by simp)] at hmd
          clear ho1
          by_cases hkp : kidA T p false = y
          rotate_left
          · rw [if_neg hkp] at hmd
            cases hmd
          rw [if_pos hkp] at hmd
          have HKP := Aside0.mk hkp
          clear hkp
          have O1 := Aside0.mk (O0.out.turn p true HP.out)
          have L1 := Aside0.mk (turn_len T p true)
          obtain ⟨T1, hT1⟩ : ∃ T1, T1 = turnA T p true := ⟨_, rfl⟩
          rw [← hT1] at hmd O1 L1
          have HT1 := Aside0.mk hT1
          clear hT1
          obtain ⟨T3, hT3⟩ : ∃ T3, T3 = paintA (paintA T1 false y) true gg := ⟨_, rfl⟩
          rw [← hT3, turnK] at hmd
          have L3 := Aside0.mk (show T3.ns.length = T.ns.length by rw [hT3, paint_len, paint_len, L1.out])
          have HT3 := Aside0.mk hT3
          have O3 := Aside0.mk (show Ok T3 by rw [hT3]; exact (O1.out.paint false y (by rw [L1.out]; exact HY.out)).paint true gg (by rw [paint_len, L1.out]; exact HGN.out))
          clear hT3
          by_cases hkg : 0 ≤ kidA T3 gg (!false)
          rotate_left
          · rw [if_neg hkg] at hmd
            cases hmd
          rw [if_pos hkg] at hmd
          have HKG := Aside0.mk hkg
          have O4 := Aside0.mk (O3.out.turn gg false (by rw [L3.out]; exact HGN.out))
          have L4 := Aside0.mk (turn_len T3 gg false)
          have HMD := Aside0.mk hmd
          clear hkg hmd
          go_upto_region 13 with (first
          | (go_at_call_of 62 (Value.int IntKind.i64 p); refine (red_v W0.out p HP.out true HR.out).mono ?_; rintro e wq ⟨rfl, rfl⟩)
          | (go_at_call 63; refine (up_v W0.out p P0.out HP.out gg HGE.out).mono ?_; rintro e wq ⟨rfl, rfl⟩)
          | (go_at_call_of 60 (Value.int IntKind.i64 p); refine (on_v W0.out O0.out p P0.out HP.out 1 HS.out).mono ?_; rintro e wq ⟨rfl, rfl⟩)
          | (go_at_call 53; refine (kid_v W0.out gg GG0.out HGN.out false 0 rfl u HUE.out).mono ?_; rintro e wq ⟨rfl, rfl⟩)
          | (go_at_call_of 62 (Value.int IntKind.i64 u); refine (red_v W0.out u HUN.out false HRU.out).mono ?_; rintro e wq ⟨rfl, rfl⟩)
          | (go_at_call_of 60 (Value.int IntKind.i64 y); refine (on_v W0.out O0.out y HY0.out HY.out 0 (by rw [HO1.out]; rfl)).mono ?_; rintro e wq ⟨rfl, rfl⟩)
            | (go_at_call 78; refine (turn_v W0.out O0.out p P0.out HP.out true (by rw [show (!true) = false from rfl, HKP.out]; exact HY0.out) 1 rfl).mono ?_; rintro e wq ⟨rfl, hWq, hGq⟩; rw [← HT1.out] at hWq; have W1 := Aside0.mk hWq; have G1 := Aside0.mk (G0.out.trans hGq); clear hWq hGq)
            | (go_at_call 65; refine (paint1_ W1.out false y (by have := P0.out; have := HP.out; have := L1.out; omega) (by rw [L1.out]; exact HY.out)).mono ?_; rintro e wq ⟨rfl, hWq, hGq⟩; have W2 := Aside0.mk hWq; have G2 := Aside0.mk (G1.out.trans hGq); clear hWq hGq))
          go_upto_region 14 with (go_at_call 65; refine (paint1_ W2.out true gg (by have := L3.out; rw [HT3.out, paint_len] at this; have := P0.out; have := HP.out; omega) (by have := L3.out; rw [HT3.out, paint_len] at this; rw [this]; exact HGN.out)).mono ?_; rintro e wq ⟨rfl, hWq, hGq⟩; rw [← HT3.out] at hWq; have W3 := Aside0.mk hWq; have G3 := Aside0.mk (G2.out.trans hGq); clear hWq hGq)
          go_upto_region 2 with (go_at_call 78; refine (turn_v W3.out O3.out gg GG0.out (by rw [L3.out]; exact HGN.out) false HKG.out 0 rfl).mono ?_; rintro e wq ⟨rfl, hWq, hGq⟩; have W4 := Aside0.mk hWq; have G4 := Aside0.mk (G3.out.trans hGq); clear hWq hGq)
          generalize turnA T3 gg false = T4 at W4 O4 L4 HMD
          have HX4 := Aside0.mk (show p < (T4.ns.length : Int) by rw [L4.out, L3.out]; exact HP.out)
          go_wp2_with (go_at_call 63; refine (up_v W4.out p P0.out HX4.out _ rfl).mono ?_; rintro e wq ⟨rfl, rfl⟩)
          have hq : MRel A c g b w' t.ns.length t' (Value.int IntKind.i64 p) (Value.int IntKind.i64 (upA T4 p)) wq m := ⟨T4, p, rfl, rfl, W4.out, O4.out, P0.out, HX4.out, by rw [L4.out, L3.out]; exact HN.out, HMD.out, G4.out⟩
          refine ⟨⟨m, hq⟩, ?_⟩
          have h3 := (least_of ⟨m, hq⟩).2 m hq
          exact Nat.lt_of_le_of_lt h3 (by rw [hlk]; omega)
end Go.Proofs.YtnkhnnojdlgfjaaDoor.Tm
