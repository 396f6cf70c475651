/- Parts of the proof, joined: Tm4. -/
import Derived.Test.YtnkhnnojdlgfjaaDoorUF7
namespace Go.Proofs.YtnkhnnojdlgfjaaDoor.Tm
open Go.RowKit Go Go.Proofs Go.Proofs.YtnkhnnojdlgfjaaDoor Go.Proofs.YtnkhnnojdlgfjaaDoor.Tr Go.Proofs.YtnkhnnojdlgfjaaDoorW.PrintWords Go.Proofs.YtnkhnnojdlgfjaaDoorW.PrintLast Go.Proofs.YtnkhnnojdlgfjaaDoorW.PrintMore
set_option linter.unusedVariables false
set_option linter.unusedSimpArgs false
theorem kid_paint (t : St) (is : Bool) (x y : Int) (s : Bool) (hx : x < t.ns.length) : kidA (paintA t is x) y s = kidA t y s := by
  unfold kidA
  rw [paint_gn is (fun h => by omega)]
  by_cases e : (y.toNat : Int) = x
  · rw [if_pos e]
  · rw [if_neg e]
structure FRel (A : Option Addr) (c g b : Nat) (w : World) (n : Nat) (t' : St) (vp vs : Value) (wr : World) (k : Nat) : Prop where mk ::
  out : ∃ (T : St) (p : Int) (s : Bool), vp = .int .i64 p ∧ vs = .int .i64 (sd s) ∧ Wk A c wr g b T ∧ Ok T ∧ p < T.ns.length ∧ T.ns.length = n ∧ fillA k T p s = some t' ∧ Gs g b w wr
structure FRl (A : Option Addr) (c g b : Nat) (w : World) (n : Nat) (t' : St) (vp vs : Value) (wr : World) : Prop where mk ::
  out : ∃ k, FRel A c g b w n t' vp vs wr k
variable {A : Option Addr} {c : Nat} {w w1 : World} {g b : Nat} {t : St}
set_option maxHeartbeats 32000000 in
set_option maxRecDepth 100000 in
theorem fill_ (h : Wk A c w g b t) (ho : Ok t) (h0 : 0 < t.ns.length) (p : Int) (s : Bool) (hp : p < t.ns.length) (k0 : Nat) (t' : St) (hm : fillA k0 t p s = some t') :
    Calls Tryd.prog 66 #[.pointer (some ⟨g, 0, none⟩), .int .i64 p, .int .i64 (sd s)] w fun e w' => e = .returned (.tuple #[]) ∧ Wk A c w' g b t' ∧ Gs g b w w' := by
  have H := Aside0.mk h
  have HO := Aside0.mk ho
  have HM := Aside0.mk hm
  have HX := Aside0.mk hp
  have H0 := Aside0.mk h0
  clear h ho hm hp h0
  go_enter Tryd.func66, Tryd.ntmps66
  go_wp2
  go_loopw [1, 2] (fun vp vs wr => FRl A c g b w t.ns.length t' vp vs wr) (fun vp vs wr => least (FRel A c g b w t.ns.length t' vp vs wr))
  case atStart => exact ⟨k0, t, p, s, rfl, rfl, H.out, HO.out, HX.out, rfl, HM.out, Gs.refl _ _ _⟩
  case round =>
    clear H HO HM HX
    have HR := least_of hrel.out
    obtain ⟨hR1, hR2⟩ := HR
    have HL := Aside0.mk hR2
    generalize hlk : least _ = lk at hR1 HL ⊢
    obtain ⟨T, p, s, rfl, hvs, hW, hO, hp, hn, hmd, hG⟩ := hR1.out
    obtain ⟨z, hz⟩ : ∃ z, z = sd s := ⟨_, rfl⟩
    rw [← hz] at hvs
    subst hvs
    obtain ⟨m, rfl⟩ : ∃ m, lk = m + 1 := by
      cases lk with
      | zero => simp [fillA] at hmd
      | succ m => exact ⟨m, rfl⟩
    clear hR2 hrel hR1 HL
    have HZ := Aside0.mk hz.symm
    clear hz
    rw [fillA] at hmd
    have W0 := Aside0.mk hW
    have O0 := Aside0.mk hO
    have G0 := Aside0.mk hG
    have HP := Aside0.mk hp
    have HN := Aside0.mk hn
    clear hW hO hG hp hn
    by_cases hp0 : 0 ≤ p
    rotate_left
    · rw [if_neg hp0] at hmd
      have HMD := Aside0.mk (Option.some.inj hmd)
      have hc1 := W0.out.c1
      have hd : decide (0 ≤ p) = false := decide_eq_false hp0
      clear hmd
      go_wp2
      go_quiet (fail)
      have W1 := Aside0.mk (W0.out.drewN nq)
      have G1 := Aside0.mk (G0.out.drewN nq)
      clear W0 G0
      generalize wr.drewN nq = wd at W1 G1 ⊢
      have hc2 := W1.out.c1
      go_wp2_with (go_at_call 65; refine (paint1_ W1.out false T.rt (by rw [HN.out]; exact H0.out) O0.out.rt).mono ?_; rintro e wq ⟨rfl, hWq, hGq⟩; have W2 := Aside0.mk hWq; have G2 := Aside0.mk (G1.out.trans hGq); clear hWq hGq)
      go_end0
      exact ⟨rfl, by rw [← HMD.out]; exact W2.out, G2.out⟩
    rw [if_pos hp0] at hmd
    have P0 := Aside0.mk hp0
    cases s with
    | false =>
      obtain rfl : z = 0 := HZ.out.symm
      obtain ⟨kd, hkd⟩ : ∃ q, q = kidA T p false := ⟨_, rfl⟩
      have HK := Aside0.mk hkd.symm
      have HKN := Aside0.mk (show kd < (T.ns.length : Int) by rw [hkd]; exact O0.out.kid _ _)
      rw [← hkd] at hmd
      clear hkd
      cases hrk : redA T kd with
      | true =>
        have HRK := Aside0.mk hrk
        rw [hrk, if_pos rfl] at hmd
        have HMD := Aside0.mk (Option.some.inj hmd)
        clear hrk hmd
        go_wp2
        (go_quiet (first
          | (go_at_call 53; exact Calls.quiet_of_same (kid_v (by first | exact W0.out | exact W0.out.drewN _) p P0.out HP.out false 0 rfl kd HK.out))
          | (go_at_call 62; exact Calls.quiet_of_same (red_v (by first | exact W0.out | exact W0.out.drewN _) kd HKN.out _ HRK.out))))
        have W1 := Aside0.mk (W0.out.drewN nq)
        have G1 := Aside0.mk (G0.out.drewN nq)
        clear W0 G0
        generalize wr.drewN nq = wd at W1 G1 ⊢
        have hc1 := W1.out.c1
        go_wp2_with (first
          | (go_at_call 53; refine (kid_v W1.out p P0.out HP.out false 0 rfl kd HK.out).mono ?_; rintro e wq ⟨rfl, rfl⟩)
          | (go_at_call 65; refine (paint1_ W1.out false kd (by have := P0.out; have := HP.out; omega) HKN.out).mono ?_; rintro e wq ⟨rfl, hWq, hGq⟩; have W2 := Aside0.mk hWq; have G2 := Aside0.mk (G1.out.trans hGq); clear hWq hGq))
        go_end0
        exact ⟨rfl, by rw [← HMD.out]; exact W2.out, G2.out⟩
      | false =>
        have HRK := Aside0.mk hrk
        rw [hrk, if_neg (by simp)] at hmd
        clear hrk
        obtain ⟨bb, hbb⟩ : ∃ q, q = kidA T p true := ⟨_, rfl⟩
        have HB := Aside0.mk hbb.symm
        have HBN := Aside0.mk (show bb < (T.ns.length : Int) by rw [hbb]; exact O0.out.kid _ _)
        simp only [Bool.not_false] at hmd
        rw [← hbb] at hmd
        clear hbb
        cases hrb : redA T bb with
        | true =>
          have HRB := Aside0.mk hrb
          rw [hrb, if_pos rfl] at hmd
          have BB0 := Aside0.mk (red_ge hrb)
          clear hrb
          have L2 := Aside0.mk (paint_len T false bb)
          have O3 := Aside0.mk ((O0.out.paint false bb HBN.out).paint true p (by rw [paint_len]; exact HP.out))
          have L3 := Aside0.mk (show (paintA (paintA T false bb) true p).ns.length = T.ns.length by rw [paint_len, paint_len])
          have K3 := Aside0.mk (show kidA (paintA (paintA T false bb) true p) p true = bb by rw [kid_paint _ _ _ _ _ (by rw [paint_len]; exact HP.out), kid_paint _ _ _ _ _ HBN.out]; exact HB.out)
          go_wp2
          (go_quiet (first
            | (go_at_call 53; exact Calls.quiet_of_same (kid_v (by first | exact W0.out | exact W0.out.drewN _) p P0.out HP.out false 0 rfl kd HK.out))
            | (go_at_call 62; exact Calls.quiet_of_same (red_v (by first | exact W0.out | exact W0.out.drewN _) kd HKN.out _ HRK.out))))
          have W1 := Aside0.mk (W0.out.drewN nq)
          have G1 := Aside0.mk (G0.out.drewN nq)
          clear W0 G0
          generalize wr.drewN nq = wd at W1 G1 ⊢
          go_upto_region 4 with (first
            | (go_at_call 53; refine (kid_v W1.out p P0.out HP.out true 1 rfl bb HB.out).mono ?_; rintro e wq ⟨rfl, rfl⟩)
            | (go_at_call 62; refine (red_v W1.out bb HBN.out _ HRB.out).mono ?_; rintro e wq ⟨rfl, rfl⟩)
            | (go_at_call 65; refine (paint1_ W1.out false bb (by have := P0.out; have := HP.out; omega) HBN.out).mono ?_; rintro e wq ⟨rfl, hWq, hGq⟩; have W2 := Aside0.mk hWq; have G2 := Aside0.mk (G1.out.trans hGq); clear hWq hGq))
          go_upto_region 5 with (go_at_call 65; refine (paint1_ W2.out true p (by rw [L2.out]; have := P0.out; have := HP.out; omega) (by rw [L2.out]; exact HP.out)).mono ?_; rintro e wq ⟨rfl, hWq, hGq⟩; have W3 := Aside0.mk hWq; have G3 := Aside0.mk (G2.out.trans hGq); clear hWq hGq)
          generalize paintA (paintA T false bb) true p = T3 at W3 O3 L3 K3 hmd
          have LB := Aside0.mk (show (turnA T3 p false).ns.length = T.ns.length by rw [turn_len, L3.out])
          have OB := Aside0.mk (O3.out.turn p false (by rw [L3.out]; exact HP.out))
          go_upto_region 6 with (go_at_call 78; refine (turn_v W3.out O3.out p P0.out (by rw [L3.out]; exact HP.out) false (by show 0 ≤ kidA T3 p true; rw [K3.out]; exact BB0.out) 0 rfl).mono ?_; rintro e wq ⟨rfl, hWq, hGq⟩; have WB := Aside0.mk hWq; have GB := Aside0.mk (G3.out.trans hGq); clear hWq hGq)
          generalize turnA T3 p false = TB at WB OB LB hmd
          obtain ⟨bv, hbv⟩ : ∃ q, q = kidA TB p true := ⟨_, rfl⟩
          have HBV := Aside0.mk hbv.symm
          have BN := Aside0.mk (show bv < (TB.ns.length : Int) by rw [hbv]; exact OB.out.kid _ _)
          rw [← hbv] at hmd
          clear hbv
          go_upto_region 7 with (go_at_call 53; refine (kid_v WB.out p P0.out (by rw [LB.out]; exact HP.out) true 1 rfl bv HBV.out).mono ?_; rintro e wq ⟨rfl, rfl⟩)
          rw [fillBlack] at hmd
          by_cases hb0 : bv < 0
          · rw [if_pos hb0] at hmd
            cases hmd
          rw [if_neg hb0] at hmd
          have B0 := Aside0.mk (show 0 ≤ bv by omega)
          clear hb0
          obtain ⟨nr, hnr⟩ : ∃ q, q = kidA TB bv false := ⟨_, rfl⟩
          obtain ⟨fr, hfr⟩ : ∃ q, q = kidA TB bv true := ⟨_, rfl⟩
          simp only [Bool.not_false] at hmd
          rw [← hnr, ← hfr] at hmd
          have NE := Aside0.mk hnr.symm
          have FE := Aside0.mk hfr.symm
          have NN := Aside0.mk (show nr < (TB.ns.length : Int) by rw [hnr]; exact OB.out.kid _ _)
          have FN := Aside0.mk (show fr < (TB.ns.length : Int) by rw [hfr]; exact OB.out.kid _ _)
          clear hnr hfr
          have KIDS := fun (w2 : World) (hw : Wk A c w2 g b TB) => And.intro (kid_v hw bv B0.out BN.out false 0 rfl nr NE.out) (kid_v hw bv B0.out BN.out true 1 rfl fr FE.out)
          have KI := Aside0.mk KIDS
          clear KIDS
          cases h1 : redA TB nr with
          | false =>
            cases h2 : redA TB fr with
            | false =>
              have HNR := Aside0.mk h1
              have HFR := Aside0.mk h2
              rw [h1, h2, if_pos ⟨rfl, rfl⟩] at hmd
              have HMD := Aside0.mk hmd
              clear h1 h2 hmd
              go_upto_region 10 with (first
                | (go_at_call 53; first | (with_reducible refine ((KI.out _ WB.out).1).mono ?_; rintro e wq ⟨rfl, rfl⟩) | (with_reducible refine ((KI.out _ WB.out).2).mono ?_; rintro e wq ⟨rfl, rfl⟩))
                | (go_at_call_of 62 (Value.int IntKind.i64 nr); refine (red_v WB.out nr NN.out _ HNR.out).mono ?_; rintro e wq ⟨rfl, rfl⟩)
                | (go_at_call_of 62 (Value.int IntKind.i64 fr); refine (red_v WB.out fr FN.out _ HFR.out).mono ?_; rintro e wq ⟨rfl, rfl⟩)
                | (go_at_call 65; refine (paint1_ WB.out true bv (by have := B0.out; have := BN.out; omega) BN.out).mono ?_; rintro e wq ⟨rfl, hWq, hGq⟩; have W9 := Aside0.mk hWq; have G9 := Aside0.mk (GB.out.trans hGq); clear hWq hGq))
              have O9 := Aside0.mk (OB.out.paint true bv BN.out)
              have L9 := Aside0.mk (paint_len TB true bv)
              generalize paintA TB true bv = T9 at W9 O9 L9 HMD
              go_wp2_with (first
                | (go_at_call 63; refine (up_v W9.out p P0.out (by rw [L9.out, LB.out]; exact HP.out) _ rfl).mono ?_; rintro e wq ⟨rfl, rfl⟩)
                | (go_at_call 60; refine (on_v W9.out O9.out p P0.out (by rw [L9.out, LB.out]; exact HP.out) _ rfl).mono ?_; rintro e wq ⟨rfl, rfl⟩))
              have hq : FRel A c g b w t.ns.length t' (Value.int IntKind.i64 (upA T9 p)) (Value.int IntKind.i64 (sd (onA T9 p))) _ m := ⟨T9, upA T9 p, onA T9 p, rfl, rfl, W9.out, O9.out, O9.out.up p, by rw [L9.out, LB.out]; exact HN.out, HMD.out, G9.out⟩
              refine ⟨⟨m, hq⟩, ?_⟩
              have h3 := (least_of ⟨m, hq⟩).2 m hq
              exact Nat.lt_of_le_of_lt h3 (by rw [hlk]; omega)
            | true =>
              have HNR := Aside0.mk h1
              have HFR := Aside0.mk h2
              rw [h1, h2, if_neg (by simp), if_neg (by simp)] at hmd
              clear h1 h2
              go_upto_region 16 with (first
                | (go_at_call 53; first | (with_reducible refine ((KI.out _ WB.out).1).mono ?_; rintro e wq ⟨rfl, rfl⟩) | (with_reducible refine ((KI.out _ WB.out).2).mono ?_; rintro e wq ⟨rfl, rfl⟩))
                | (go_at_call_of 62 (Value.int IntKind.i64 nr); refine (red_v WB.out nr NN.out _ HNR.out).mono ?_; rintro e wq ⟨rfl, rfl⟩)
                | (go_at_call_of 62 (Value.int IntKind.i64 fr); refine (red_v WB.out fr FN.out _ HFR.out).mono ?_; rintro e wq ⟨rfl, rfl⟩))
              rw [fillEnd, show (!false) = true from rfl] at hmd
              by_cases hge : kidA TB p true = bv ∧ kidA TB bv true = fr
              rotate_left
              · rw [if_neg hge] at hmd
                cases hmd
              rw [if_pos hge] at hmd
              have HE1 := Aside0.mk hge.1
              clear hge
              have PL1 := Aside0.mk (paint_len TB (redA TB p) bv)
              have PO1 := Aside0.mk (OB.out.paint (redA TB p) bv BN.out)
              have PK1 := Aside0.mk (kid_paint TB (redA TB p) bv p true BN.out)
              obtain ⟨rp, hrp⟩ : ∃ rp, rp = redA TB p := ⟨_, rfl⟩
              rw [← hrp] at hmd PL1 PO1 PK1
              have HRP := Aside0.mk hrp.symm
              clear hrp
              go_upto_region 17 with (fail)
              go_region_with (first
                | (go_at_call 62; refine (red_v (by first | exact WB.out.drew | exact (WB.out.alloc _).drew) p (by rw [LB.out]; exact HP.out) rp HRP.out).mono ?_; rintro e wr ⟨rfl, rfl⟩)
                | (go_at_call 65; refine (paint1d_ WB.out rp bv (by have := HP.out; have := P0.out; have := LB.out; omega) BN.out).mono ?_; rintro e wq ⟨rfl, hWq, hGq⟩; have WF1 := Aside0.mk hWq; have GF1 := Aside0.mk (GB.out.trans hGq); clear hWq hGq))
              all_goals
                generalize paintA TB rp bv = TF1 at WF1 PL1 PO1 PK1 hmd
                have PO2 := Aside0.mk ((PO1.out.paint false p (by rw [PL1.out, LB.out]; exact HP.out)).paint false fr (by rw [paint_len, PL1.out]; exact FN.out))
                have PL2 := Aside0.mk (show (paintA (paintA TF1 false p) false fr).ns.length = TF1.ns.length by rw [paint_len, paint_len])
                have PK2 := Aside0.mk (show kidA (paintA (paintA TF1 false p) false fr) p true = kidA TF1 p true by rw [kid_paint _ _ _ _ _ (by rw [paint_len, PL1.out]; exact FN.out), kid_paint _ _ _ _ _ (by rw [PL1.out, LB.out]; exact HP.out)])
                have HMD := Aside0.mk (Option.some.inj hmd)
                clear hmd
                go_upto_region 18 with (go_at_call 65; refine (paint2_ WF1.out false p fr (by have := HP.out; have := P0.out; have := LB.out; have := PL1.out; omega) (by rw [PL1.out, LB.out]; exact HP.out) (by rw [PL1.out]; exact FN.out)).mono ?_; rintro e wq ⟨rfl, hWq, hGq⟩; have WF2 := Aside0.mk hWq; have GF2 := Aside0.mk (GF1.out.trans hGq); clear hWq hGq)
                generalize paintA (paintA TF1 false p) false fr = TF2 at WF2 PL2 PO2 PK2 HMD
                have HK8 := Aside0.mk (show 0 ≤ kidA TF2 p (!false) by show 0 ≤ kidA TF2 p true; rw [PK2.out, PK1.out, HE1.out]; exact B0.out)
                have HK9 := Aside0.mk (show p < (TF2.ns.length : Int) by rw [PL2.out, PL1.out, LB.out]; exact HP.out)
                go_wp2_with (go_at_call 78; refine (turn_v WF2.out PO2.out p P0.out HK9.out false HK8.out 0 rfl).mono ?_; rintro e wq ⟨rfl, hWq, hGq⟩; have WF3 := Aside0.mk hWq; have GF3 := Aside0.mk (GF2.out.trans hGq); clear hWq hGq)
                refine bodyPost_ret (results_none rfl _ _ _) rfl ?_
                exact ⟨rfl, by rw [← HMD.out]; exact WF3.out, GF3.out⟩
          | true =>
            cases h2 : redA TB fr with
            | false =>
              have HNR := Aside0.mk h1
              have HFR := Aside0.mk h2
              rw [h1, h2, if_neg (by simp), if_pos rfl] at hmd
              have N0 := Aside0.mk (red_ge h1)
              clear h1 h2
              have LC := Aside0.mk (show (paintA (paintA TB false nr) true bv).ns.length = TB.ns.length by rw [paint_len, paint_len])
              have OC := Aside0.mk ((OB.out.paint false nr NN.out).paint true bv (by rw [paint_len]; exact BN.out))
              have KC := Aside0.mk (show kidA (paintA (paintA TB false nr) true bv) bv false = nr by rw [kid_paint _ _ _ _ _ (by rw [paint_len]; exact BN.out), kid_paint _ _ _ _ _ NN.out]; exact NE.out)
              have L1 := Aside0.mk (paint_len TB false nr)
              go_upto_region 13 with (first
                | (go_at_call 53; first | (with_reducible refine ((KI.out _ WB.out).1).mono ?_; rintro e wq ⟨rfl, rfl⟩) | (with_reducible refine ((KI.out _ WB.out).2).mono ?_; rintro e wq ⟨rfl, rfl⟩))
                | (go_at_call_of 62 (Value.int IntKind.i64 nr); refine (red_v WB.out nr NN.out _ HNR.out).mono ?_; rintro e wq ⟨rfl, rfl⟩)
                | (go_at_call_of 62 (Value.int IntKind.i64 fr); refine (red_v WB.out fr FN.out _ HFR.out).mono ?_; rintro e wq ⟨rfl, rfl⟩)
                | (go_at_call 65; refine (paint1_ WB.out false nr (by have := B0.out; have := BN.out; omega) NN.out).mono ?_; rintro e wq ⟨rfl, hWq, hGq⟩; have W7 := Aside0.mk hWq; have G7 := Aside0.mk (GB.out.trans hGq); clear hWq hGq))
              go_upto_region 14 with (go_at_call 65; refine (paint1_ W7.out true bv (by rw [L1.out]; have := B0.out; have := BN.out; omega) (by rw [L1.out]; exact BN.out)).mono ?_; rintro e wq ⟨rfl, hWq, hGq⟩; have W8 := Aside0.mk hWq; have G8 := Aside0.mk (G7.out.trans hGq); clear hWq hGq)
              generalize paintA (paintA TB false nr) true bv = TC at W8 LC OC KC hmd
              have LD := Aside0.mk (show (turnA TC bv true).ns.length = t.ns.length by rw [turn_len, LC.out, LB.out, HN.out])
              have OD := Aside0.mk (OC.out.turn bv true (by rw [LC.out]; exact BN.out))
              go_upto_region 16 with (go_at_call 78; refine (turn_v W8.out OC.out bv B0.out (by rw [LC.out]; exact BN.out) true (by show 0 ≤ kidA TC bv false; rw [KC.out]; exact N0.out) 1 rfl).mono ?_; rintro e wq ⟨rfl, hWq, hGq⟩; have WD := Aside0.mk hWq; have GD := Aside0.mk (G8.out.trans hGq); clear hWq hGq)
              generalize turnA TC bv true = TD at WD LD OD hmd
              have LDT := Aside0.mk (show TD.ns.length = T.ns.length by rw [LD.out, HN.out])
              have BD := Aside0.mk (show bv < (TD.ns.length : Int) by rw [LDT.out, ← LB.out]; exact BN.out)
              have ND := Aside0.mk (show nr < (TD.ns.length : Int) by rw [LDT.out, ← LB.out]; exact NN.out)
              rw [fillEnd, show (!false) = true from rfl] at hmd
              by_cases hge : kidA TD p true = nr ∧ kidA TD nr true = bv
              rotate_left
              · rw [if_neg hge] at hmd
                cases hmd
              rw [if_pos hge] at hmd
              have HE1 := Aside0.mk hge.1
              clear hge
              have PL1 := Aside0.mk (paint_len TD (redA TD p) nr)
              have PO1 := Aside0.mk (OD.out.paint (redA TD p) nr ND.out)
              have PK1 := Aside0.mk (kid_paint TD (redA TD p) nr p true ND.out)
              obtain ⟨rp, hrp⟩ : ∃ rp, rp = redA TD p := ⟨_, rfl⟩
              rw [← hrp] at hmd PL1 PO1 PK1
              have HRP := Aside0.mk hrp.symm
              clear hrp
              go_upto_region 17 with (fail)
              go_region_with (first
                | (go_at_call 62; refine (red_v (by first | exact WD.out.drew | exact (WD.out.alloc _).drew) p (by rw [LDT.out]; exact HP.out) rp HRP.out).mono ?_; rintro e wr ⟨rfl, rfl⟩)
                | (go_at_call 65; refine (paint1d_ WD.out rp nr (by have := HP.out; have := P0.out; have := LDT.out; omega) ND.out).mono ?_; rintro e wq ⟨rfl, hWq, hGq⟩; have WF1 := Aside0.mk hWq; have GF1 := Aside0.mk (GD.out.trans hGq); clear hWq hGq))
              all_goals
                generalize paintA TD rp nr = TF1 at WF1 PL1 PO1 PK1 hmd
                have PO2 := Aside0.mk ((PO1.out.paint false p (by rw [PL1.out, LDT.out]; exact HP.out)).paint false bv (by rw [paint_len, PL1.out]; exact BD.out))
                have PL2 := Aside0.mk (show (paintA (paintA TF1 false p) false bv).ns.length = TF1.ns.length by rw [paint_len, paint_len])
                have PK2 := Aside0.mk (show kidA (paintA (paintA TF1 false p) false bv) p true = kidA TF1 p true by rw [kid_paint _ _ _ _ _ (by rw [paint_len, PL1.out]; exact BD.out), kid_paint _ _ _ _ _ (by rw [PL1.out, LDT.out]; exact HP.out)])
                have HMD := Aside0.mk (Option.some.inj hmd)
                clear hmd
                go_upto_region 18 with (go_at_call 65; refine (paint2_ WF1.out false p bv (by have := HP.out; have := P0.out; have := LDT.out; have := PL1.out; omega) (by rw [PL1.out, LDT.out]; exact HP.out) (by rw [PL1.out]; exact BD.out)).mono ?_; rintro e wq ⟨rfl, hWq, hGq⟩; have WF2 := Aside0.mk hWq; have GF2 := Aside0.mk (GF1.out.trans hGq); clear hWq hGq)
                generalize paintA (paintA TF1 false p) false bv = TF2 at WF2 PL2 PO2 PK2 HMD
                have HK8 := Aside0.mk (show 0 ≤ kidA TF2 p (!false) by show 0 ≤ kidA TF2 p true; rw [PK2.out, PK1.out, HE1.out]; exact N0.out)
                have HK9 := Aside0.mk (show p < (TF2.ns.length : Int) by rw [PL2.out, PL1.out, LDT.out]; exact HP.out)
                go_wp2_with (go_at_call 78; refine (turn_v WF2.out PO2.out p P0.out HK9.out false HK8.out 0 rfl).mono ?_; rintro e wq ⟨rfl, hWq, hGq⟩; have WF3 := Aside0.mk hWq; have GF3 := Aside0.mk (GF2.out.trans hGq); clear hWq hGq)
                refine bodyPost_ret (results_none rfl _ _ _) rfl ?_
                exact ⟨rfl, by rw [← HMD.out]; exact WF3.out, GF3.out⟩
            | true =>
              have HNR := Aside0.mk h1
              have HFR := Aside0.mk h2
              rw [h1, h2, if_neg (by simp), if_neg (by simp)] at hmd
              clear h1 h2
              go_upto_region 16 with (first
                | (go_at_call 53; first | (with_reducible refine ((KI.out _ WB.out).1).mono ?_; rintro e wq ⟨rfl, rfl⟩) | (with_reducible refine ((KI.out _ WB.out).2).mono ?_; rintro e wq ⟨rfl, rfl⟩))
                | (go_at_call_of 62 (Value.int IntKind.i64 nr); refine (red_v WB.out nr NN.out _ HNR.out).mono ?_; rintro e wq ⟨rfl, rfl⟩)
                | (go_at_call_of 62 (Value.int IntKind.i64 fr); refine (red_v WB.out fr FN.out _ HFR.out).mono ?_; rintro e wq ⟨rfl, rfl⟩))
              rw [fillEnd, show (!false) = true from rfl] at hmd
              by_cases hge : kidA TB p true = bv ∧ kidA TB bv true = fr
              rotate_left
              · rw [if_neg hge] at hmd
                cases hmd
              rw [if_pos hge] at hmd
              have HE1 := Aside0.mk hge.1
              clear hge
              have PL1 := Aside0.mk (paint_len TB (redA TB p) bv)
              have PO1 := Aside0.mk (OB.out.paint (redA TB p) bv BN.out)
              have PK1 := Aside0.mk (kid_paint TB (redA TB p) bv p true BN.out)
              obtain ⟨rp, hrp⟩ : ∃ rp, rp = redA TB p := ⟨_, rfl⟩
              rw [← hrp] at hmd PL1 PO1 PK1
              have HRP := Aside0.mk hrp.symm
              clear hrp
              go_upto_region 17 with (fail)
              go_region_with (first
                | (go_at_call 62; refine (red_v (by first | exact WB.out.drew | exact (WB.out.alloc _).drew) p (by rw [LB.out]; exact HP.out) rp HRP.out).mono ?_; rintro e wr ⟨rfl, rfl⟩)
                | (go_at_call 65; refine (paint1d_ WB.out rp bv (by have := HP.out; have := P0.out; have := LB.out; omega) BN.out).mono ?_; rintro e wq ⟨rfl, hWq, hGq⟩; have WF1 := Aside0.mk hWq; have GF1 := Aside0.mk (GB.out.trans hGq); clear hWq hGq))
              all_goals
                generalize paintA TB rp bv = TF1 at WF1 PL1 PO1 PK1 hmd
                have PO2 := Aside0.mk ((PO1.out.paint false p (by rw [PL1.out, LB.out]; exact HP.out)).paint false fr (by rw [paint_len, PL1.out]; exact FN.out))
                have PL2 := Aside0.mk (show (paintA (paintA TF1 false p) false fr).ns.length = TF1.ns.length by rw [paint_len, paint_len])
                have PK2 := Aside0.mk (show kidA (paintA (paintA TF1 false p) false fr) p true = kidA TF1 p true by rw [kid_paint _ _ _ _ _ (by rw [paint_len, PL1.out]; exact FN.out), kid_paint _ _ _ _ _ (by rw [PL1.out, LB.out]; exact HP.out)])
                have HMD := Aside0.mk (Option.some.inj hmd)
                clear hmd
                go_upto_region 18 with (go_at_call 65; refine (paint2_ WF1.out false p fr (by have := HP.out; have := P0.out; have := LB.out; have := PL1.out; omega) (by rw [PL1.out, LB.out]; exact HP.out) (by rw [PL1.out]; exact FN.out)).mono ?_; rintro e wq ⟨rfl, hWq, hGq⟩; have WF2 := Aside0.mk hWq; have GF2 := Aside0.mk (GF1.out.trans hGq); clear hWq hGq)
                generalize paintA (paintA TF1 false p) false fr = TF2 at WF2 PL2 PO2 PK2 HMD
                have HK8 := Aside0.mk (show 0 ≤ kidA TF2 p (!false) by show 0 ≤ kidA TF2 p true; rw [PK2.out, PK1.out, HE1.out]; exact B0.out)
                have HK9 := Aside0.mk (show p < (TF2.ns.length : Int) by rw [PL2.out, PL1.out, LB.out]; exact HP.out)
                go_wp2_with (go_at_call 78; refine (turn_v WF2.out PO2.out p P0.out HK9.out false HK8.out 0 rfl).mono ?_; rintro e wq ⟨rfl, hWq, hGq⟩; have WF3 := Aside0.mk hWq; have GF3 := Aside0.mk (GF2.out.trans hGq); clear hWq hGq)
                refine bodyPost_ret (results_none rfl _ _ _) rfl ?_
                exact ⟨rfl, by rw [← HMD.out]; exact WF3.out, GF3.out⟩
        | false =>
          have HRB := Aside0.mk hrb
          rw [hrb, if_neg (by simp)] at hmd
          clear hrb
          go_wp2
          (go_quiet (first
            | (go_at_call 53; exact Calls.quiet_of_same (kid_v (by first | exact W0.out | exact W0.out.drewN _) p P0.out HP.out false 0 rfl kd HK.out))
            | (go_at_call 62; exact Calls.quiet_of_same (red_v (by first | exact W0.out | exact W0.out.drewN _) kd HKN.out _ HRK.out))))
          have W1 := Aside0.mk (W0.out.drewN nq)
          have G1 := Aside0.mk (G0.out.drewN nq)
          clear W0 G0
          generalize wr.drewN nq = wd at W1 G1 ⊢
          go_upto_region 7 with (first
            | (go_at_call 53; refine (kid_v W1.out p P0.out HP.out true 1 rfl bb HB.out).mono ?_; rintro e wq ⟨rfl, rfl⟩)
            | (go_at_call 62; refine (red_v W1.out bb HBN.out _ HRB.out).mono ?_; rintro e wq ⟨rfl, rfl⟩))
          have WB := W1
          have GB := G1
          have OB := O0
          have BN := HBN
          clear W1 G1
          generalize hTB : T = TB at WB OB BN hmd
          have LB := Aside0.mk (show TB.ns.length = T.ns.length by rw [hTB])
          clear hTB
          generalize hbv : bb = bv at BN hmd ⊢
          rw [fillBlack] at hmd
          by_cases hb0 : bv < 0
          · rw [if_pos hb0] at hmd
            cases hmd
          rw [if_neg hb0] at hmd
          have B0 := Aside0.mk (show 0 ≤ bv by omega)
          clear hb0
          obtain ⟨nr, hnr⟩ : ∃ q, q = kidA TB bv false := ⟨_, rfl⟩
          obtain ⟨fr, hfr⟩ : ∃ q, q = kidA TB bv true := ⟨_, rfl⟩
          simp only [Bool.not_false] at hmd
          rw [← hnr, ← hfr] at hmd
          have NE := Aside0.mk hnr.symm
          have FE := Aside0.mk hfr.symm
          have NN := Aside0.mk (show nr < (TB.ns.length : Int) by rw [hnr]; exact OB.out.kid _ _)
          have FN := Aside0.mk (show fr < (TB.ns.length : Int) by rw [hfr]; exact OB.out.kid _ _)
          clear hnr hfr
          have KIDS := fun (w2 : World) (hw : Wk A c w2 g b TB) => And.intro (kid_v hw bv B0.out BN.out false 0 rfl nr NE.out) (kid_v hw bv B0.out BN.out true 1 rfl fr FE.out)
          have KI := Aside0.mk KIDS
          clear KIDS
          cases h1 : redA TB nr with
          | false =>
            cases h2 : redA TB fr with
            | false =>
              have HNR := Aside0.mk h1
              have HFR := Aside0.mk h2
              rw [h1, h2, if_pos ⟨rfl, rfl⟩] at hmd
              have HMD := Aside0.mk hmd
              clear h1 h2 hmd
              go_upto_region 10 with (first
                | (go_at_call 53; first | (with_reducible refine ((KI.out _ WB.out).1).mono ?_; rintro e wq ⟨rfl, rfl⟩) | (with_reducible refine ((KI.out _ WB.out).2).mono ?_; rintro e wq ⟨rfl, rfl⟩))
                | (go_at_call_of 62 (Value.int IntKind.i64 nr); refine (red_v WB.out nr NN.out _ HNR.out).mono ?_; rintro e wq ⟨rfl, rfl⟩)
                | (go_at_call_of 62 (Value.int IntKind.i64 fr); refine (red_v WB.out fr FN.out _ HFR.out).mono ?_; rintro e wq ⟨rfl, rfl⟩)
                | (go_at_call 65; refine (paint1_ WB.out true bv (by have := B0.out; have := BN.out; omega) BN.out).mono ?_; rintro e wq ⟨rfl, hWq, hGq⟩; have W9 := Aside0.mk hWq; have G9 := Aside0.mk (GB.out.trans hGq); clear hWq hGq))
              have O9 := Aside0.mk (OB.out.paint true bv BN.out)
              have L9 := Aside0.mk (paint_len TB true bv)
              generalize paintA TB true bv = T9 at W9 O9 L9 HMD
              go_wp2_with (first
                | (go_at_call 63; refine (up_v W9.out p P0.out (by rw [L9.out, LB.out]; exact HP.out) _ rfl).mono ?_; rintro e wq ⟨rfl, rfl⟩)
                | (go_at_call 60; refine (on_v W9.out O9.out p P0.out (by rw [L9.out, LB.out]; exact HP.out) _ rfl).mono ?_; rintro e wq ⟨rfl, rfl⟩))
              have hq : FRel A c g b w t.ns.length t' (Value.int IntKind.i64 (upA T9 p)) (Value.int IntKind.i64 (sd (onA T9 p))) _ m := ⟨T9, upA T9 p, onA T9 p, rfl, rfl, W9.out, O9.out, O9.out.up p, by rw [L9.out, LB.out]; exact HN.out, HMD.out, G9.out⟩
              refine ⟨⟨m, hq⟩, ?_⟩
              have h3 := (least_of ⟨m, hq⟩).2 m hq
              exact Nat.lt_of_le_of_lt h3 (by rw [hlk]; omega)
            | true =>
              have HNR := Aside0.mk h1
              have HFR := Aside0.mk h2
              rw [h1, h2, if_neg (by simp), if_neg (by simp)] at hmd
              clear h1 h2
              go_upto_region 16 with (first
                | (go_at_call 53; first | (with_reducible refine ((KI.out _ WB.out).1).mono ?_; rintro e wq ⟨rfl, rfl⟩) | (with_reducible refine ((KI.out _ WB.out).2).mono ?_; rintro e wq ⟨rfl, rfl⟩))
                | (go_at_call_of 62 (Value.int IntKind.i64 nr); refine (red_v WB.out nr NN.out _ HNR.out).mono ?_; rintro e wq ⟨rfl, rfl⟩)
                | (go_at_call_of 62 (Value.int IntKind.i64 fr); refine (red_v WB.out fr FN.out _ HFR.out).mono ?_; rintro e wq ⟨rfl, rfl⟩))
              rw [fillEnd, show (!false) = true from rfl] at hmd
              by_cases hge : kidA TB p true = bv ∧ kidA TB bv true = fr
              rotate_left
              · rw [if_neg hge] at hmd
                cases hmd
              rw [if_pos hge] at hmd
              have HE1 := Aside0.mk hge.1
              clear hge
              have PL1 := Aside0.mk (paint_len TB (redA TB p) bv)
              have PO1 := Aside0.mk (OB.out.paint (redA TB p) bv BN.out)
              have PK1 := Aside0.mk (kid_paint TB (redA TB p) bv p true BN.out)
              obtain ⟨rp, hrp⟩ : ∃ rp, rp = redA TB p := ⟨_, rfl⟩
              rw [← hrp] at hmd PL1 PO1 PK1
              have HRP := Aside0.mk hrp.symm
              clear hrp
              go_upto_region 17 with (fail)
              go_region_with (first
                | (go_at_call 62; refine (red_v (by first | exact WB.out.drew | exact (WB.out.alloc _).drew) p (by rw [LB.out]; exact HP.out) rp HRP.out).mono ?_; rintro e wr ⟨rfl, rfl⟩)
                | (go_at_call 65; refine (paint1d_ WB.out rp bv (by have := HP.out; have := P0.out; have := LB.out; omega) BN.out).mono ?_; rintro e wq ⟨rfl, hWq, hGq⟩; have WF1 := Aside0.mk hWq; have GF1 := Aside0.mk (GB.out.trans hGq); clear hWq hGq))
              all_goals
                generalize paintA TB rp bv = TF1 at WF1 PL1 PO1 PK1 hmd
                have PO2 := Aside0.mk ((PO1.out.paint false p (by rw [PL1.out, LB.out]; exact HP.out)).paint false fr (by rw [paint_len, PL1.out]; exact FN.out))
                have PL2 := Aside0.mk (show (paintA (paintA TF1 false p) false fr).ns.length = TF1.ns.length by rw [paint_len, paint_len])
                have PK2 := Aside0.mk (show kidA (paintA (paintA TF1 false p) false fr) p true = kidA TF1 p true by rw [kid_paint _ _ _ _ _ (by rw [paint_len, PL1.out]; exact FN.out), kid_paint _ _ _ _ _ (by rw [PL1.out, LB.out]; exact HP.out)])
                have HMD := Aside0.mk (Option.some.inj hmd)
                clear hmd
                go_upto_region 18 with (go_at_call 65; refine (paint2_ WF1.out false p fr (by have := HP.out; have := P0.out; have := LB.out; have := PL1.out; omega) (by rw [PL1.out, LB.out]; exact HP.out) (by rw [PL1.out]; exact FN.out)).mono ?_; rintro e wq ⟨rfl, hWq, hGq⟩; have WF2 := Aside0.mk hWq; have GF2 := Aside0.mk (GF1.out.trans hGq); clear hWq hGq)
                generalize paintA (paintA TF1 false p) false fr = TF2 at WF2 PL2 PO2 PK2 HMD
                have HK8 := Aside0.mk (show 0 ≤ kidA TF2 p (!false) by show 0 ≤ kidA TF2 p true; rw [PK2.out, PK1.out, HE1.out]; exact B0.out)
                have HK9 := Aside0.mk (show p < (TF2.ns.length : Int) by rw [PL2.out, PL1.out, LB.out]; exact HP.out)
                go_wp2_with (go_at_call 78; refine (turn_v WF2.out PO2.out p P0.out HK9.out false HK8.out 0 rfl).mono ?_; rintro e wq ⟨rfl, hWq, hGq⟩; have WF3 := Aside0.mk hWq; have GF3 := Aside0.mk (GF2.out.trans hGq); clear hWq hGq)
                refine bodyPost_ret (results_none rfl _ _ _) rfl ?_
                exact ⟨rfl, by rw [← HMD.out]; exact WF3.out, GF3.out⟩
          | true =>
            cases h2 : redA TB fr with
            | false =>
              have HNR := Aside0.mk h1
              have HFR := Aside0.mk h2
              rw [h1, h2, if_neg (by simp), if_pos rfl] at hmd
              have N0 := Aside0.mk (red_ge h1)
              clear h1 h2
              have LC := Aside0.mk (show (paintA (paintA TB false nr) true bv).ns.length = TB.ns.length by rw [paint_len, paint_len])
              have OC := Aside0.mk ((OB.out.paint false nr NN.out).paint true bv (by rw [paint_len]; exact BN.out))
              have KC := Aside0.mk (show kidA (paintA (paintA TB false nr) true bv) bv false = nr by rw [kid_paint _ _ _ _ _ (by rw [paint_len]; exact BN.out), kid_paint _ _ _ _ _ NN.out]; exact NE.out)
              have L1 := Aside0.mk (paint_len TB false nr)
              go_upto_region 13 with (first
                | (go_at_call 53; first | (with_reducible refine ((KI.out _ WB.out).1).mono ?_; rintro e wq ⟨rfl, rfl⟩) | (with_reducible refine ((KI.out _ WB.out).2).mono ?_; rintro e wq ⟨rfl, rfl⟩))
                | (go_at_call_of 62 (Value.int IntKind.i64 nr); refine (red_v WB.out nr NN.out _ HNR.out).mono ?_; rintro e wq ⟨rfl, rfl⟩)
                | (go_at_call_of 62 (Value.int IntKind.i64 fr); refine (red_v WB.out fr FN.out _ HFR.out).mono ?_; rintro e wq ⟨rfl, rfl⟩)
                | (go_at_call 65; refine (paint1_ WB.out false nr (by have := B0.out; have := BN.out; omega) NN.out).mono ?_; rintro e wq ⟨rfl, hWq, hGq⟩; have W7 := Aside0.mk hWq; have G7 := Aside0.mk (GB.out.trans hGq); clear hWq hGq))
              go_upto_region 14 with (go_at_call 65; refine (paint1_ W7.out true bv (by rw [L1.out]; have := B0.out; have := BN.out; omega) (by rw [L1.out]; exact BN.out)).mono ?_; rintro e wq ⟨rfl, hWq, hGq⟩; have W8 := Aside0.mk hWq; have G8 := Aside0.mk (G7.out.trans hGq); clear hWq hGq)
              generalize paintA (paintA TB false nr) true bv = TC at W8 LC OC KC hmd
              have LD := Aside0.mk (show (turnA TC bv true).ns.length = t.ns.length by rw [turn_len, LC.out, LB.out, HN.out])
              have OD := Aside0.mk (OC.out.turn bv true (by rw [LC.out]; exact BN.out))
              go_upto_region 16 with (go_at_call 78; refine (turn_v W8.out OC.out bv B0.out (by rw [LC.out]; exact BN.out) true (by show 0 ≤ kidA TC bv false; rw [KC.out]; exact N0.out) 1 rfl).mono ?_; rintro e wq ⟨rfl, hWq, hGq⟩; have WD := Aside0.mk hWq; have GD := Aside0.mk (G8.out.trans hGq); clear hWq hGq)
              generalize turnA TC bv true = TD at WD LD OD hmd
              have LDT := Aside0.mk (show TD.ns.length = T.ns.length by rw [LD.out, HN.out])
              have BD := Aside0.mk (show bv < (TD.ns.length : Int) by rw [LDT.out, ← LB.out]; exact BN.out)
              have ND := Aside0.mk (show nr < (TD.ns.length : Int) by rw [LDT.out, ← LB.out]; exact NN.out)
              rw [fillEnd, show (!false) = true from rfl] at hmd
              by_cases hge : kidA TD p true = nr ∧ kidA TD nr true = bv
              rotate_left
              · rw [if_neg hge] at hmd
                cases hmd
              rw [if_pos hge] at hmd
              have HE1 := Aside0.mk hge.1
              clear hge
              have PL1 := Aside0.mk (paint_len TD (redA TD p) nr)
              have PO1 := Aside0.mk (OD.out.paint (redA TD p) nr ND.out)
              have PK1 := Aside0.mk (kid_paint TD (redA TD p) nr p true ND.out)
              obtain ⟨rp, hrp⟩ : ∃ rp, rp = redA TD p := ⟨_, rfl⟩
              rw [← hrp] at hmd PL1 PO1 PK1
              have HRP := Aside0.mk hrp.symm
              clear hrp
              go_upto_region 17 with (fail)
              go_region_with (first
                | (go_at_call 62; refine (red_v (by first | exact WD.out.drew | exact (WD.out.alloc _).drew) p (by rw [LDT.out]; exact HP.out) rp HRP.out).mono ?_; rintro e wr ⟨rfl, rfl⟩)
                | (go_at_call 65; refine (paint1d_ WD.out rp nr (by have := HP.out; have := P0.out; have := LDT.out; omega) ND.out).mono ?_; rintro e wq ⟨rfl, hWq, hGq⟩; have WF1 := Aside0.mk hWq; have GF1 := Aside0.mk (GD.out.trans hGq); clear hWq hGq))
              all_goals
                generalize paintA TD rp nr = TF1 at WF1 PL1 PO1 PK1 hmd
                have PO2 := Aside0.mk ((PO1.out.paint false p (by rw [PL1.out, LDT.out]; exact HP.out)).paint false bv (by rw [paint_len, PL1.out]; exact BD.out))
                have PL2 := Aside0.mk (show (paintA (paintA TF1 false p) false bv).ns.length = TF1.ns.length by rw [paint_len, paint_len])
                have PK2 := Aside0.mk (show kidA (paintA (paintA TF1 false p) false bv) p true = kidA TF1 p true by rw [kid_paint _ _ _ _ _ (by rw [paint_len, PL1.out]; exact BD.out), kid_paint _ _ _ _ _ (by rw [PL1.out, LDT.out]; exact HP.out)])
                have HMD := Aside0.mk (Option.some.inj hmd)
                clear hmd
                go_upto_region 18 with (go_at_call 65; refine (paint2_ WF1.out false p bv (by have := HP.out; have := P0.out; have := LDT.out; have := PL1.out; omega) (by rw [PL1.out, LDT.out]; exact HP.out) (by rw [PL1.out]; exact BD.out)).mono ?_; rintro e wq ⟨rfl, hWq, hGq⟩; have WF2 := Aside0.mk hWq; have GF2 := Aside0.mk (GF1.out.trans hGq); clear hWq hGq)
                generalize paintA (paintA TF1 false p) false bv = TF2 at WF2 PL2 PO2 PK2 HMD
                have HK8 := Aside0.mk (show 0 ≤ kidA TF2 p (!false) by show 0 ≤ kidA TF2 p true; rw [PK2.out, PK1.out, HE1.out]; exact N0.out)
                have HK9 := Aside0.mk (show p < (TF2.ns.length : Int) by rw [PL2.out, PL1.out, LDT.out]; exact HP.out)
                go_wp2_with (go_at_call 78; refine (turn_v WF2.out PO2.out p P0.out HK9.out false HK8.out 0 rfl).mono ?_; rintro e wq ⟨rfl, hWq, hGq⟩; have WF3 := Aside0.mk hWq; have GF3 := Aside0.mk (GF2.out.trans hGq); clear hWq hGq)
                refine bodyPost_ret (results_none rfl _ _ _) rfl ?_
                exact ⟨rfl, by rw [← HMD.out]; exact WF3.out, GF3.out⟩
            | true =>
              have HNR := Aside0.mk h1
              have HFR := Aside0.mk h2
              rw [h1, h2, if_neg (by simp), if_neg (by simp)] at hmd
              clear h1 h2
              go_upto_region 16 with (first
                | (go_at_call 53; first | (with_reducible refine ((KI.out _ WB.out).1).mono ?_; rintro e wq ⟨rfl, rfl⟩) | (with_reducible refine ((KI.out _ WB.out).2).mono ?_; rintro e wq ⟨rfl, rfl⟩))
                | (go_at_call_of 62 (Value.int IntKind.i64 nr); refine (red_v WB.out nr NN.out _ HNR.out).mono ?_; rintro e wq ⟨rfl, rfl⟩)
                | (go_at_call_of 62 (Value.int IntKind.i64 fr); refine (red_v WB.out fr FN.out _ HFR.out).mono ?_; rintro e wq ⟨rfl, rfl⟩))
              rw [fillEnd, show (!false) = true from rfl] at hmd
              by_cases hge : kidA TB p true = bv ∧ kidA TB bv true = fr
              rotate_left
              · rw [if_neg hge] at hmd
                cases hmd
              rw [if_pos hge] at hmd
              have HE1 := Aside0.mk hge.1
              clear hge
              have PL1 := Aside0.mk (paint_len TB (redA TB p) bv)
              have PO1 := Aside0.mk (OB.out.paint (redA TB p) bv BN.out)
              have PK1 := Aside0.mk (kid_paint TB (redA TB p) bv p true BN.out)
              obtain ⟨rp, hrp⟩ : ∃ rp, rp = redA TB p := ⟨_, rfl⟩
              rw [← hrp] at hmd PL1 PO1 PK1
              have HRP := Aside0.mk hrp.symm
              clear hrp
              go_upto_region 17 with (fail)
              go_region_with (first
                | (go_at_call 62; refine (red_v (by first | exact WB.out.drew | exact (WB.out.alloc _).drew) p (by rw [LB.out]; exact HP.out) rp HRP.out).mono ?_; rintro e wr ⟨rfl, rfl⟩)
                | (go_at_call 65; refine (paint1d_ WB.out rp bv (by have := HP.out; have := P0.out; have := LB.out; omega) BN.out).mono ?_; rintro e wq ⟨rfl, hWq, hGq⟩; have WF1 := Aside0.mk hWq; have GF1 := Aside0.mk (GB.out.trans hGq); clear hWq hGq))
              all_goals
                generalize paintA TB rp bv = TF1 at WF1 PL1 PO1 PK1 hmd
                have PO2 := Aside0.mk ((PO1.out.paint false p (by rw [PL1.out, LB.out]; exact HP.out)).paint false fr (by rw [paint_len, PL1.out]; exact FN.out))
                have PL2 := Aside0.mk (show (paintA (paintA TF1 false p) false fr).ns.length = TF1.ns.length by rw [paint_len, paint_len])
                have PK2 := Aside0.mk (show kidA (paintA (paintA TF1 false p) false fr) p true = kidA TF1 p true by rw [kid_paint _ _ _ _ _ (by rw [paint_len, PL1.out]; exact FN.out), kid_paint _ _ _ _ _ (by rw [PL1.out, LB.out]; exact HP.out)])
                have HMD := Aside0.mk (Option.some.inj hmd)
                clear hmd
                go_upto_region 18 with (go_at_call 65; refine (paint2_ WF1.out false p fr (by have := HP.out; have := P0.out; have := LB.out; have := PL1.out; omega) (by rw [PL1.out, LB.out]; exact HP.out) (by rw [PL1.out]; exact FN.out)).mono ?_; rintro e wq ⟨rfl, hWq, hGq⟩; have WF2 := Aside0.mk hWq; have GF2 := Aside0.mk (GF1.out.trans hGq); clear hWq hGq)
                generalize paintA (paintA TF1 false p) false fr = TF2 at WF2 PL2 PO2 PK2 HMD
                have HK8 := Aside0.mk (show 0 ≤ kidA TF2 p (!false) by show 0 ≤ kidA TF2 p true; rw [PK2.out, PK1.out, HE1.out]; exact B0.out)
                have HK9 := Aside0.mk (show p < (TF2.ns.length : Int) by rw [PL2.out, PL1.out, LB.out]; exact HP.out)
                go_wp2_with (go_at_call 78; refine (turn_v WF2.out PO2.out p P0.out HK9.out false HK8.out 0 rfl).mono ?_; rintro e wq ⟨rfl, hWq, hGq⟩; have WF3 := Aside0.mk hWq; have GF3 := Aside0.mk (GF2.out.trans hGq); clear hWq hGq)
                refine bodyPost_ret (results_none rfl _ _ _) rfl ?_
                exact ⟨rfl, by rw [← HMD.out]; exact WF3.out, GF3.out⟩
    | true =>
      obtain rfl : z = 1 := HZ.out.symm
      obtain ⟨kd, hkd⟩ : ∃ q, q = kidA T p true := ⟨_, rfl⟩
      have HK := Aside0.mk hkd.symm
      have HKN := Aside0.mk (show kd < (T.ns.length : Int) by rw [hkd]; exact O0.out.kid _ _)
      rw [← hkd] at hmd
      clear hkd
      cases hrk : redA T kd with
      | true =>
        have HRK := Aside0.mk hrk
        rw [hrk, if_pos rfl] at hmd
        have HMD := Aside0.mk (Option.some.inj hmd)
        clear hrk hmd
        go_wp2
        (go_quiet (first
          | (go_at_call 53; exact Calls.quiet_of_same (kid_v (by first | exact W0.out | exact W0.out.drewN _) p P0.out HP.out true 1 rfl kd HK.out))
          | (go_at_call 62; exact Calls.quiet_of_same (red_v (by first | exact W0.out | exact W0.out.drewN _) kd HKN.out _ HRK.out))))
        have W1 := Aside0.mk (W0.out.drewN nq)
        have G1 := Aside0.mk (G0.out.drewN nq)
        clear W0 G0
        generalize wr.drewN nq = wd at W1 G1 ⊢
        have hc1 := W1.out.c1
        go_wp2_with (first
          | (go_at_call 53; refine (kid_v W1.out p P0.out HP.out true 1 rfl kd HK.out).mono ?_; rintro e wq ⟨rfl, rfl⟩)
          | (go_at_call 65; refine (paint1_ W1.out false kd (by have := P0.out; have := HP.out; omega) HKN.out).mono ?_; rintro e wq ⟨rfl, hWq, hGq⟩; have W2 := Aside0.mk hWq; have G2 := Aside0.mk (G1.out.trans hGq); clear hWq hGq))
        go_end0
        exact ⟨rfl, by rw [← HMD.out]; exact W2.out, G2.out⟩
      | false =>
        have HRK := Aside0.mk hrk
        rw [hrk, if_neg (by simp)] at hmd
        clear hrk
        obtain ⟨bb, hbb⟩ : ∃ q, q = kidA T p false := ⟨_, rfl⟩
        have HB := Aside0.mk hbb.symm
        have HBN := Aside0.mk (show bb < (T.ns.length : Int) by rw [hbb]; exact O0.out.kid _ _)
        simp only [Bool.not_true] at hmd
        rw [← hbb] at hmd
        clear hbb
        cases hrb : redA T bb with
        | true =>
          have HRB := Aside0.mk hrb
          rw [hrb, if_pos rfl] at hmd
          have BB0 := Aside0.mk (red_ge hrb)
          clear hrb
          have L2 := Aside0.mk (paint_len T false bb)
          have O3 := Aside0.mk ((O0.out.paint false bb HBN.out).paint true p (by rw [paint_len]; exact HP.out))
          have L3 := Aside0.mk (show (paintA (paintA T false bb) true p).ns.length = T.ns.length by rw [paint_len, paint_len])
          have K3 := Aside0.mk (show kidA (paintA (paintA T false bb) true p) p false = bb by rw [kid_paint _ _ _ _ _ (by rw [paint_len]; exact HP.out), kid_paint _ _ _ _ _ HBN.out]; exact HB.out)
          go_wp2
          (go_quiet (first
            | (go_at_call 53; exact Calls.quiet_of_same (kid_v (by first | exact W0.out | exact W0.out.drewN _) p P0.out HP.out true 1 rfl kd HK.out))
            | (go_at_call 62; exact Calls.quiet_of_same (red_v (by first | exact W0.out | exact W0.out.drewN _) kd HKN.out _ HRK.out))))
          have W1 := Aside0.mk (W0.out.drewN nq)
          have G1 := Aside0.mk (G0.out.drewN nq)
          clear W0 G0
          generalize wr.drewN nq = wd at W1 G1 ⊢
          go_upto_region 4 with (first
            | (go_at_call 53; refine (kid_v W1.out p P0.out HP.out false 0 rfl bb HB.out).mono ?_; rintro e wq ⟨rfl, rfl⟩)
            | (go_at_call 62; refine (red_v W1.out bb HBN.out _ HRB.out).mono ?_; rintro e wq ⟨rfl, rfl⟩)
            | (go_at_call 65; refine (paint1_ W1.out false bb (by have := P0.out; have := HP.out; omega) HBN.out).mono ?_; rintro e wq ⟨rfl, hWq, hGq⟩; have W2 := Aside0.mk hWq; have G2 := Aside0.mk (G1.out.trans hGq); clear hWq hGq))
          go_upto_region 5 with (go_at_call 65; refine (paint1_ W2.out true p (by rw [L2.out]; have := P0.out; have := HP.out; omega) (by rw [L2.out]; exact HP.out)).mono ?_; rintro e wq ⟨rfl, hWq, hGq⟩; have W3 := Aside0.mk hWq; have G3 := Aside0.mk (G2.out.trans hGq); clear hWq hGq)
          generalize paintA (paintA T false bb) true p = T3 at W3 O3 L3 K3 hmd
          have LB := Aside0.mk (show (turnA T3 p true).ns.length = T.ns.length by rw [turn_len, L3.out])
          have OB := Aside0.mk (O3.out.turn p true (by rw [L3.out]; exact HP.out))
          go_upto_region 6 with (go_at_call 78; refine (turn_v W3.out O3.out p P0.out (by rw [L3.out]; exact HP.out) true (by show 0 ≤ kidA T3 p false; rw [K3.out]; exact BB0.out) 1 rfl).mono ?_; rintro e wq ⟨rfl, hWq, hGq⟩; have WB := Aside0.mk hWq; have GB := Aside0.mk (G3.out.trans hGq); clear hWq hGq)
          generalize turnA T3 p true = TB at WB OB LB hmd
          obtain ⟨bv, hbv⟩ : ∃ q, q = kidA TB p false := ⟨_, rfl⟩
          have HBV := Aside0.mk hbv.symm
          have BN := Aside0.mk (show bv < (TB.ns.length : Int) by rw [hbv]; exact OB.out.kid _ _)
          rw [← hbv] at hmd
          clear hbv
          go_upto_region 7 with (go_at_call 53; refine (kid_v WB.out p P0.out (by rw [LB.out]; exact HP.out) false 0 rfl bv HBV.out).mono ?_; rintro e wq ⟨rfl, rfl⟩)
          rw [fillBlack] at hmd
          by_cases hb0 : bv < 0
          · rw [if_pos hb0] at hmd
            cases hmd
          rw [if_neg hb0] at hmd
          have B0 := Aside0.mk (show 0 ≤ bv by omega)
          clear hb0
          obtain ⟨nr, hnr⟩ : ∃ q, q = kidA TB bv true := ⟨_, rfl⟩
          obtain ⟨fr, hfr⟩ : ∃ q, q = kidA TB bv false := ⟨_, rfl⟩
          simp only [Bool.not_true] at hmd
          rw [← hnr, ← hfr] at hmd
          have NE := Aside0.mk hnr.symm
          have FE := Aside0.mk hfr.symm
          have NN := Aside0.mk (show nr < (TB.ns.length : Int) by rw [hnr]; exact OB.out.kid _ _)
          have FN := Aside0.mk (show fr < (TB.ns.length : Int) by rw [hfr]; exact OB.out.kid _ _)
          clear hnr hfr
          have KIDS := fun (w2 : World) (hw : Wk A c w2 g b TB) => And.intro (kid_v hw bv B0.out BN.out true 1 rfl nr NE.out) (kid_v hw bv B0.out BN.out false 0 rfl fr FE.out)
          have KI := Aside0.mk KIDS
          clear KIDS
          cases h1 : redA TB nr with
          | false =>
            cases h2 : redA TB fr with
            | false =>
              have HNR := Aside0.mk h1
              have HFR := Aside0.mk h2
              rw [h1, h2, if_pos ⟨rfl, rfl⟩] at hmd
              have HMD := Aside0.mk hmd
              clear h1 h2 hmd
              go_upto_region 10 with (first
                | (go_at_call 53; first | (with_reducible refine ((KI.out _ WB.out).1).mono ?_; rintro e wq ⟨rfl, rfl⟩) | (with_reducible refine ((KI.out _ WB.out).2).mono ?_; rintro e wq ⟨rfl, rfl⟩))
                | (go_at_call_of 62 (Value.int IntKind.i64 nr); refine (red_v WB.out nr NN.out _ HNR.out).mono ?_; rintro e wq ⟨rfl, rfl⟩)
                | (go_at_call_of 62 (Value.int IntKind.i64 fr); refine (red_v WB.out fr FN.out _ HFR.out).mono ?_; rintro e wq ⟨rfl, rfl⟩)
                | (go_at_call 65; refine (paint1_ WB.out true bv (by have := B0.out; have := BN.out; omega) BN.out).mono ?_; rintro e wq ⟨rfl, hWq, hGq⟩; have W9 := Aside0.mk hWq; have G9 := Aside0.mk (GB.out.trans hGq); clear hWq hGq))
              have O9 := Aside0.mk (OB.out.paint true bv BN.out)
              have L9 := Aside0.mk (paint_len TB true bv)
              generalize paintA TB true bv = T9 at W9 O9 L9 HMD
              go_wp2_with (first
                | (go_at_call 63; refine (up_v W9.out p P0.out (by rw [L9.out, LB.out]; exact HP.out) _ rfl).mono ?_; rintro e wq ⟨rfl, rfl⟩)
                | (go_at_call 60; refine (on_v W9.out O9.out p P0.out (by rw [L9.out, LB.out]; exact HP.out) _ rfl).mono ?_; rintro e wq ⟨rfl, rfl⟩))
              have hq : FRel A c g b w t.ns.length t' (Value.int IntKind.i64 (upA T9 p)) (Value.int IntKind.i64 (sd (onA T9 p))) _ m := ⟨T9, upA T9 p, onA T9 p, rfl, rfl, W9.out, O9.out, O9.out.up p, by rw [L9.out, LB.out]; exact HN.out, HMD.out, G9.out⟩
              refine ⟨⟨m, hq⟩, ?_⟩
              have h3 := (least_of ⟨m, hq⟩).2 m hq
              exact Nat.lt_of_le_of_lt h3 (by rw [hlk]; omega)
            | true =>
              have HNR := Aside0.mk h1
              have HFR := Aside0.mk h2
              rw [h1, h2, if_neg (by simp), if_neg (by simp)] at hmd
              clear h1 h2
              go_upto_region 16 with (first
                | (go_at_call 53; first | (with_reducible refine ((KI.out _ WB.out).1).mono ?_; rintro e wq ⟨rfl, rfl⟩) | (with_reducible refine ((KI.out _ WB.out).2).mono ?_; rintro e wq ⟨rfl, rfl⟩))
                | (go_at_call_of 62 (Value.int IntKind.i64 nr); refine (red_v WB.out nr NN.out _ HNR.out).mono ?_; rintro e wq ⟨rfl, rfl⟩)
                | (go_at_call_of 62 (Value.int IntKind.i64 fr); refine (red_v WB.out fr FN.out _ HFR.out).mono ?_; rintro e wq ⟨rfl, rfl⟩))
              rw [fillEnd, show (!true) = false from rfl] at hmd
              by_cases hge : kidA TB p false = bv ∧ kidA TB bv false = fr
              rotate_left
              · rw [if_neg hge] at hmd
                cases hmd
              rw [if_pos hge] at hmd
              have HE1 := Aside0.mk hge.1
              clear hge
              have PL1 := Aside0.mk (paint_len TB (redA TB p) bv)
              have PO1 := Aside0.mk (OB.out.paint (redA TB p) bv BN.out)
              have PK1 := Aside0.mk (kid_paint TB (redA TB p) bv p false BN.out)
              obtain ⟨rp, hrp⟩ : ∃ rp, rp = redA TB p := ⟨_, rfl⟩
              rw [← hrp] at hmd PL1 PO1 PK1
              have HRP := Aside0.mk hrp.symm
              clear hrp
              go_upto_region 17 with (fail)
              go_region_with (first
                | (go_at_call 62; refine (red_v (by first | exact WB.out.drew | exact (WB.out.alloc _).drew) p (by rw [LB.out]; exact HP.out) rp HRP.out).mono ?_; rintro e wr ⟨rfl, rfl⟩)
                | (go_at_call 65; refine (paint1d_ WB.out rp bv (by have := HP.out; have := P0.out; have := LB.out; omega) BN.out).mono ?_; rintro e wq ⟨rfl, hWq, hGq⟩; have WF1 := Aside0.mk hWq; have GF1 := Aside0.mk (GB.out.trans hGq); clear hWq hGq))
              all_goals
                generalize paintA TB rp bv = TF1 at WF1 PL1 PO1 PK1 hmd
                have PO2 := Aside0.mk ((PO1.out.paint false p (by rw [PL1.out, LB.out]; exact HP.out)).paint false fr (by rw [paint_len, PL1.out]; exact FN.out))
                have PL2 := Aside0.mk (show (paintA (paintA TF1 false p) false fr).ns.length = TF1.ns.length by rw [paint_len, paint_len])
                have PK2 := Aside0.mk (show kidA (paintA (paintA TF1 false p) false fr) p false = kidA TF1 p false by rw [kid_paint _ _ _ _ _ (by rw [paint_len, PL1.out]; exact FN.out), kid_paint _ _ _ _ _ (by rw [PL1.out, LB.out]; exact HP.out)])
                have HMD := Aside0.mk (Option.some.inj hmd)
                clear hmd
                go_upto_region 18 with (go_at_call 65; refine (paint2_ WF1.out false p fr (by have := HP.out; have := P0.out; have := LB.out; have := PL1.out; omega) (by rw [PL1.out, LB.out]; exact HP.out) (by rw [PL1.out]; exact FN.out)).mono ?_; rintro e wq ⟨rfl, hWq, hGq⟩; have WF2 := Aside0.mk hWq; have GF2 := Aside0.mk (GF1.out.trans hGq); clear hWq hGq)
                generalize paintA (paintA TF1 false p) false fr = TF2 at WF2 PL2 PO2 PK2 HMD
                have HK8 := Aside0.mk (show 0 ≤ kidA TF2 p (!true) by show 0 ≤ kidA TF2 p false; rw [PK2.out, PK1.out, HE1.out]; exact B0.out)
                have HK9 := Aside0.mk (show p < (TF2.ns.length : Int) by rw [PL2.out, PL1.out, LB.out]; exact HP.out)
                go_wp2_with (go_at_call 78; refine (turn_v WF2.out PO2.out p P0.out HK9.out true HK8.out 1 rfl).mono ?_; rintro e wq ⟨rfl, hWq, hGq⟩; have WF3 := Aside0.mk hWq; have GF3 := Aside0.mk (GF2.out.trans hGq); clear hWq hGq)
                refine bodyPost_ret (results_none rfl _ _ _) rfl ?_
                exact ⟨rfl, by rw [← HMD.out]; exact WF3.out, GF3.out⟩
          | true =>
            cases h2 : redA TB fr with
            | false =>
              have HNR := Aside0.mk h1
              have HFR := Aside0.mk h2
              rw [h1, h2, if_neg (by simp), if_pos rfl] at hmd
              have N0 := Aside0.mk (red_ge h1)
              clear h1 h2
              have LC := Aside0.mk (show (paintA (paintA TB false nr) true bv).ns.length = TB.ns.length by rw [paint_len, paint_len])
              have OC := Aside0.mk ((OB.out.paint false nr NN.out).paint true bv (by rw [paint_len]; exact BN.out))
              have KC := Aside0.mk (show kidA (paintA (paintA TB false nr) true bv) bv true = nr by rw [kid_paint _ _ _ _ _ (by rw [paint_len]; exact BN.out), kid_paint _ _ _ _ _ NN.out]; exact NE.out)
              have L1 := Aside0.mk (paint_len TB false nr)
              go_upto_region 13 with (first
                | (go_at_call 53; first | (with_reducible refine ((KI.out _ WB.out).1).mono ?_; rintro e wq ⟨rfl, rfl⟩) | (with_reducible refine ((KI.out _ WB.out).2).mono ?_; rintro e wq ⟨rfl, rfl⟩))
                | (go_at_call_of 62 (Value.int IntKind.i64 nr); refine (red_v WB.out nr NN.out _ HNR.out).mono ?_; rintro e wq ⟨rfl, rfl⟩)
                | (go_at_call_of 62 (Value.int IntKind.i64 fr); refine (red_v WB.out fr FN.out _ HFR.out).mono ?_; rintro e wq ⟨rfl, rfl⟩)
                | (go_at_call 65; refine (paint1_ WB.out false nr (by have := B0.out; have := BN.out; omega) NN.out).mono ?_; rintro e wq ⟨rfl, hWq, hGq⟩; have W7 := Aside0.mk hWq; have G7 := Aside0.mk (GB.out.trans hGq); clear hWq hGq))
              go_upto_region 14 with (go_at_call 65; refine (paint1_ W7.out true bv (by rw [L1.out]; have := B0.out; have := BN.out; omega) (by rw [L1.out]; exact BN.out)).mono ?_; rintro e wq ⟨rfl, hWq, hGq⟩; have W8 := Aside0.mk hWq; have G8 := Aside0.mk (G7.out.trans hGq); clear hWq hGq)
              generalize paintA (paintA TB false nr) true bv = TC at W8 LC OC KC hmd
              have LD := Aside0.mk (show (turnA TC bv false).ns.length = t.ns.length by rw [turn_len, LC.out, LB.out, HN.out])
              have OD := Aside0.mk (OC.out.turn bv false (by rw [LC.out]; exact BN.out))
              go_upto_region 16 with (go_at_call 78; refine (turn_v W8.out OC.out bv B0.out (by rw [LC.out]; exact BN.out) false (by show 0 ≤ kidA TC bv true; rw [KC.out]; exact N0.out) 0 rfl).mono ?_; rintro e wq ⟨rfl, hWq, hGq⟩; have WD := Aside0.mk hWq; have GD := Aside0.mk (G8.out.trans hGq); clear hWq hGq)
              generalize turnA TC bv false = TD at WD LD OD hmd
              have LDT := Aside0.mk (show TD.ns.length = T.ns.length by rw [LD.out, HN.out])
              have BD := Aside0.mk (show bv < (TD.ns.length : Int) by rw [LDT.out, ← LB.out]; exact BN.out)
              have ND := Aside0.mk (show nr < (TD.ns.length : Int) by rw [LDT.out, ← LB.out]; exact NN.out)
              rw [fillEnd, show (!true) = false from rfl] at hmd
              by_cases hge : kidA TD p false = nr ∧ kidA TD nr false = bv
              rotate_left
              · rw [if_neg hge] at hmd
                cases hmd
              rw [if_pos hge] at hmd
              have HE1 := Aside0.mk hge.1
              clear hge
              have PL1 := Aside0.mk (paint_len TD (redA TD p) nr)
              have PO1 := Aside0.mk (OD.out.paint (redA TD p) nr ND.out)
              have PK1 := Aside0.mk (kid_paint TD (redA TD p) nr p false ND.out)
              obtain ⟨rp, hrp⟩ : ∃ rp, rp = redA TD p := ⟨_, rfl⟩
              rw [← hrp] at hmd PL1 PO1 PK1
              have HRP := Aside0.mk hrp.symm
              clear hrp
              go_upto_region 17 with (fail)
              go_region_with (first
                | (go_at_call 62; refine (red_v (by first | exact WD.out.drew | exact (WD.out.alloc _).drew) p (by rw [LDT.out]; exact HP.out) rp HRP.out).mono ?_; rintro e wr ⟨rfl, rfl⟩)
                | (go_at_call 65; refine (paint1d_ WD.out rp nr (by have := HP.out; have := P0.out; have := LDT.out; omega) ND.out).mono ?_; rintro e wq ⟨rfl, hWq, hGq⟩; have WF1 := Aside0.mk hWq; have GF1 := Aside0.mk (GD.out.trans hGq); clear hWq hGq))
              all_goals
                generalize paintA TD rp nr = TF1 at WF1 PL1 PO1 PK1 hmd
                have PO2 := Aside0.mk ((PO1.out.paint false p (by rw [PL1.out, LDT.out]; exact HP.out)).paint false bv (by rw [paint_len, PL1.out]; exact BD.out))
                have PL2 := Aside0.mk (show (paintA (paintA TF1 false p) false bv).ns.length = TF1.ns.length by rw [paint_len, paint_len])
                have PK2 := Aside0.mk (show kidA (paintA (paintA TF1 false p) false bv) p false = kidA TF1 p false by rw [kid_paint _ _ _ _ _ (by rw [paint_len, PL1.out]; exact BD.out), kid_paint _ _ _ _ _ (by rw [PL1.out, LDT.out]; exact HP.out)])
                have HMD := Aside0.mk (Option.some.inj hmd)
                clear hmd
                go_upto_region 18 with (go_at_call 65; refine (paint2_ WF1.out false p bv (by have := HP.out; have := P0.out; have := LDT.out; have := PL1.out; omega) (by rw [PL1.out, LDT.out]; exact HP.out) (by rw [PL1.out]; exact BD.out)).mono ?_; rintro e wq ⟨rfl, hWq, hGq⟩; have WF2 := Aside0.mk hWq; have GF2 := Aside0.mk (GF1.out.trans hGq); clear hWq hGq)
                generalize paintA (paintA TF1 false p) false bv = TF2 at WF2 PL2 PO2 PK2 HMD
                have HK8 := Aside0.mk (show 0 ≤ kidA TF2 p (!true) by show 0 ≤ kidA TF2 p false; rw [PK2.out, PK1.out, HE1.out]; exact N0.out)
                have HK9 := Aside0.mk (show p < (TF2.ns.length : Int) by rw [PL2.out, PL1.out, LDT.out]; exact HP.out)
                go_wp2_with (go_at_call 78; refine (turn_v WF2.out PO2.out p P0.out HK9.out true HK8.out 1 rfl).mono ?_; rintro e wq ⟨rfl, hWq, hGq⟩; have WF3 := Aside0.mk hWq; have GF3 := Aside0.mk (GF2.out.trans hGq); clear hWq hGq)
                refine bodyPost_ret (results_none rfl _ _ _) rfl ?_
                exact ⟨rfl, by rw [← HMD.out]; exact WF3.out, GF3.out⟩
            | true =>
              have HNR := Aside0.mk h1
              have HFR := Aside0.mk h2
              rw [h1, h2, if_neg (by simp), if_neg (by simp)] at hmd
              clear h1 h2
              go_upto_region 16 with (first
                | (go_at_call 53; first | (with_reducible refine ((KI.out _ WB.out).1).mono ?_; rintro e wq ⟨rfl, rfl⟩) | (with_reducible refine ((KI.out _ WB.out).2).mono ?_; rintro e wq ⟨rfl, rfl⟩))
                | (go_at_call_of 62 (Value.int IntKind.i64 nr); refine (red_v WB.out nr NN.out _ HNR.out).mono ?_; rintro e wq ⟨rfl, rfl⟩)
                | (go_at_call_of 62 (Value.int IntKind.i64 fr); refine (red_v WB.out fr FN.out _ HFR.out).mono ?_; rintro e wq ⟨rfl, rfl⟩))
              rw [fillEnd, show (!true) = false from rfl] at hmd
              by_cases hge : kidA TB p false = bv ∧ kidA TB bv false = fr
              rotate_left
              · rw [if_neg hge] at hmd
                cases hmd
              rw [if_pos hge] at hmd
              have HE1 := Aside0.mk hge.1
              clear hge
              have PL1 := Aside0.mk (paint_len TB (redA TB p) bv)
              have PO1 := Aside0.mk (OB.out.paint (redA TB p) bv BN.out)
              have PK1 := Aside0.mk (kid_paint TB (redA TB p) bv p false BN.out)
              obtain ⟨rp, hrp⟩ : ∃ rp, rp = redA TB p := ⟨_, rfl⟩
              rw [← hrp] at hmd PL1 PO1 PK1
              have HRP := Aside0.mk hrp.symm
              clear hrp
              go_upto_region 17 with (fail)
              go_region_with (first
                | (go_at_call 62; refine (red_v (by first | exact WB.out.drew | exact (WB.out.alloc _).drew) p (by rw [LB.out]; exact HP.out) rp HRP.out).mono ?_; rintro e wr ⟨rfl, rfl⟩)
                | (go_at_call 65; refine (paint1d_ WB.out rp bv (by have := HP.out; have := P0.out; have := LB.out; omega) BN.out).mono ?_; rintro e wq ⟨rfl, hWq, hGq⟩; have WF1 := Aside0.mk hWq; have GF1 := Aside0.mk (GB.out.trans hGq); clear hWq hGq))
              all_goals
                generalize paintA TB rp bv = TF1 at WF1 PL1 PO1 PK1 hmd
                have PO2 := Aside0.mk ((PO1.out.paint false p (by rw [PL1.out, LB.out]; exact HP.out)).paint false fr (by rw [paint_len, PL1.out]; exact FN.out))
                have PL2 := Aside0.mk (show (paintA (paintA TF1 false p) false fr).ns.length = TF1.ns.length by rw [paint_len, paint_len])
                have PK2 := Aside0.mk (show kidA (paintA (paintA TF1 false p) false fr) p false = kidA TF1 p false by rw [kid_paint _ _ _ _ _ (by rw [paint_len, PL1.out]; exact FN.out), kid_paint _ _ _ _ _ (by rw [PL1.out, LB.out]; exact HP.out)])
                have HMD := Aside0.mk (Option.some.inj hmd)
                clear hmd
                go_upto_region 18 with (go_at_call 65; refine (paint2_ WF1.out false p fr (by have := HP.out; have := P0.out; have := LB.out; have := PL1.out; omega) (by rw [PL1.out, LB.out]; exact HP.out) (by rw [PL1.out]; exact FN.out)).mono ?_; rintro e wq ⟨rfl, hWq, hGq⟩; have WF2 := Aside0.mk hWq; have GF2 := Aside0.mk (GF1.out.trans hGq); clear hWq hGq)
                generalize paintA (paintA TF1 false p) false fr = TF2 at WF2 PL2 PO2 PK2 HMD
                have HK8 := Aside0.mk (show 0 ≤ kidA TF2 p (!true) by show 0 ≤ kidA TF2 p false; rw [PK2.out, PK1.out, HE1.out]; exact B0.out)
                have HK9 := Aside0.mk (show p < (TF2.ns.length : Int) by rw [PL2.out, PL1.out, LB.out]; exact HP.out)
                go_wp2_with (go_at_call 78; refine (turn_v WF2.out PO2.out p P0.out HK9.out true HK8.out 1 rfl).mono ?_; rintro e wq ⟨rfl, hWq, hGq⟩; have WF3 := Aside0.mk hWq; have GF3 := Aside0.mk (GF2.out.trans hGq); clear hWq hGq)
                refine bodyPost_ret (results_none rfl _ _ _) rfl ?_
                exact ⟨rfl, by rw [← HMD.out]; exact WF3.out, GF3.out⟩
        | false =>
          have HRB := Aside0.mk hrb
          rw [hrb, if_neg (by simp)] at hmd
          clear hrb
          go_wp2
          (go_quiet (first
            | (go_at_call 53; exact Calls.quiet_of_same (kid_v (by first | exact W0.out | exact W0.out.drewN _) p P0.out HP.out true 1 rfl kd HK.out))
            | (go_at_call 62; exact Calls.quiet_of_same (red_v (by first | exact W0.out | exact W0.out.drewN _) kd HKN.out _ HRK.out))))
          have W1 := Aside0.mk (W0.out.drewN nq)
          have G1 := Aside0.mk (G0.out.drewN nq)
          clear W0 G0
          generalize wr.drewN nq = wd at W1 G1 ⊢
          go_upto_region 7 with (first
            | (go_at_call 53; refine (kid_v W1.out p P0.out HP.out false 0 rfl bb HB.out).mono ?_; rintro e wq ⟨rfl, rfl⟩)
            | (go_at_call 62; refine (red_v W1.out bb HBN.out _ HRB.out).mono ?_; rintro e wq ⟨rfl, rfl⟩))
          have WB := W1
          have GB := G1
          have OB := O0
          have BN := HBN
          clear W1 G1
          generalize hTB : T = TB at WB OB BN hmd
          have LB := Aside0.mk (show TB.ns.length = T.ns.length by rw [hTB])
          clear hTB
          generalize hbv : bb = bv at BN hmd ⊢
          rw [fillBlack] at hmd
          by_cases hb0 : bv < 0
          · rw [if_pos hb0] at hmd
            cases hmd
          rw [if_neg hb0] at hmd
          have B0 := Aside0.mk (show 0 ≤ bv by omega)
          clear hb0
          obtain ⟨nr, hnr⟩ : ∃ q, q = kidA TB bv true := ⟨_, rfl⟩
          obtain ⟨fr, hfr⟩ : ∃ q, q = kidA TB bv false := ⟨_, rfl⟩
          simp only [Bool.not_true] at hmd
          rw [← hnr, ← hfr] at hmd
          have NE := Aside0.mk hnr.symm
          have FE := Aside0.mk hfr.symm
          have NN := Aside0.mk (show nr < (TB.ns.length : Int) by rw [hnr]; exact OB.out.kid _ _)
          have FN := Aside0.mk (show fr < (TB.ns.length : Int) by rw [hfr]; exact OB.out.kid _ _)
          clear hnr hfr
          have KIDS := fun (w2 : World) (hw : Wk A c w2 g b TB) => And.intro (kid_v hw bv B0.out BN.out true 1 rfl nr NE.out) (kid_v hw bv B0.out BN.out false 0 rfl fr FE.out)
          have KI := Aside0.mk KIDS
          clear KIDS
          cases h1 : redA TB nr with
          | false =>
            cases h2 : redA TB fr with
            | false =>
              have HNR := Aside0.mk h1
              have HFR := Aside0.mk h2
              rw [h1, h2, if_pos ⟨rfl, rfl⟩] at hmd
              have HMD := Aside0.mk hmd
              clear h1 h2 hmd
              go_upto_region 10 with (first
                | (go_at_call 53; first | (with_reducible refine ((KI.out _ WB.out).1).mono ?_; rintro e wq ⟨rfl, rfl⟩) | (with_reducible refine ((KI.out _ WB.out).2).mono ?_; rintro e wq ⟨rfl, rfl⟩))
                | (go_at_call_of 62 (Value.int IntKind.i64 nr); refine (red_v WB.out nr NN.out _ HNR.out).mono ?_; rintro e wq ⟨rfl, rfl⟩)
                | (go_at_call_of 62 (Value.int IntKind.i64 fr); refine (red_v WB.out fr FN.out _ HFR.out).mono ?_; rintro e wq ⟨rfl, rfl⟩)
                | (go_at_call 65; refine (paint1_ WB.out true bv (by have := B0.out; have := BN.out; omega) BN.out).mono ?_; rintro e wq ⟨rfl, hWq, hGq⟩; have W9 := Aside0.mk hWq; have G9 := Aside0.mk (GB.out.trans hGq); clear hWq hGq))
              have O9 := Aside0.mk (OB.out.paint true bv BN.out)
              have L9 := Aside0.mk (paint_len TB true bv)
              generalize paintA TB true bv = T9 at W9 O9 L9 HMD
              go_wp2_with (first
                | (go_at_call 63; refine (up_v W9.out p P0.out (by rw [L9.out, LB.out]; exact HP.out) _ rfl).mono ?_; rintro e wq ⟨rfl, rfl⟩)
                | (go_at_call 60; refine (on_v W9.out O9.out p P0.out (by rw [L9.out, LB.out]; exact HP.out) _ rfl).mono ?_; rintro e wq ⟨rfl, rfl⟩))
              have hq : FRel A c g b w t.ns.length t' (Value.int IntKind.i64 (upA T9 p)) (Value.int IntKind.i64 (sd (onA T9 p))) _ m := ⟨T9, upA T9 p, onA T9 p, rfl, rfl, W9.out, O9.out, O9.out.up p, by rw [L9.out, LB.out]; exact HN.out, HMD.out, G9.out⟩
              refine ⟨⟨m, hq⟩, ?_⟩
              have h3 := (least_of ⟨m, hq⟩).2 m hq
              exact Nat.lt_of_le_of_lt h3 (by rw [hlk]; omega)
            | true =>
              have HNR := Aside0.mk h1
              have HFR := Aside0.mk h2
              rw [h1, h2, if_neg (by simp), if_neg (by simp)] at hmd
              clear h1 h2
              go_upto_region 16 with (first
                | (go_at_call 53; first | (with_reducible refine ((KI.out _ WB.out).1).mono ?_; rintro e wq ⟨rfl, rfl⟩) | (with_reducible refine ((KI.out _ WB.out).2).mono ?_; rintro e wq ⟨rfl, rfl⟩))
                | (go_at_call_of 62 (Value.int IntKind.i64 nr); refine (red_v WB.out nr NN.out _ HNR.out).mono ?_; rintro e wq ⟨rfl, rfl⟩)
                | (go_at_call_of 62 (Value.int IntKind.i64 fr); refine (red_v WB.out fr FN.out _ HFR.out).mono ?_; rintro e wq ⟨rfl, rfl⟩))
              rw [fillEnd, show (!true) = false from rfl] at hmd
              by_cases hge : kidA TB p false = bv ∧ kidA TB bv false = fr
              rotate_left
              · rw [if_neg hge] at hmd
                cases hmd
              rw [if_pos hge] at hmd
              have HE1 := Aside0.mk hge.1
              clear hge
              have PL1 := Aside0.mk (paint_len TB (redA TB p) bv)
              have PO1 := Aside0.mk (OB.out.paint (redA TB p) bv BN.out)
              have PK1 := Aside0.mk (kid_paint TB (redA TB p) bv p false BN.out)
              obtain ⟨rp, hrp⟩ : ∃ rp, rp = redA TB p := ⟨_, rfl⟩
              rw [← hrp] at hmd PL1 PO1 PK1
              have HRP := Aside0.mk hrp.symm
              clear hrp
              go_upto_region 17 with (fail)
              go_region_with (first
                | (go_at_call 62; refine (red_v (by first | exact WB.out.drew | exact (WB.out.alloc _).drew) p (by rw [LB.out]; exact HP.out) rp HRP.out).mono ?_; rintro e wr ⟨rfl, rfl⟩)
                | (go_at_call 65; refine (paint1d_ WB.out rp bv (by have := HP.out; have := P0.out; have := LB.out; omega) BN.out).mono ?_; rintro e wq ⟨rfl, hWq, hGq⟩; have WF1 := Aside0.mk hWq; have GF1 := Aside0.mk (GB.out.trans hGq); clear hWq hGq))
              all_goals
                generalize paintA TB rp bv = TF1 at WF1 PL1 PO1 PK1 hmd
                have PO2 := Aside0.mk ((PO1.out.paint false p (by rw [PL1.out, LB.out]; exact HP.out)).paint false fr (by rw [paint_len, PL1.out]; exact FN.out))
                have PL2 := Aside0.mk (show (paintA (paintA TF1 false p) false fr).ns.length = TF1.ns.length by rw [paint_len, paint_len])
                have PK2 := Aside0.mk (show kidA (paintA (paintA TF1 false p) false fr) p false = kidA TF1 p false by rw [kid_paint _ _ _ _ _ (by rw [paint_len, PL1.out]; exact FN.out), kid_paint _ _ _ _ _ (by rw [PL1.out, LB.out]; exact HP.out)])
                have HMD := Aside0.mk (Option.some.inj hmd)
                clear hmd
                go_upto_region 18 with (go_at_call 65; refine (paint2_ WF1.out false p fr (by have := HP.out; have := P0.out; have := LB.out; have := PL1.out; omega) (by rw [PL1.out, LB.out]; exact HP.out) (by rw [PL1.out]; exact FN.out)).mono ?_; rintro e wq ⟨rfl, hWq, hGq⟩; have WF2 := Aside0.mk hWq; have GF2 := Aside0.mk (GF1.out.trans hGq); clear hWq hGq)
                generalize paintA (paintA TF1 false p) false fr = TF2 at WF2 PL2 PO2 PK2 HMD
                have HK8 := Aside0.mk (show 0 ≤ kidA TF2 p (!true) by show 0 ≤ kidA TF2 p false; rw [PK2.out, PK1.out, HE1.out]; exact B0.out)
                have HK9 := Aside0.mk (show p < (TF2.ns.length : Int) by rw [PL2.out, PL1.out, LB.out]; exact HP.out)
                go_wp2_with (go_at_call 78; refine (turn_v WF2.out PO2.out p P0.out HK9.out true HK8.out 1 rfl).mono ?_; rintro e wq ⟨rfl, hWq, hGq⟩; have WF3 := Aside0.mk hWq; have GF3 := Aside0.mk (GF2.out.trans hGq); clear hWq hGq)
                refine bodyPost_ret (results_none rfl _ _ _) rfl ?_
                exact ⟨rfl, by rw [← HMD.out]; exact WF3.out, GF3.out⟩
          | true =>
            cases h2 : redA TB fr with
            | false =>
              have HNR := Aside0.mk h1
              have HFR := Aside0.mk h2
              rw [h1, h2, if_neg (by simp), if_pos rfl] at hmd
              have N0 := Aside0.mk (red_ge h1)
              clear h1 h2
              have LC := Aside0.mk (show (paintA (paintA TB false nr) true bv).ns.length = TB.ns.length by rw [paint_len, paint_len])
              have OC := Aside0.mk ((OB.out.paint false nr NN.out).paint true bv (by rw [paint_len]; exact BN.out))
              have KC := Aside0.mk (show kidA (paintA (paintA TB false nr) true bv) bv true = nr by rw [kid_paint _ _ _ _ _ (by rw [paint_len]; exact BN.out), kid_paint _ _ _ _ _ NN.out]; exact NE.out)
              have L1 := Aside0.mk (paint_len TB false nr)
              go_upto_region 13 with (first
                | (go_at_call 53; first | (with_reducible refine ((KI.out _ WB.out).1).mono ?_; rintro e wq ⟨rfl, rfl⟩) | (with_reducible refine ((KI.out _ WB.out).2).mono ?_; rintro e wq ⟨rfl, rfl⟩))
                | (go_at_call_of 62 (Value.int IntKind.i64 nr); refine (red_v WB.out nr NN.out _ HNR.out).mono ?_; rintro e wq ⟨rfl, rfl⟩)
                | (go_at_call_of 62 (Value.int IntKind.i64 fr); refine (red_v WB.out fr FN.out _ HFR.out).mono ?_; rintro e wq ⟨rfl, rfl⟩)
                | (go_at_call 65; refine (paint1_ WB.out false nr (by have := B0.out; have := BN.out; omega) NN.out).mono ?_; rintro e wq ⟨rfl, hWq, hGq⟩; have W7 := Aside0.mk hWq; have G7 := Aside0.mk (GB.out.trans hGq); clear hWq hGq))
              go_upto_region 14 with (go_at_call 65; refine (paint1_ W7.out true bv (by rw [L1.out]; have := B0.out; have := BN.out; omega) (by rw [L1.out]; exact BN.out)).mono ?_; rintro e wq ⟨rfl, hWq, hGq⟩; have W8 := Aside0.mk hWq; have G8 := Aside0.mk (G7.out.trans hGq); clear hWq hGq)
              generalize paintA (paintA TB false nr) true bv = TC at W8 LC OC KC hmd
              have LD := Aside0.mk (show (turnA TC bv false).ns.length = t.ns.length by rw [turn_len, LC.out, LB.out, HN.out])
              have OD := Aside0.mk (OC.out.turn bv false (by rw [LC.out]; exact BN.out))
              go_upto_region 16 with (go_at_call 78; refine (turn_v W8.out OC.out bv B0.out (by rw [LC.out]; exact BN.out) false (by show 0 ≤ kidA TC bv true; rw [KC.out]; exact N0.out) 0 rfl).mono ?_; rintro e wq ⟨rfl, hWq, hGq⟩; have WD := Aside0.mk hWq; have GD := Aside0.mk (G8.out.trans hGq); clear hWq hGq)
              generalize turnA TC bv false = TD at WD LD OD hmd
              have LDT := Aside0.mk (show TD.ns.length = T.ns.length by rw [LD.out, HN.out])
              have BD := Aside0.mk (show bv < (TD.ns.length : Int) by rw [LDT.out, ← LB.out]; exact BN.out)
              have ND := Aside0.mk (show nr < (TD.ns.length : Int) by rw [LDT.out, ← LB.out]; exact NN.out)
              rw [fillEnd, show (!true) = false from rfl] at hmd
              by_cases hge : kidA TD p false = nr ∧ kidA TD nr false = bv
              rotate_left
              · rw [if_neg hge] at hmd
                cases hmd
              rw [if_pos hge] at hmd
              have HE1 := Aside0.mk hge.1
              clear hge
              have PL1 := Aside0.mk (paint_len TD (redA TD p) nr)
              have PO1 := Aside0.mk (OD.out.paint (redA TD p) nr ND.out)
              have PK1 := Aside0.mk (kid_paint TD (redA TD p) nr p false ND.out)
              obtain ⟨rp, hrp⟩ : ∃ rp, rp = redA TD p := ⟨_, rfl⟩
              rw [← hrp] at hmd PL1 PO1 PK1
              have HRP := Aside0.mk hrp.symm
              clear hrp
              go_upto_region 17 with (fail)
              go_region_with (first
                | (go_at_call 62; refine (red_v (by first | exact WD.out.drew | exact (WD.out.alloc _).drew) p (by rw [LDT.out]; exact HP.out) rp HRP.out).mono ?_; rintro e wr ⟨rfl, rfl⟩)
                | (go_at_call 65; refine (paint1d_ WD.out rp nr (by have := HP.out; have := P0.out; have := LDT.out; omega) ND.out).mono ?_; rintro e wq ⟨rfl, hWq, hGq⟩; have WF1 := Aside0.mk hWq; have GF1 := Aside0.mk (GD.out.trans hGq); clear hWq hGq))
              all_goals
                generalize paintA TD rp nr = TF1 at WF1 PL1 PO1 PK1 hmd
                have PO2 := Aside0.mk ((PO1.out.paint false p (by rw [PL1.out, LDT.out]; exact HP.out)).paint false bv (by rw [paint_len, PL1.out]; exact BD.out))
                have PL2 := Aside0.mk (show (paintA (paintA TF1 false p) false bv).ns.length = TF1.ns.length by rw [paint_len, paint_len])
                have PK2 := Aside0.mk (show kidA (paintA (paintA TF1 false p) false bv) p false = kidA TF1 p false by rw [kid_paint _ _ _ _ _ (by rw [paint_len, PL1.out]; exact BD.out), kid_paint _ _ _ _ _ (by rw [PL1.out, LDT.out]; exact HP.out)])
                have HMD := Aside0.mk (Option.some.inj hmd)
                clear hmd
                go_upto_region 18 with (go_at_call 65; refine (paint2_ WF1.out false p bv (by have := HP.out; have := P0.out; have := LDT.out; have := PL1.out; omega) (by rw [PL1.out, LDT.out]; exact HP.out) (by rw [PL1.out]; exact BD.out)).mono ?_; rintro e wq ⟨rfl, hWq, hGq⟩; have WF2 := Aside0.mk hWq; have GF2 := Aside0.mk (GF1.out.trans hGq); clear hWq hGq)
                generalize paintA (paintA TF1 false p) false bv = TF2 at WF2 PL2 PO2 PK2 HMD
                have HK8 := Aside0.mk (show 0 ≤ kidA TF2 p (!true) by show 0 ≤ kidA TF2 p false; rw [PK2.out, PK1.out, HE1.out]; exact N0.out)
                have HK9 := Aside0.mk (show p < (TF2.ns.length : Int) by rw [PL2.out, PL1.out, LDT.out]; exact HP.out)
                go_wp2_with (go_at_call 78; refine (turn_v WF2.out PO2.out p P0.out HK9.out true HK8.out 1 rfl).mono ?_; rintro e wq ⟨rfl, hWq, hGq⟩; have WF3 := Aside0.mk hWq; have GF3 := Aside0.mk (GF2.out.trans hGq); clear hWq hGq)
                refine bodyPost_ret (results_none rfl _ _ _) rfl ?_
                exact ⟨rfl, by rw [← HMD.out]; exact WF3.out, GF3.out⟩
            | true =>
              have HNR := Aside0.mk h1
              have HFR := Aside0.mk h2
              rw [h1, h2, if_neg (by simp), if_neg (by simp)] at hmd
              clear h1 h2
              go_upto_region 16 with (first
                | (go_at_call 53; first | (with_reducible refine ((KI.out _ WB.out).1).mono ?_; rintro e wq ⟨rfl, rfl⟩) | (with_reducible refine ((KI.out _ WB.out).2).mono ?_; rintro e wq ⟨rfl, rfl⟩))
                | (go_at_call_of 62 (Value.int IntKind.i64 nr); refine (red_v WB.out nr NN.out _ HNR.out).mono ?_; rintro e wq ⟨rfl, rfl⟩)
                | (go_at_call_of 62 (Value.int IntKind.i64 fr); refine (red_v WB.out fr FN.out _ HFR.out).mono ?_; rintro e wq ⟨rfl, rfl⟩))
              rw [fillEnd, show (!true) = false from rfl] at hmd
              by_cases hge : kidA TB p false = bv ∧ kidA TB bv false = fr
              rotate_left
              · rw [if_neg hge] at hmd
                cases hmd
              rw [if_pos hge] at hmd
              have HE1 := Aside0.mk hge.1
              clear hge
              have PL1 := Aside0.mk (paint_len TB (redA TB p) bv)
              have PO1 := Aside0.mk (OB.out.paint (redA TB p) bv BN.out)
              have PK1 := Aside0.mk (kid_paint TB (redA TB p) bv p false BN.out)
              obtain ⟨rp, hrp⟩ : ∃ rp, rp = redA TB p := ⟨_, rfl⟩
              rw [← hrp] at hmd PL1 PO1 PK1
              have HRP := Aside0.mk hrp.symm
              clear hrp
              go_upto_region 17 with (fail)
              go_region_with (first
                | (go_at_call 62; refine (red_v (by first | exact WB.out.drew | exact (WB.out.alloc _).drew) p (by rw [LB.out]; exact HP.out) rp HRP.out).mono ?_; rintro e wr ⟨rfl, rfl⟩)
                | (go_at_call 65; refine (paint1d_ WB.out rp bv (by have := HP.out; have := P0.out; have := LB.out; omega) BN.out).mono ?_; rintro e wq ⟨rfl, hWq, hGq⟩; have WF1 := Aside0.mk hWq; have GF1 := Aside0.mk (GB.out.trans hGq); clear hWq hGq))
              all_goals
                generalize paintA TB rp bv = TF1 at WF1 PL1 PO1 PK1 hmd
                have PO2 := Aside0.mk ((PO1.out.paint false p (by rw [PL1.out, LB.out]; exact HP.out)).paint false fr (by rw [paint_len, PL1.out]; exact FN.out))
                have PL2 := Aside0.mk (show (paintA (paintA TF1 false p) false fr).ns.length = TF1.ns.length by rw [paint_len, paint_len])
                have PK2 := Aside0.mk (show kidA (paintA (paintA TF1 false p) false fr) p false = kidA TF1 p false by rw [kid_paint _ _ _ _ _ (by rw [paint_len, PL1.out]; exact FN.out), kid_paint _ _ _ _ _ (by rw [PL1.out, LB.out]; exact HP.out)])
                have HMD := Aside0.mk (Option.some.inj hmd)
                clear hmd
                go_upto_region 18 with (go_at_call 65; refine (paint2_ WF1.out false p fr (by have := HP.out; have := P0.out; have := LB.out; have := PL1.out; omega) (by rw [PL1.out, LB.out]; exact HP.out) (by rw [PL1.out]; exact FN.out)).mono ?_; rintro e wq ⟨rfl, hWq, hGq⟩; have WF2 := Aside0.mk hWq; have GF2 := Aside0.mk (GF1.out.trans hGq); clear hWq hGq)
                generalize paintA (paintA TF1 false p) false fr = TF2 at WF2 PL2 PO2 PK2 HMD
                have HK8 := Aside0.mk (show 0 ≤ kidA TF2 p (!true) by show 0 ≤ kidA TF2 p false; rw [PK2.out, PK1.out, HE1.out]; exact B0.out)
                have HK9 := Aside0.mk (show p < (TF2.ns.length : Int) by rw [PL2.out, PL1.out, LB.out]; exact HP.out)
                go_wp2_with (go_at_call 78; refine (turn_v WF2.out PO2.out p P0.out HK9.out true HK8.out 1 rfl).mono ?_; rintro e wq ⟨rfl, hWq, hGq⟩; have WF3 := Aside0.mk hWq; have GF3 := Aside0.mk (GF2.out.trans hGq); clear hWq hGq)
                refine bodyPost_ret (results_none rfl _ _ _) rfl ?_
                exact ⟨rfl, by rw [← HMD.out]; exact WF3.out, GF3.out⟩
end Go.Proofs.YtnkhnnojdlgfjaaDoor.Tm
