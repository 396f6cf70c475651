/- Parts of the proof, joined: Tm4. -/
import Derived.Test.YtfapmcpmfeigbaaDoorUD7
namespace Go.Proofs.YtfapmcpmfeigbaaDoor.Tm
open Go.RowKit Go Go.Proofs Go.Proofs.YtfapmcpmfeigbaaDoor Go.Proofs.YtfapmcpmfeigbaaDoor.Tr Go.Proofs.YtfapmcpmfeigbaaDoorW.PrintWords Go.Proofs.YtfapmcpmfeigbaaDoorW.PrintLast Go.Proofs.YtfapmcpmfeigbaaDoorW.PrintMore
set_option linter.unusedVariables false
set_option linter.unusedSimpArgs false
theorem yC (t : St) (is : Bool) (x y : Int) (s : Bool) (hx : x < t.ns.length) : kidA (zQ t is x) y s = kidA t y s := by
 unfold kidA
 rw [zaH is (fun h => by omega)]
 by_cases e : (y.toNat : Int) = x
 ·rw [if_pos e]
 rw [if_neg e]
structure FRel (A : Option Addr) (c g b : Nat) (w : World) (n : Nat) (t' : St) (vp vs : Value) (wr : World) (k : Nat) : Prop where mk ::
 out : ∃ (T : St) (p : Int) (s : Bool), vp = .int .i64 p ∧ vs = .int .i64 (sd s) ∧ Wk A c wr g b T ∧ Ok T ∧ p < T.ns.length ∧ T.ns.length = n ∧ qH k T p s = some t' ∧ Gs g b w wr
structure FRl (A : Option Addr) (c g b : Nat) (w : World) (n : Nat) (t' : St) (vp vs : Value) (wr : World) : Prop where mk ::
 out : ∃ k, FRel A c g b w n t' vp vs wr k
variable {A : Option Addr} {c : Nat} {w w1 : World} {g b : Nat} {t : St}
set_option maxHeartbeats 32000000 in
set_option maxRecDepth 100000 in
theorem fill_ (h : Wk A c w g b t) (ho : Ok t) (h0 : 0 < t.ns.length) (p : Int) (s : Bool) (hp : p < t.ns.length) (k0 : Nat) (t' : St) (hm : qH k0 t p s = some t') :
  Calls Tryd.prog 50 #[.pointer (some ⟨g, 0, none⟩), .int .i64 p, .int .i64 (sd s)] w fun e w' => e = .returned (.tuple #[]) ∧ Wk A c w' g b t' ∧ Gs g b w w' := by
 have H := zA.mk h; have HO := zA.mk ho; have HM := zA.mk hm; have HX := zA.mk hp; have H0 := zA.mk h0; clear h ho hm hp h0
 go_enter Tryd.func50, Tryd.ntmps50
 go_wp2
 go_loopw [1, 2] (fun vp vs wr => FRl A c g b w t.ns.length t' vp vs wr) (fun vp vs wr => least (FRel A c g b w t.ns.length t' vp vs wr))
 case atStart => exact ⟨k0, t, p, s, rfl, rfl, H.out, HO.out, HX.out, rfl, HM.out, Gs.refl _ _ _⟩
 case round =>
  clear H HO HM HX
  have HR := xE hrel.out
  obtain ⟨hR1, hR2⟩ := HR
  have HL := zA.mk hR2
  generalize hlk : least _ = lk at hR1 HL ⊢
  obtain ⟨T, p, s, rfl, hvs, hW, hO, hp, hn, hmd, hG⟩ := hR1.out
  obtain ⟨z, hz⟩ : ∃ z, z = sd s := ⟨_, rfl⟩
  rw [← hz] at hvs
  subst hvs
  obtain ⟨m, rfl⟩ : ∃ m, lk = m + 1 := by
   cases lk with
   | zero => simp [qH] at hmd
   | succ m => exact ⟨m, rfl⟩
  clear hR2 hrel hR1 HL
  have HZ := zA.mk hz.symm
  clear hz
  rw [qH] at hmd
  have W0 := zA.mk hW; have O0 := zA.mk hO; have G0 := zA.mk hG; have HP := zA.mk hp; have HN := zA.mk hn; clear hW hO hG hp hn
  by_cases hp0 : 0 ≤ p
  rotate_left
  ·rw [if_neg hp0] at hmd
   have HMD := zA.mk (Option.some.inj hmd)
   have hc1 := W0.out.c1
   have hd : decide (0 ≤ p) = false := decide_eq_false hp0
   clear hmd
   go_wp2
   go_quiet (fail)
   have W1 := zA.mk (W0.out.drewN nq)
   have G1 := zA.mk (G0.out.drewN nq)
   clear W0 G0
   generalize wr.drewN nq = wd at W1 G1 ⊢
   have hc2 := W1.out.c1
   go_wp2_with (go_at_call 49; refine (xL W1.out false T.rt (by rw [HN.out]; exact H0.out) O0.out.rt).mono ?_; rintro e wq ⟨rfl, hWq, hGq⟩; have W2 := zA.mk hWq; have G2 := zA.mk (G1.out.trans hGq); clear hWq hGq)
   go_end0
   exact ⟨rfl, by rw [← HMD.out]; exact W2.out, G2.out⟩
  rw [if_pos hp0] at hmd
  have P0 := zA.mk hp0
  cases s with
  | false =>
   obtain rfl : z = 0 := HZ.out.symm
   obtain ⟨kd, hkd⟩ : ∃ q, q = kidA T p false := ⟨_, rfl⟩
   have HK := zA.mk hkd.symm
   have HKN := zA.mk (show kd < (T.ns.length : Int) by rw [hkd]; exact O0.out.kid _ _)
   rw [← hkd] at hmd
   clear hkd
   cases hrk : redA T kd with
   | true =>
    have HRK := zA.mk hrk
    rw [hrk, if_pos rfl] at hmd
    have HMD := zA.mk (Option.some.inj hmd)
    clear hrk hmd
    go_wp2
    (go_quiet (first
     | (go_at_call 33; exact Calls.quiet_of_same (qU (by first | exact W0.out | exact W0.out.drewN _) p P0.out HP.out false 0 rfl kd HK.out))
     | (go_at_call 46; exact Calls.quiet_of_same (yS (by first | exact W0.out | exact W0.out.drewN _) kd HKN.out _ HRK.out))))
    have W1 := zA.mk (W0.out.drewN nq)
    have G1 := zA.mk (G0.out.drewN nq)
    clear W0 G0
    generalize wr.drewN nq = wd at W1 G1 ⊢
    have hc1 := W1.out.c1
    go_wp2_with (first
     | (go_at_call 33; refine (qU W1.out p P0.out HP.out false 0 rfl kd HK.out).mono ?_; rintro e wq ⟨rfl, rfl⟩)
     | (go_at_call 49; refine (xL W1.out false kd (by have := P0.out; have := HP.out; omega) HKN.out).mono ?_; rintro e wq ⟨rfl, hWq, hGq⟩; have W2 := zA.mk hWq; have G2 := zA.mk (G1.out.trans hGq); clear hWq hGq))
    go_end0
    exact ⟨rfl, by rw [← HMD.out]; exact W2.out, G2.out⟩
   | false =>
    have HRK := zA.mk hrk
    rw [hrk, if_neg (by simp)] at hmd
    clear hrk
    obtain ⟨bb, hbb⟩ : ∃ q, q = kidA T p true := ⟨_, rfl⟩
    have HB := zA.mk hbb.symm
    have HBN := zA.mk (show bb < (T.ns.length : Int) by rw [hbb]; exact O0.out.kid _ _)
    simp only [Bool.not_false] at hmd
    rw [← hbb] at hmd
    clear hbb
    cases hrb : redA T bb with
    | true =>
     have HRB := zA.mk hrb
     rw [hrb, if_pos rfl] at hmd
     have BB0 := zA.mk (vY hrb)
     clear hrb
     have L2 := zA.mk (zP T false bb)
     have O3 := zA.mk ((O0.out.yE false bb HBN.out).yE true p (by rw [zP]; exact HP.out))
     have L3 := zA.mk (show (zQ (zQ T false bb) true p).ns.length = T.ns.length by rw [zP, zP])
     have K3 := zA.mk (show kidA (zQ (zQ T false bb) true p) p true = bb by rw [yC _ _ _ _ _ (by rw [zP]; exact HP.out), yC _ _ _ _ _ HBN.out]; exact HB.out)
     go_wp2
     (go_quiet (first
      | (go_at_call 33; exact Calls.quiet_of_same (qU (by first | exact W0.out | exact W0.out.drewN _) p P0.out HP.out false 0 rfl kd HK.out))
      | (go_at_call 46; exact Calls.quiet_of_same (yS (by first | exact W0.out | exact W0.out.drewN _) kd HKN.out _ HRK.out))))
     have W1 := zA.mk (W0.out.drewN nq)
     have G1 := zA.mk (G0.out.drewN nq)
     clear W0 G0
     generalize wr.drewN nq = wd at W1 G1 ⊢
     go_upto_region 4 with (first
      | (go_at_call 33; refine (qU W1.out p P0.out HP.out true 1 rfl bb HB.out).mono ?_; rintro e wq ⟨rfl, rfl⟩)
      | (go_at_call 46; refine (yS W1.out bb HBN.out _ HRB.out).mono ?_; rintro e wq ⟨rfl, rfl⟩)
      | (go_at_call 49; refine (xL W1.out false bb (by have := P0.out; have := HP.out; omega) HBN.out).mono ?_; rintro e wq ⟨rfl, hWq, hGq⟩; have W2 := zA.mk hWq; have G2 := zA.mk (G1.out.trans hGq); clear hWq hGq))
     go_upto_region 5 with (go_at_call 49; refine (xL W2.out true p (by rw [L2.out]; have := P0.out; have := HP.out; omega) (by rw [L2.out]; exact HP.out)).mono ?_; rintro e wq ⟨rfl, hWq, hGq⟩; have W3 := zA.mk hWq; have G3 := zA.mk (G2.out.trans hGq); clear hWq hGq)
     generalize zQ (zQ T false bb) true p = T3 at W3 O3 L3 K3 hmd
     have LB := zA.mk (show (yU T3 p false).ns.length = T.ns.length by rw [xM, L3.out])
     have OB := zA.mk (O3.out.turn p false (by rw [L3.out]; exact HP.out))
     go_upto_region 6 with (go_at_call 68; refine (qL W3.out O3.out p P0.out (by rw [L3.out]; exact HP.out) false (by show 0 ≤ kidA T3 p true; rw [K3.out]; exact BB0.out) 0 rfl).mono ?_; rintro e wq ⟨rfl, hWq, hGq⟩; have WB := zA.mk hWq; have GB := zA.mk (G3.out.trans hGq); clear hWq hGq)
     generalize yU T3 p false = TB at WB OB LB hmd
     obtain ⟨bv, hbv⟩ : ∃ q, q = kidA TB p true := ⟨_, rfl⟩
     have HBV := zA.mk hbv.symm
     have BN := zA.mk (show bv < (TB.ns.length : Int) by rw [hbv]; exact OB.out.kid _ _)
     rw [← hbv] at hmd
     clear hbv
     go_upto_region 7 with (go_at_call 33; refine (qU WB.out p P0.out (by rw [LB.out]; exact HP.out) true 1 rfl bv HBV.out).mono ?_; rintro e wq ⟨rfl, rfl⟩)
     rw [xR] at hmd
     by_cases hb0 : bv < 0
     ·rw [if_pos hb0] at hmd
      cases hmd
     rw [if_neg hb0] at hmd
     have B0 := zA.mk (show 0 ≤ bv by omega)
     clear hb0
     obtain ⟨nr, hnr⟩ : ∃ q, q = kidA TB bv false := ⟨_, rfl⟩
     obtain ⟨fr, hfr⟩ : ∃ q, q = kidA TB bv true := ⟨_, rfl⟩
     simp only [Bool.not_false] at hmd
     rw [← hnr, ← hfr] at hmd
     have NE := zA.mk hnr.symm
     have FE := zA.mk hfr.symm
     have NN := zA.mk (show nr < (TB.ns.length : Int) by rw [hnr]; exact OB.out.kid _ _)
     have FN := zA.mk (show fr < (TB.ns.length : Int) by rw [hfr]; exact OB.out.kid _ _)
     clear hnr hfr
     have KIDS := fun (w2 : World) (hw : Wk A c w2 g b TB) => And.intro (qU hw bv B0.out BN.out false 0 rfl nr NE.out) (qU hw bv B0.out BN.out true 1 rfl fr FE.out)
     have KI := zA.mk KIDS; clear KIDS
     cases h1 : redA TB nr with
     | false =>
      cases h2 : redA TB fr with
      | false =>
       have HNR := zA.mk h1; have HFR := zA.mk h2
       rw [h1, h2, if_pos ⟨rfl, rfl⟩] at hmd
       have HMD := zA.mk hmd; clear h1 h2 hmd
       go_upto_region 10 with (first
        | (go_at_call 33; first | (with_reducible refine ((KI.out _ WB.out).1).mono ?_; rintro e wq ⟨rfl, rfl⟩) | (with_reducible refine ((KI.out _ WB.out).2).mono ?_; rintro e wq ⟨rfl, rfl⟩))
        | (go_at_call_of 46 (Value.int IntKind.i64 nr); refine (yS WB.out nr NN.out _ HNR.out).mono ?_; rintro e wq ⟨rfl, rfl⟩)
        | (go_at_call_of 46 (Value.int IntKind.i64 fr); refine (yS WB.out fr FN.out _ HFR.out).mono ?_; rintro e wq ⟨rfl, rfl⟩)
        | (go_at_call 49; refine (xL WB.out true bv (by have := B0.out; have := BN.out; omega) BN.out).mono ?_; rintro e wq ⟨rfl, hWq, hGq⟩; have W9 := zA.mk hWq; have G9 := zA.mk (GB.out.trans hGq); clear hWq hGq))
       have O9 := zA.mk (OB.out.yE true bv BN.out)
       have L9 := zA.mk (zP TB true bv)
       generalize zQ TB true bv = T9 at W9 O9 L9 HMD
       go_wp2_with (first
        | (go_at_call 47; refine (up_v W9.out p P0.out (by rw [L9.out, LB.out]; exact HP.out) _ rfl).mono ?_; rintro e wq ⟨rfl, rfl⟩)
        | (go_at_call 44; refine (on_v W9.out O9.out p P0.out (by rw [L9.out, LB.out]; exact HP.out) _ rfl).mono ?_; rintro e wq ⟨rfl, rfl⟩))
       have hq : FRel A c g b w t.ns.length t' (Value.int IntKind.i64 (upA T9 p)) (Value.int IntKind.i64 (sd (onA T9 p))) _ m := ⟨T9, upA T9 p, onA T9 p, rfl, rfl, W9.out, O9.out, O9.out.up p, by rw [L9.out, LB.out]; exact HN.out, HMD.out, G9.out⟩
       refine ⟨⟨m, hq⟩, ?_⟩
       have h3 := (xE ⟨m, hq⟩).2 m hq
       exact Nat.lt_of_le_of_lt h3 (by rw [hlk]; omega)
      | true =>
       have HNR := zA.mk h1; have HFR := zA.mk h2
       rw [h1, h2, if_neg (by simp), if_neg (by simp)] at hmd
       clear h1 h2
       go_upto_region 16 with (first
        | (go_at_call 33; first | (with_reducible refine ((KI.out _ WB.out).1).mono ?_; rintro e wq ⟨rfl, rfl⟩) | (with_reducible refine ((KI.out _ WB.out).2).mono ?_; rintro e wq ⟨rfl, rfl⟩))
        | (go_at_call_of 46 (Value.int IntKind.i64 nr); refine (yS WB.out nr NN.out _ HNR.out).mono ?_; rintro e wq ⟨rfl, rfl⟩)
        | (go_at_call_of 46 (Value.int IntKind.i64 fr); refine (yS WB.out fr FN.out _ HFR.out).mono ?_; rintro e wq ⟨rfl, rfl⟩))
       rw [xQ, show (!false) = true from rfl] at hmd
       by_cases hge : kidA TB p true = bv ∧ kidA TB bv true = fr
       rotate_left
       ·rw [if_neg hge] at hmd
        cases hmd
       rw [if_pos hge] at hmd
       have HE1 := zA.mk hge.1
       clear hge
       have PL1 := zA.mk (zP TB (redA TB p) bv)
       have PO1 := zA.mk (OB.out.yE (redA TB p) bv BN.out)
       have PK1 := zA.mk (yC TB (redA TB p) bv p true BN.out)
       obtain ⟨rp, hrp⟩ : ∃ rp, rp = redA TB p := ⟨_, rfl⟩
       rw [← hrp] at hmd PL1 PO1 PK1
       have HRP := zA.mk hrp.symm
       clear hrp
       go_upto_region 17 with (fail)
       go_region_with (first
        | (go_at_call 46; refine (yS (by first | exact WB.out.drew | exact (WB.out.alloc _).drew) p (by rw [LB.out]; exact HP.out) rp HRP.out).mono ?_; rintro e wr ⟨rfl, rfl⟩)
        | (go_at_call 49; refine (qP WB.out rp bv (by have := HP.out; have := P0.out; have := LB.out; omega) BN.out).mono ?_; rintro e wq ⟨rfl, hWq, hGq⟩; have WF1 := zA.mk hWq; have GF1 := zA.mk (GB.out.trans hGq); clear hWq hGq))
       all_goals
        generalize zQ TB rp bv = TF1 at WF1 PL1 PO1 PK1 hmd
        have PO2 := zA.mk ((PO1.out.yE false p (by rw [PL1.out, LB.out]; exact HP.out)).yE false fr (by rw [zP, PL1.out]; exact FN.out))
        have PL2 := zA.mk (show (zQ (zQ TF1 false p) false fr).ns.length = TF1.ns.length by rw [zP, zP])
        have PK2 := zA.mk (show kidA (zQ (zQ TF1 false p) false fr) p true = kidA TF1 p true by rw [yC _ _ _ _ _ (by rw [zP, PL1.out]; exact FN.out), yC _ _ _ _ _ (by rw [PL1.out, LB.out]; exact HP.out)])
        have HMD := zA.mk (Option.some.inj hmd)
        clear hmd
        go_upto_region 18 with (go_at_call 49; refine (jK WF1.out false p fr (by have := HP.out; have := P0.out; have := LB.out; have := PL1.out; omega) (by rw [PL1.out, LB.out]; exact HP.out) (by rw [PL1.out]; exact FN.out)).mono ?_; rintro e wq ⟨rfl, hWq, hGq⟩; have WF2 := zA.mk hWq; have GF2 := zA.mk (GF1.out.trans hGq); clear hWq hGq)
        generalize zQ (zQ TF1 false p) false fr = TF2 at WF2 PL2 PO2 PK2 HMD
        have HK8 := zA.mk (show 0 ≤ kidA TF2 p (!false) by show 0 ≤ kidA TF2 p true; rw [PK2.out, PK1.out, HE1.out]; exact B0.out)
        have HK9 := zA.mk (show p < (TF2.ns.length : Int) by rw [PL2.out, PL1.out, LB.out]; exact HP.out)
        go_wp2_with (go_at_call 68; refine (qL WF2.out PO2.out p P0.out HK9.out false HK8.out 0 rfl).mono ?_; rintro e wq ⟨rfl, hWq, hGq⟩; have WF3 := zA.mk hWq; have GF3 := zA.mk (GF2.out.trans hGq); clear hWq hGq)
        refine bodyPost_ret (results_none rfl _ _ _) rfl ?_
        exact ⟨rfl, by rw [← HMD.out]; exact WF3.out, GF3.out⟩
     | true =>
      cases h2 : redA TB fr with
      | false =>
       have HNR := zA.mk h1; have HFR := zA.mk h2
       rw [h1, h2, if_neg (by simp), if_pos rfl] at hmd
       have N0 := zA.mk (vY h1)
       clear h1 h2
       have LC := zA.mk (show (zQ (zQ TB false nr) true bv).ns.length = TB.ns.length by rw [zP, zP])
       have OC := zA.mk ((OB.out.yE false nr NN.out).yE true bv (by rw [zP]; exact BN.out))
       have KC := zA.mk (show kidA (zQ (zQ TB false nr) true bv) bv false = nr by rw [yC _ _ _ _ _ (by rw [zP]; exact BN.out), yC _ _ _ _ _ NN.out]; exact NE.out)
       have L1 := zA.mk (zP TB false nr)
       go_upto_region 13 with (first
        | (go_at_call 33; first | (with_reducible refine ((KI.out _ WB.out).1).mono ?_; rintro e wq ⟨rfl, rfl⟩) | (with_reducible refine ((KI.out _ WB.out).2).mono ?_; rintro e wq ⟨rfl, rfl⟩))
        | (go_at_call_of 46 (Value.int IntKind.i64 nr); refine (yS WB.out nr NN.out _ HNR.out).mono ?_; rintro e wq ⟨rfl, rfl⟩)
        | (go_at_call_of 46 (Value.int IntKind.i64 fr); refine (yS WB.out fr FN.out _ HFR.out).mono ?_; rintro e wq ⟨rfl, rfl⟩)
        | (go_at_call 49; refine (xL WB.out false nr (by have := B0.out; have := BN.out; omega) NN.out).mono ?_; rintro e wq ⟨rfl, hWq, hGq⟩; have W7 := zA.mk hWq; have G7 := zA.mk (GB.out.trans hGq); clear hWq hGq))
       go_upto_region 14 with (go_at_call 49; refine (xL W7.out true bv (by rw [L1.out]; have := B0.out; have := BN.out; omega) (by rw [L1.out]; exact BN.out)).mono ?_; rintro e wq ⟨rfl, hWq, hGq⟩; have W8 := zA.mk hWq; have G8 := zA.mk (G7.out.trans hGq); clear hWq hGq)
       generalize zQ (zQ TB false nr) true bv = TC at W8 LC OC KC hmd
       have LD := zA.mk (show (yU TC bv true).ns.length = t.ns.length by rw [xM, LC.out, LB.out, HN.out])
       have OD := zA.mk (OC.out.turn bv true (by rw [LC.out]; exact BN.out))
       go_upto_region 16 with (go_at_call 68; refine (qL W8.out OC.out bv B0.out (by rw [LC.out]; exact BN.out) true (by show 0 ≤ kidA TC bv false; rw [KC.out]; exact N0.out) 1 rfl).mono ?_; rintro e wq ⟨rfl, hWq, hGq⟩; have WD := zA.mk hWq; have GD := zA.mk (G8.out.trans hGq); clear hWq hGq)
       generalize yU TC bv true = TD at WD LD OD hmd
       have LDT := zA.mk (show TD.ns.length = T.ns.length by rw [LD.out, HN.out])
       have BD := zA.mk (show bv < (TD.ns.length : Int) by rw [LDT.out, ← LB.out]; exact BN.out)
       have ND := zA.mk (show nr < (TD.ns.length : Int) by rw [LDT.out, ← LB.out]; exact NN.out)
       rw [xQ, show (!false) = true from rfl] at hmd
       by_cases hge : kidA TD p true = nr ∧ kidA TD nr true = bv
       rotate_left
       ·rw [if_neg hge] at hmd
        cases hmd
       rw [if_pos hge] at hmd
       have HE1 := zA.mk hge.1
       clear hge
       have PL1 := zA.mk (zP TD (redA TD p) nr)
       have PO1 := zA.mk (OD.out.yE (redA TD p) nr ND.out)
       have PK1 := zA.mk (yC TD (redA TD p) nr p true ND.out)
       obtain ⟨rp, hrp⟩ : ∃ rp, rp = redA TD p := ⟨_, rfl⟩
       rw [← hrp] at hmd PL1 PO1 PK1
       have HRP := zA.mk hrp.symm
       clear hrp
       go_upto_region 17 with (fail)
       go_region_with (first
        | (go_at_call 46; refine (yS (by first | exact WD.out.drew | exact (WD.out.alloc _).drew) p (by rw [LDT.out]; exact HP.out) rp HRP.out).mono ?_; rintro e wr ⟨rfl, rfl⟩)
        | (go_at_call 49; refine (qP WD.out rp nr (by have := HP.out; have := P0.out; have := LDT.out; omega) ND.out).mono ?_; rintro e wq ⟨rfl, hWq, hGq⟩; have WF1 := zA.mk hWq; have GF1 := zA.mk (GD.out.trans hGq); clear hWq hGq))
       all_goals
        generalize zQ TD rp nr = TF1 at WF1 PL1 PO1 PK1 hmd
        have PO2 := zA.mk ((PO1.out.yE false p (by rw [PL1.out, LDT.out]; exact HP.out)).yE false bv (by rw [zP, PL1.out]; exact BD.out))
        have PL2 := zA.mk (show (zQ (zQ TF1 false p) false bv).ns.length = TF1.ns.length by rw [zP, zP])
        have PK2 := zA.mk (show kidA (zQ (zQ TF1 false p) false bv) p true = kidA TF1 p true by rw [yC _ _ _ _ _ (by rw [zP, PL1.out]; exact BD.out), yC _ _ _ _ _ (by rw [PL1.out, LDT.out]; exact HP.out)])
        have HMD := zA.mk (Option.some.inj hmd)
        clear hmd
        go_upto_region 18 with (go_at_call 49; refine (jK WF1.out false p bv (by have := HP.out; have := P0.out; have := LDT.out; have := PL1.out; omega) (by rw [PL1.out, LDT.out]; exact HP.out) (by rw [PL1.out]; exact BD.out)).mono ?_; rintro e wq ⟨rfl, hWq, hGq⟩; have WF2 := zA.mk hWq; have GF2 := zA.mk (GF1.out.trans hGq); clear hWq hGq)
        generalize zQ (zQ TF1 false p) false bv = TF2 at WF2 PL2 PO2 PK2 HMD
        have HK8 := zA.mk (show 0 ≤ kidA TF2 p (!false) by show 0 ≤ kidA TF2 p true; rw [PK2.out, PK1.out, HE1.out]; exact N0.out)
        have HK9 := zA.mk (show p < (TF2.ns.length : Int) by rw [PL2.out, PL1.out, LDT.out]; exact HP.out)
        go_wp2_with (go_at_call 68; refine (qL WF2.out PO2.out p P0.out HK9.out false HK8.out 0 rfl).mono ?_; rintro e wq ⟨rfl, hWq, hGq⟩; have WF3 := zA.mk hWq; have GF3 := zA.mk (GF2.out.trans hGq); clear hWq hGq)
        refine bodyPost_ret (results_none rfl _ _ _) rfl ?_
        exact ⟨rfl, by rw [← HMD.out]; exact WF3.out, GF3.out⟩
      | true =>
       have HNR := zA.mk h1; have HFR := zA.mk h2
       rw [h1, h2, if_neg (by simp), if_neg (by simp)] at hmd
       clear h1 h2
       go_upto_region 16 with (first
        | (go_at_call 33; first | (with_reducible refine ((KI.out _ WB.out).1).mono ?_; rintro e wq ⟨rfl, rfl⟩) | (with_reducible refine ((KI.out _ WB.out).2).mono ?_; rintro e wq ⟨rfl, rfl⟩))
        | (go_at_call_of 46 (Value.int IntKind.i64 nr); refine (yS WB.out nr NN.out _ HNR.out).mono ?_; rintro e wq ⟨rfl, rfl⟩)
        | (go_at_call_of 46 (Value.int IntKind.i64 fr); refine (yS WB.out fr FN.out _ HFR.out).mono ?_; rintro e wq ⟨rfl, rfl⟩))
       rw [xQ, show (!false) = true from rfl] at hmd
       by_cases hge : kidA TB p true = bv ∧ kidA TB bv true = fr
       rotate_left
       ·rw [if_neg hge] at hmd
        cases hmd
       rw [if_pos hge] at hmd
       have HE1 := zA.mk hge.1
       clear hge
       have PL1 := zA.mk (zP TB (redA TB p) bv)
       have PO1 := zA.mk (OB.out.yE (redA TB p) bv BN.out)
       have PK1 := zA.mk (yC TB (redA TB p) bv p true BN.out)
       obtain ⟨rp, hrp⟩ : ∃ rp, rp = redA TB p := ⟨_, rfl⟩
       rw [← hrp] at hmd PL1 PO1 PK1
       have HRP := zA.mk hrp.symm
       clear hrp
       go_upto_region 17 with (fail)
       go_region_with (first
        | (go_at_call 46; refine (yS (by first | exact WB.out.drew | exact (WB.out.alloc _).drew) p (by rw [LB.out]; exact HP.out) rp HRP.out).mono ?_; rintro e wr ⟨rfl, rfl⟩)
        | (go_at_call 49; refine (qP WB.out rp bv (by have := HP.out; have := P0.out; have := LB.out; omega) BN.out).mono ?_; rintro e wq ⟨rfl, hWq, hGq⟩; have WF1 := zA.mk hWq; have GF1 := zA.mk (GB.out.trans hGq); clear hWq hGq))
       all_goals
        generalize zQ TB rp bv = TF1 at WF1 PL1 PO1 PK1 hmd
        have PO2 := zA.mk ((PO1.out.yE false p (by rw [PL1.out, LB.out]; exact HP.out)).yE false fr (by rw [zP, PL1.out]; exact FN.out))
        have PL2 := zA.mk (show (zQ (zQ TF1 false p) false fr).ns.length = TF1.ns.length by rw [zP, zP])
        have PK2 := zA.mk (show kidA (zQ (zQ TF1 false p) false fr) p true = kidA TF1 p true by rw [yC _ _ _ _ _ (by rw [zP, PL1.out]; exact FN.out), yC _ _ _ _ _ (by rw [PL1.out, LB.out]; exact HP.out)])
        have HMD := zA.mk (Option.some.inj hmd)
        clear hmd
        go_upto_region 18 with (go_at_call 49; refine (jK WF1.out false p fr (by have := HP.out; have := P0.out; have := LB.out; have := PL1.out; omega) (by rw [PL1.out, LB.out]; exact HP.out) (by rw [PL1.out]; exact FN.out)).mono ?_; rintro e wq ⟨rfl, hWq, hGq⟩; have WF2 := zA.mk hWq; have GF2 := zA.mk (GF1.out.trans hGq); clear hWq hGq)
        generalize zQ (zQ TF1 false p) false fr = TF2 at WF2 PL2 PO2 PK2 HMD
        have HK8 := zA.mk (show 0 ≤ kidA TF2 p (!false) by show 0 ≤ kidA TF2 p true; rw [PK2.out, PK1.out, HE1.out]; exact B0.out)
        have HK9 := zA.mk (show p < (TF2.ns.length : Int) by rw [PL2.out, PL1.out, LB.out]; exact HP.out)
        go_wp2_with (go_at_call 68; refine (qL WF2.out PO2.out p P0.out HK9.out false HK8.out 0 rfl).mono ?_; rintro e wq ⟨rfl, hWq, hGq⟩; have WF3 := zA.mk hWq; have GF3 := zA.mk (GF2.out.trans hGq); clear hWq hGq)
        refine bodyPost_ret (results_none rfl _ _ _) rfl ?_
        exact ⟨rfl, by rw [← HMD.out]; exact WF3.out, GF3.out⟩
    | false =>
     have HRB := zA.mk hrb
     rw [hrb, if_neg (by simp)] at hmd
     clear hrb
     go_wp2
     (go_quiet (first
      | (go_at_call 33; exact Calls.quiet_of_same (qU (by first | exact W0.out | exact W0.out.drewN _) p P0.out HP.out false 0 rfl kd HK.out))
      | (go_at_call 46; exact Calls.quiet_of_same (yS (by first | exact W0.out | exact W0.out.drewN _) kd HKN.out _ HRK.out))))
     have W1 := zA.mk (W0.out.drewN nq)
     have G1 := zA.mk (G0.out.drewN nq)
     clear W0 G0
     generalize wr.drewN nq = wd at W1 G1 ⊢
     go_upto_region 7 with (first
      | (go_at_call 33; refine (qU W1.out p P0.out HP.out true 1 rfl bb HB.out).mono ?_; rintro e wq ⟨rfl, rfl⟩)
      | (go_at_call 46; refine (yS W1.out bb HBN.out _ HRB.out).mono ?_; rintro e wq ⟨rfl, rfl⟩))
     have WB := W1; have GB := G1; have OB := O0; have BN := HBN; clear W1 G1
     generalize hTB : T = TB at WB OB BN hmd
     have LB := zA.mk (show TB.ns.length = T.ns.length by rw [hTB])
     clear hTB
     generalize hbv : bb = bv at BN hmd ⊢
     rw [xR] at hmd
     by_cases hb0 : bv < 0
     ·rw [if_pos hb0] at hmd
      cases hmd
     rw [if_neg hb0] at hmd
     have B0 := zA.mk (show 0 ≤ bv by omega)
     clear hb0
     obtain ⟨nr, hnr⟩ : ∃ q, q = kidA TB bv false := ⟨_, rfl⟩
     obtain ⟨fr, hfr⟩ : ∃ q, q = kidA TB bv true := ⟨_, rfl⟩
     simp only [Bool.not_false] at hmd
     rw [← hnr, ← hfr] at hmd
     have NE := zA.mk hnr.symm
     have FE := zA.mk hfr.symm
     have NN := zA.mk (show nr < (TB.ns.length : Int) by rw [hnr]; exact OB.out.kid _ _)
     have FN := zA.mk (show fr < (TB.ns.length : Int) by rw [hfr]; exact OB.out.kid _ _)
     clear hnr hfr
     have KIDS := fun (w2 : World) (hw : Wk A c w2 g b TB) => And.intro (qU hw bv B0.out BN.out false 0 rfl nr NE.out) (qU hw bv B0.out BN.out true 1 rfl fr FE.out)
     have KI := zA.mk KIDS; clear KIDS
     cases h1 : redA TB nr with
     | false =>
      cases h2 : redA TB fr with
      | false =>
       have HNR := zA.mk h1; have HFR := zA.mk h2
       rw [h1, h2, if_pos ⟨rfl, rfl⟩] at hmd
       have HMD := zA.mk hmd; clear h1 h2 hmd
       go_upto_region 10 with (first
        | (go_at_call 33; first | (with_reducible refine ((KI.out _ WB.out).1).mono ?_; rintro e wq ⟨rfl, rfl⟩) | (with_reducible refine ((KI.out _ WB.out).2).mono ?_; rintro e wq ⟨rfl, rfl⟩))
        | (go_at_call_of 46 (Value.int IntKind.i64 nr); refine (yS WB.out nr NN.out _ HNR.out).mono ?_; rintro e wq ⟨rfl, rfl⟩)
        | (go_at_call_of 46 (Value.int IntKind.i64 fr); refine (yS WB.out fr FN.out _ HFR.out).mono ?_; rintro e wq ⟨rfl, rfl⟩)
        | (go_at_call 49; refine (xL WB.out true bv (by have := B0.out; have := BN.out; omega) BN.out).mono ?_; rintro e wq ⟨rfl, hWq, hGq⟩; have W9 := zA.mk hWq; have G9 := zA.mk (GB.out.trans hGq); clear hWq hGq))
       have O9 := zA.mk (OB.out.yE true bv BN.out)
       have L9 := zA.mk (zP TB true bv)
       generalize zQ TB true bv = T9 at W9 O9 L9 HMD
       go_wp2_with (first
        | (go_at_call 47; refine (up_v W9.out p P0.out (by rw [L9.out, LB.out]; exact HP.out) _ rfl).mono ?_; rintro e wq ⟨rfl, rfl⟩)
        | (go_at_call 44; refine (on_v W9.out O9.out p P0.out (by rw [L9.out, LB.out]; exact HP.out) _ rfl).mono ?_; rintro e wq ⟨rfl, rfl⟩))
       have hq : FRel A c g b w t.ns.length t' (Value.int IntKind.i64 (upA T9 p)) (Value.int IntKind.i64 (sd (onA T9 p))) _ m := ⟨T9, upA T9 p, onA T9 p, rfl, rfl, W9.out, O9.out, O9.out.up p, by rw [L9.out, LB.out]; exact HN.out, HMD.out, G9.out⟩
       refine ⟨⟨m, hq⟩, ?_⟩
       have h3 := (xE ⟨m, hq⟩).2 m hq
       exact Nat.lt_of_le_of_lt h3 (by rw [hlk]; omega)
      | true =>
       have HNR := zA.mk h1; have HFR := zA.mk h2
       rw [h1, h2, if_neg (by simp), if_neg (by simp)] at hmd
       clear h1 h2
       go_upto_region 16 with (first
        | (go_at_call 33; first | (with_reducible refine ((KI.out _ WB.out).1).mono ?_; rintro e wq ⟨rfl, rfl⟩) | (with_reducible refine ((KI.out _ WB.out).2).mono ?_; rintro e wq ⟨rfl, rfl⟩))
        | (go_at_call_of 46 (Value.int IntKind.i64 nr); refine (yS WB.out nr NN.out _ HNR.out).mono ?_; rintro e wq ⟨rfl, rfl⟩)
        | (go_at_call_of 46 (Value.int IntKind.i64 fr); refine (yS WB.out fr FN.out _ HFR.out).mono ?_; rintro e wq ⟨rfl, rfl⟩))
       rw [xQ, show (!false) = true from rfl] at hmd
       by_cases hge : kidA TB p true = bv ∧ kidA TB bv true = fr
       rotate_left
       ·rw [if_neg hge] at hmd
        cases hmd
       rw [if_pos hge] at hmd
       have HE1 := zA.mk hge.1
       clear hge
       have PL1 := zA.mk (zP TB (redA TB p) bv)
       have PO1 := zA.mk (OB.out.yE (redA TB p) bv BN.out)
       have PK1 := zA.mk (yC TB (redA TB p) bv p true BN.out)
       obtain ⟨rp, hrp⟩ : ∃ rp, rp = redA TB p := ⟨_, rfl⟩
       rw [← hrp] at hmd PL1 PO1 PK1
       have HRP := zA.mk hrp.symm
       clear hrp
       go_upto_region 17 with (fail)
       go_region_with (first
        | (go_at_call 46; refine (yS (by first | exact WB.out.drew | exact (WB.out.alloc _).drew) p (by rw [LB.out]; exact HP.out) rp HRP.out).mono ?_; rintro e wr ⟨rfl, rfl⟩)
        | (go_at_call 49; refine (qP WB.out rp bv (by have := HP.out; have := P0.out; have := LB.out; omega) BN.out).mono ?_; rintro e wq ⟨rfl, hWq, hGq⟩; have WF1 := zA.mk hWq; have GF1 := zA.mk (GB.out.trans hGq); clear hWq hGq))
       all_goals
        generalize zQ TB rp bv = TF1 at WF1 PL1 PO1 PK1 hmd
        have PO2 := zA.mk ((PO1.out.yE false p (by rw [PL1.out, LB.out]; exact HP.out)).yE false fr (by rw [zP, PL1.out]; exact FN.out))
        have PL2 := zA.mk (show (zQ (zQ TF1 false p) false fr).ns.length = TF1.ns.length by rw [zP, zP])
        have PK2 := zA.mk (show kidA (zQ (zQ TF1 false p) false fr) p true = kidA TF1 p true by rw [yC _ _ _ _ _ (by rw [zP, PL1.out]; exact FN.out), yC _ _ _ _ _ (by rw [PL1.out, LB.out]; exact HP.out)])
        have HMD := zA.mk (Option.some.inj hmd)
        clear hmd
        go_upto_region 18 with (go_at_call 49; refine (jK WF1.out false p fr (by have := HP.out; have := P0.out; have := LB.out; have := PL1.out; omega) (by rw [PL1.out, LB.out]; exact HP.out) (by rw [PL1.out]; exact FN.out)).mono ?_; rintro e wq ⟨rfl, hWq, hGq⟩; have WF2 := zA.mk hWq; have GF2 := zA.mk (GF1.out.trans hGq); clear hWq hGq)
        generalize zQ (zQ TF1 false p) false fr = TF2 at WF2 PL2 PO2 PK2 HMD
        have HK8 := zA.mk (show 0 ≤ kidA TF2 p (!false) by show 0 ≤ kidA TF2 p true; rw [PK2.out, PK1.out, HE1.out]; exact B0.out)
        have HK9 := zA.mk (show p < (TF2.ns.length : Int) by rw [PL2.out, PL1.out, LB.out]; exact HP.out)
        go_wp2_with (go_at_call 68; refine (qL WF2.out PO2.out p P0.out HK9.out false HK8.out 0 rfl).mono ?_; rintro e wq ⟨rfl, hWq, hGq⟩; have WF3 := zA.mk hWq; have GF3 := zA.mk (GF2.out.trans hGq); clear hWq hGq)
        refine bodyPost_ret (results_none rfl _ _ _) rfl ?_
        exact ⟨rfl, by rw [← HMD.out]; exact WF3.out, GF3.out⟩
     | true =>
      cases h2 : redA TB fr with
      | false =>
       have HNR := zA.mk h1; have HFR := zA.mk h2
       rw [h1, h2, if_neg (by simp), if_pos rfl] at hmd
       have N0 := zA.mk (vY h1)
       clear h1 h2
       have LC := zA.mk (show (zQ (zQ TB false nr) true bv).ns.length = TB.ns.length by rw [zP, zP])
       have OC := zA.mk ((OB.out.yE false nr NN.out).yE true bv (by rw [zP]; exact BN.out))
       have KC := zA.mk (show kidA (zQ (zQ TB false nr) true bv) bv false = nr by rw [yC _ _ _ _ _ (by rw [zP]; exact BN.out), yC _ _ _ _ _ NN.out]; exact NE.out)
       have L1 := zA.mk (zP TB false nr)
       go_upto_region 13 with (first
        | (go_at_call 33; first | (with_reducible refine ((KI.out _ WB.out).1).mono ?_; rintro e wq ⟨rfl, rfl⟩) | (with_reducible refine ((KI.out _ WB.out).2).mono ?_; rintro e wq ⟨rfl, rfl⟩))
        | (go_at_call_of 46 (Value.int IntKind.i64 nr); refine (yS WB.out nr NN.out _ HNR.out).mono ?_; rintro e wq ⟨rfl, rfl⟩)
        | (go_at_call_of 46 (Value.int IntKind.i64 fr); refine (yS WB.out fr FN.out _ HFR.out).mono ?_; rintro e wq ⟨rfl, rfl⟩)
        | (go_at_call 49; refine (xL WB.out false nr (by have := B0.out; have := BN.out; omega) NN.out).mono ?_; rintro e wq ⟨rfl, hWq, hGq⟩; have W7 := zA.mk hWq; have G7 := zA.mk (GB.out.trans hGq); clear hWq hGq))
       go_upto_region 14 with (go_at_call 49; refine (xL W7.out true bv (by rw [L1.out]; have := B0.out; have := BN.out; omega) (by rw [L1.out]; exact BN.out)).mono ?_; rintro e wq ⟨rfl, hWq, hGq⟩; have W8 := zA.mk hWq; have G8 := zA.mk (G7.out.trans hGq); clear hWq hGq)
       generalize zQ (zQ TB false nr) true bv = TC at W8 LC OC KC hmd
       have LD := zA.mk (show (yU TC bv true).ns.length = t.ns.length by rw [xM, LC.out, LB.out, HN.out])
       have OD := zA.mk (OC.out.turn bv true (by rw [LC.out]; exact BN.out))
       go_upto_region 16 with (go_at_call 68; refine (qL W8.out OC.out bv B0.out (by rw [LC.out]; exact BN.out) true (by show 0 ≤ kidA TC bv false; rw [KC.out]; exact N0.out) 1 rfl).mono ?_; rintro e wq ⟨rfl, hWq, hGq⟩; have WD := zA.mk hWq; have GD := zA.mk (G8.out.trans hGq); clear hWq hGq)
       generalize yU TC bv true = TD at WD LD OD hmd
       have LDT := zA.mk (show TD.ns.length = T.ns.length by rw [LD.out, HN.out])
       have BD := zA.mk (show bv < (TD.ns.length : Int) by rw [LDT.out, ← LB.out]; exact BN.out)
       have ND := zA.mk (show nr < (TD.ns.length : Int) by rw [LDT.out, ← LB.out]; exact NN.out)
       rw [xQ, show (!false) = true from rfl] at hmd
       by_cases hge : kidA TD p true = nr ∧ kidA TD nr true = bv
       rotate_left
       ·rw [if_neg hge] at hmd
        cases hmd
       rw [if_pos hge] at hmd
       have HE1 := zA.mk hge.1
       clear hge
       have PL1 := zA.mk (zP TD (redA TD p) nr)
       have PO1 := zA.mk (OD.out.yE (redA TD p) nr ND.out)
       have PK1 := zA.mk (yC TD (redA TD p) nr p true ND.out)
       obtain ⟨rp, hrp⟩ : ∃ rp, rp = redA TD p := ⟨_, rfl⟩
       rw [← hrp] at hmd PL1 PO1 PK1
       have HRP := zA.mk hrp.symm
       clear hrp
       go_upto_region 17 with (fail)
       go_region_with (first
        | (go_at_call 46; refine (yS (by first | exact WD.out.drew | exact (WD.out.alloc _).drew) p (by rw [LDT.out]; exact HP.out) rp HRP.out).mono ?_; rintro e wr ⟨rfl, rfl⟩)
        | (go_at_call 49; refine (qP WD.out rp nr (by have := HP.out; have := P0.out; have := LDT.out; omega) ND.out).mono ?_; rintro e wq ⟨rfl, hWq, hGq⟩; have WF1 := zA.mk hWq; have GF1 := zA.mk (GD.out.trans hGq); clear hWq hGq))
       all_goals
        generalize zQ TD rp nr = TF1 at WF1 PL1 PO1 PK1 hmd
        have PO2 := zA.mk ((PO1.out.yE false p (by rw [PL1.out, LDT.out]; exact HP.out)).yE false bv (by rw [zP, PL1.out]; exact BD.out))
        have PL2 := zA.mk (show (zQ (zQ TF1 false p) false bv).ns.length = TF1.ns.length by rw [zP, zP])
        have PK2 := zA.mk (show kidA (zQ (zQ TF1 false p) false bv) p true = kidA TF1 p true by rw [yC _ _ _ _ _ (by rw [zP, PL1.out]; exact BD.out), yC _ _ _ _ _ (by rw [PL1.out, LDT.out]; exact HP.out)])
        have HMD := zA.mk (Option.some.inj hmd)
        clear hmd
        go_upto_region 18 with (go_at_call 49; refine (jK WF1.out false p bv (by have := HP.out; have := P0.out; have := LDT.out; have := PL1.out; omega) (by rw [PL1.out, LDT.out]; exact HP.out) (by rw [PL1.out]; exact BD.out)).mono ?_; rintro e wq ⟨rfl, hWq, hGq⟩; have WF2 := zA.mk hWq; have GF2 := zA.mk (GF1.out.trans hGq); clear hWq hGq)
        generalize zQ (zQ TF1 false p) false bv = TF2 at WF2 PL2 PO2 PK2 HMD
        have HK8 := zA.mk (show 0 ≤ kidA TF2 p (!false) by show 0 ≤ kidA TF2 p true; rw [PK2.out, PK1.out, HE1.out]; exact N0.out)
        have HK9 := zA.mk (show p < (TF2.ns.length : Int) by rw [PL2.out, PL1.out, LDT.out]; exact HP.out)
        go_wp2_with (go_at_call 68; refine (qL WF2.out PO2.out p P0.out HK9.out false HK8.out 0 rfl).mono ?_; rintro e wq ⟨rfl, hWq, hGq⟩; have WF3 := zA.mk hWq; have GF3 := zA.mk (GF2.out.trans hGq); clear hWq hGq)
        refine bodyPost_ret (results_none rfl _ _ _) rfl ?_
        exact ⟨rfl, by rw [← HMD.out]; exact WF3.out, GF3.out⟩
      | true =>
       have HNR := zA.mk h1; have HFR := zA.mk h2
       rw [h1, h2, if_neg (by simp), if_neg (by simp)] at hmd
       clear h1 h2
       go_upto_region 16 with (first
        | (go_at_call 33; first | (with_reducible refine ((KI.out _ WB.out).1).mono ?_; rintro e wq ⟨rfl, rfl⟩) | (with_reducible refine ((KI.out _ WB.out).2).mono ?_; rintro e wq ⟨rfl, rfl⟩))
        | (go_at_call_of 46 (Value.int IntKind.i64 nr); refine (yS WB.out nr NN.out _ HNR.out).mono ?_; rintro e wq ⟨rfl, rfl⟩)
        | (go_at_call_of 46 (Value.int IntKind.i64 fr); refine (yS WB.out fr FN.out _ HFR.out).mono ?_; rintro e wq ⟨rfl, rfl⟩))
       rw [xQ, show (!false) = true from rfl] at hmd
       by_cases hge : kidA TB p true = bv ∧ kidA TB bv true = fr
       rotate_left
       ·rw [if_neg hge] at hmd
        cases hmd
       rw [if_pos hge] at hmd
       have HE1 := zA.mk hge.1
       clear hge
       have PL1 := zA.mk (zP TB (redA TB p) bv)
       have PO1 := zA.mk (OB.out.yE (redA TB p) bv BN.out)
       have PK1 := zA.mk (yC TB (redA TB p) bv p true BN.out)
       obtain ⟨rp, hrp⟩ : ∃ rp, rp = redA TB p := ⟨_, rfl⟩
       rw [← hrp] at hmd PL1 PO1 PK1
       have HRP := zA.mk hrp.symm
       clear hrp
       go_upto_region 17 with (fail)
       go_region_with (first
        | (go_at_call 46; refine (yS (by first | exact WB.out.drew | exact (WB.out.alloc _).drew) p (by rw [LB.out]; exact HP.out) rp HRP.out).mono ?_; rintro e wr ⟨rfl, rfl⟩)
        | (go_at_call 49; refine (qP WB.out rp bv (by have := HP.out; have := P0.out; have := LB.out; omega) BN.out).mono ?_; rintro e wq ⟨rfl, hWq, hGq⟩; have WF1 := zA.mk hWq; have GF1 := zA.mk (GB.out.trans hGq); clear hWq hGq))
       all_goals
        generalize zQ TB rp bv = TF1 at WF1 PL1 PO1 PK1 hmd
        have PO2 := zA.mk ((PO1.out.yE false p (by rw [PL1.out, LB.out]; exact HP.out)).yE false fr (by rw [zP, PL1.out]; exact FN.out))
        have PL2 := zA.mk (show (zQ (zQ TF1 false p) false fr).ns.length = TF1.ns.length by rw [zP, zP])
        have PK2 := zA.mk (show kidA (zQ (zQ TF1 false p) false fr) p true = kidA TF1 p true by rw [yC _ _ _ _ _ (by rw [zP, PL1.out]; exact FN.out), yC _ _ _ _ _ (by rw [PL1.out, LB.out]; exact HP.out)])
        have HMD := zA.mk (Option.some.inj hmd)
        clear hmd
        go_upto_region 18 with (go_at_call 49; refine (jK WF1.out false p fr (by have := HP.out; have := P0.out; have := LB.out; have := PL1.out; omega) (by rw [PL1.out, LB.out]; exact HP.out) (by rw [PL1.out]; exact FN.out)).mono ?_; rintro e wq ⟨rfl, hWq, hGq⟩; have WF2 := zA.mk hWq; have GF2 := zA.mk (GF1.out.trans hGq); clear hWq hGq)
        generalize zQ (zQ TF1 false p) false fr = TF2 at WF2 PL2 PO2 PK2 HMD
        have HK8 := zA.mk (show 0 ≤ kidA TF2 p (!false) by show 0 ≤ kidA TF2 p true; rw [PK2.out, PK1.out, HE1.out]; exact B0.out)
        have HK9 := zA.mk (show p < (TF2.ns.length : Int) by rw [PL2.out, PL1.out, LB.out]; exact HP.out)
        go_wp2_with (go_at_call 68; refine (qL WF2.out PO2.out p P0.out HK9.out false HK8.out 0 rfl).mono ?_; rintro e wq ⟨rfl, hWq, hGq⟩; have WF3 := zA.mk hWq; have GF3 := zA.mk (GF2.out.trans hGq); clear hWq hGq)
        refine bodyPost_ret (results_none rfl _ _ _) rfl ?_
        exact ⟨rfl, by rw [← HMD.out]; exact WF3.out, GF3.out⟩
  | true =>
   obtain rfl : z = 1 := HZ.out.symm
   obtain ⟨kd, hkd⟩ : ∃ q, q = kidA T p true := ⟨_, rfl⟩
   have HK := zA.mk hkd.symm
   have HKN := zA.mk (show kd < (T.ns.length : Int) by rw [hkd]; exact O0.out.kid _ _)
   rw [← hkd] at hmd
   clear hkd
   cases hrk : redA T kd with
   | true =>
    have HRK := zA.mk hrk
    rw [hrk, if_pos rfl] at hmd
    have HMD := zA.mk (Option.some.inj hmd)
    clear hrk hmd
    go_wp2
    (go_quiet (first
     | (go_at_call 33; exact Calls.quiet_of_same (qU (by first | exact W0.out | exact W0.out.drewN _) p P0.out HP.out true 1 rfl kd HK.out))
     | (go_at_call 46; exact Calls.quiet_of_same (yS (by first | exact W0.out | exact W0.out.drewN _) kd HKN.out _ HRK.out))))
    have W1 := zA.mk (W0.out.drewN nq)
    have G1 := zA.mk (G0.out.drewN nq)
    clear W0 G0
    generalize wr.drewN nq = wd at W1 G1 ⊢
    have hc1 := W1.out.c1
    go_wp2_with (first
     | (go_at_call 33; refine (qU W1.out p P0.out HP.out true 1 rfl kd HK.out).mono ?_; rintro e wq ⟨rfl, rfl⟩)
     | (go_at_call 49; refine (xL W1.out false kd (by have := P0.out; have := HP.out; omega) HKN.out).mono ?_; rintro e wq ⟨rfl, hWq, hGq⟩; have W2 := zA.mk hWq; have G2 := zA.mk (G1.out.trans hGq); clear hWq hGq))
    go_end0
    exact ⟨rfl, by rw [← HMD.out]; exact W2.out, G2.out⟩
   | false =>
    have HRK := zA.mk hrk
    rw [hrk, if_neg (by simp)] at hmd
    clear hrk
    obtain ⟨bb, hbb⟩ : ∃ q, q = kidA T p false := ⟨_, rfl⟩
    have HB := zA.mk hbb.symm
    have HBN := zA.mk (show bb < (T.ns.length : Int) by rw [hbb]; exact O0.out.kid _ _)
    simp only [Bool.not_true] at hmd
    rw [← hbb] at hmd
    clear hbb
    cases hrb : redA T bb with
    | true =>
     have HRB := zA.mk hrb
     rw [hrb, if_pos rfl] at hmd
     have BB0 := zA.mk (vY hrb)
     clear hrb
     have L2 := zA.mk (zP T false bb)
     have O3 := zA.mk ((O0.out.yE false bb HBN.out).yE true p (by rw [zP]; exact HP.out))
     have L3 := zA.mk (show (zQ (zQ T false bb) true p).ns.length = T.ns.length by rw [zP, zP])
     have K3 := zA.mk (show kidA (zQ (zQ T false bb) true p) p false = bb by rw [yC _ _ _ _ _ (by rw [zP]; exact HP.out), yC _ _ _ _ _ HBN.out]; exact HB.out)
     go_wp2
     (go_quiet (first
      | (go_at_call 33; exact Calls.quiet_of_same (qU (by first | exact W0.out | exact W0.out.drewN _) p P0.out HP.out true 1 rfl kd HK.out))
      | (go_at_call 46; exact Calls.quiet_of_same (yS (by first | exact W0.out | exact W0.out.drewN _) kd HKN.out _ HRK.out))))
     have W1 := zA.mk (W0.out.drewN nq)
     have G1 := zA.mk (G0.out.drewN nq)
     clear W0 G0
     generalize wr.drewN nq = wd at W1 G1 ⊢
     go_upto_region 4 with (first
      | (go_at_call 33; refine (qU W1.out p P0.out HP.out false 0 rfl bb HB.out).mono ?_; rintro e wq ⟨rfl, rfl⟩)
      | (go_at_call 46; refine (yS W1.out bb HBN.out _ HRB.out).mono ?_; rintro e wq ⟨rfl, rfl⟩)
      | (go_at_call 49; refine (xL W1.out false bb (by have := P0.out; have := HP.out; omega) HBN.out).mono ?_; rintro e wq ⟨rfl, hWq, hGq⟩; have W2 := zA.mk hWq; have G2 := zA.mk (G1.out.trans hGq); clear hWq hGq))
     go_upto_region 5 with (go_at_call 49; refine (xL W2.out true p (by rw [L2.out]; have := P0.out; have := HP.out; omega) (by rw [L2.out]; exact HP.out)).mono ?_; rintro e wq ⟨rfl, hWq, hGq⟩; have W3 := zA.mk hWq; have G3 := zA.mk (G2.out.trans hGq); clear hWq hGq)
     generalize zQ (zQ T false bb) true p = T3 at W3 O3 L3 K3 hmd
     have LB := zA.mk (show (yU T3 p true).ns.length = T.ns.length by rw [xM, L3.out])
     have OB := zA.mk (O3.out.turn p true (by rw [L3.out]; exact HP.out))
     go_upto_region 6 with (go_at_call 68; refine (qL W3.out O3.out p P0.out (by rw [L3.out]; exact HP.out) true (by show 0 ≤ kidA T3 p false; rw [K3.out]; exact BB0.out) 1 rfl).mono ?_; rintro e wq ⟨rfl, hWq, hGq⟩; have WB := zA.mk hWq; have GB := zA.mk (G3.out.trans hGq); clear hWq hGq)
     generalize yU T3 p true = TB at WB OB LB hmd
     obtain ⟨bv, hbv⟩ : ∃ q, q = kidA TB p false := ⟨_, rfl⟩
     have HBV := zA.mk hbv.symm
     have BN := zA.mk (show bv < (TB.ns.length : Int) by rw [hbv]; exact OB.out.kid _ _)
     rw [← hbv] at hmd
     clear hbv
     go_upto_region 7 with (go_at_call 33; refine (qU WB.out p P0.out (by rw [LB.out]; exact HP.out) false 0 rfl bv HBV.out).mono ?_; rintro e wq ⟨rfl, rfl⟩)
     rw [xR] at hmd
     by_cases hb0 : bv < 0
     ·rw [if_pos hb0] at hmd
      cases hmd
     rw [if_neg hb0] at hmd
     have B0 := zA.mk (show 0 ≤ bv by omega)
     clear hb0
     obtain ⟨nr, hnr⟩ : ∃ q, q = kidA TB bv true := ⟨_, rfl⟩
     obtain ⟨fr, hfr⟩ : ∃ q, q = kidA TB bv false := ⟨_, rfl⟩
     simp only [Bool.not_true] at hmd
     rw [← hnr, ← hfr] at hmd
     have NE := zA.mk hnr.symm
     have FE := zA.mk hfr.symm
     have NN := zA.mk (show nr < (TB.ns.length : Int) by rw [hnr]; exact OB.out.kid _ _)
     have FN := zA.mk (show fr < (TB.ns.length : Int) by rw [hfr]; exact OB.out.kid _ _)
     clear hnr hfr
     have KIDS := fun (w2 : World) (hw : Wk A c w2 g b TB) => And.intro (qU hw bv B0.out BN.out true 1 rfl nr NE.out) (qU hw bv B0.out BN.out false 0 rfl fr FE.out)
     have KI := zA.mk KIDS; clear KIDS
     cases h1 : redA TB nr with
     | false =>
      cases h2 : redA TB fr with
      | false =>
       have HNR := zA.mk h1; have HFR := zA.mk h2
       rw [h1, h2, if_pos ⟨rfl, rfl⟩] at hmd
       have HMD := zA.mk hmd; clear h1 h2 hmd
       go_upto_region 10 with (first
        | (go_at_call 33; first | (with_reducible refine ((KI.out _ WB.out).1).mono ?_; rintro e wq ⟨rfl, rfl⟩) | (with_reducible refine ((KI.out _ WB.out).2).mono ?_; rintro e wq ⟨rfl, rfl⟩))
        | (go_at_call_of 46 (Value.int IntKind.i64 nr); refine (yS WB.out nr NN.out _ HNR.out).mono ?_; rintro e wq ⟨rfl, rfl⟩)
        | (go_at_call_of 46 (Value.int IntKind.i64 fr); refine (yS WB.out fr FN.out _ HFR.out).mono ?_; rintro e wq ⟨rfl, rfl⟩)
        | (go_at_call 49; refine (xL WB.out true bv (by have := B0.out; have := BN.out; omega) BN.out).mono ?_; rintro e wq ⟨rfl, hWq, hGq⟩; have W9 := zA.mk hWq; have G9 := zA.mk (GB.out.trans hGq); clear hWq hGq))
       have O9 := zA.mk (OB.out.yE true bv BN.out)
       have L9 := zA.mk (zP TB true bv)
       generalize zQ TB true bv = T9 at W9 O9 L9 HMD
       go_wp2_with (first
        | (go_at_call 47; refine (up_v W9.out p P0.out (by rw [L9.out, LB.out]; exact HP.out) _ rfl).mono ?_; rintro e wq ⟨rfl, rfl⟩)
        | (go_at_call 44; refine (on_v W9.out O9.out p P0.out (by rw [L9.out, LB.out]; exact HP.out) _ rfl).mono ?_; rintro e wq ⟨rfl, rfl⟩))
       have hq : FRel A c g b w t.ns.length t' (Value.int IntKind.i64 (upA T9 p)) (Value.int IntKind.i64 (sd (onA T9 p))) _ m := ⟨T9, upA T9 p, onA T9 p, rfl, rfl, W9.out, O9.out, O9.out.up p, by rw [L9.out, LB.out]; exact HN.out, HMD.out, G9.out⟩
       refine ⟨⟨m, hq⟩, ?_⟩
       have h3 := (xE ⟨m, hq⟩).2 m hq
       exact Nat.lt_of_le_of_lt h3 (by rw [hlk]; omega)
      | true =>
       have HNR := zA.mk h1; have HFR := zA.mk h2
       rw [h1, h2, if_neg (by simp), if_neg (by simp)] at hmd
       clear h1 h2
       go_upto_region 16 with (first
        | (go_at_call 33; first | (with_reducible refine ((KI.out _ WB.out).1).mono ?_; rintro e wq ⟨rfl, rfl⟩) | (with_reducible refine ((KI.out _ WB.out).2).mono ?_; rintro e wq ⟨rfl, rfl⟩))
        | (go_at_call_of 46 (Value.int IntKind.i64 nr); refine (yS WB.out nr NN.out _ HNR.out).mono ?_; rintro e wq ⟨rfl, rfl⟩)
        | (go_at_call_of 46 (Value.int IntKind.i64 fr); refine (yS WB.out fr FN.out _ HFR.out).mono ?_; rintro e wq ⟨rfl, rfl⟩))
       rw [xQ, show (!true) = false from rfl] at hmd
       by_cases hge : kidA TB p false = bv ∧ kidA TB bv false = fr
       rotate_left
       ·rw [if_neg hge] at hmd
        cases hmd
       rw [if_pos hge] at hmd
       have HE1 := zA.mk hge.1
       clear hge
       have PL1 := zA.mk (zP TB (redA TB p) bv)
       have PO1 := zA.mk (OB.out.yE (redA TB p) bv BN.out)
       have PK1 := zA.mk (yC TB (redA TB p) bv p false BN.out)
       obtain ⟨rp, hrp⟩ : ∃ rp, rp = redA TB p := ⟨_, rfl⟩
       rw [← hrp] at hmd PL1 PO1 PK1
       have HRP := zA.mk hrp.symm
       clear hrp
       go_upto_region 17 with (fail)
       go_region_with (first
        | (go_at_call 46; refine (yS (by first | exact WB.out.drew | exact (WB.out.alloc _).drew) p (by rw [LB.out]; exact HP.out) rp HRP.out).mono ?_; rintro e wr ⟨rfl, rfl⟩)
        | (go_at_call 49; refine (qP WB.out rp bv (by have := HP.out; have := P0.out; have := LB.out; omega) BN.out).mono ?_; rintro e wq ⟨rfl, hWq, hGq⟩; have WF1 := zA.mk hWq; have GF1 := zA.mk (GB.out.trans hGq); clear hWq hGq))
       all_goals
        generalize zQ TB rp bv = TF1 at WF1 PL1 PO1 PK1 hmd
        have PO2 := zA.mk ((PO1.out.yE false p (by rw [PL1.out, LB.out]; exact HP.out)).yE false fr (by rw [zP, PL1.out]; exact FN.out))
        have PL2 := zA.mk (show (zQ (zQ TF1 false p) false fr).ns.length = TF1.ns.length by rw [zP, zP])
        have PK2 := zA.mk (show kidA (zQ (zQ TF1 false p) false fr) p false = kidA TF1 p false by rw [yC _ _ _ _ _ (by rw [zP, PL1.out]; exact FN.out), yC _ _ _ _ _ (by rw [PL1.out, LB.out]; exact HP.out)])
        have HMD := zA.mk (Option.some.inj hmd)
        clear hmd
        go_upto_region 18 with (go_at_call 49; refine (jK WF1.out false p fr (by have := HP.out; have := P0.out; have := LB.out; have := PL1.out; omega) (by rw [PL1.out, LB.out]; exact HP.out) (by rw [PL1.out]; exact FN.out)).mono ?_; rintro e wq ⟨rfl, hWq, hGq⟩; have WF2 := zA.mk hWq; have GF2 := zA.mk (GF1.out.trans hGq); clear hWq hGq)
        generalize zQ (zQ TF1 false p) false fr = TF2 at WF2 PL2 PO2 PK2 HMD
        have HK8 := zA.mk (show 0 ≤ kidA TF2 p (!true) by show 0 ≤ kidA TF2 p false; rw [PK2.out, PK1.out, HE1.out]; exact B0.out)
        have HK9 := zA.mk (show p < (TF2.ns.length : Int) by rw [PL2.out, PL1.out, LB.out]; exact HP.out)
        go_wp2_with (go_at_call 68; refine (qL WF2.out PO2.out p P0.out HK9.out true HK8.out 1 rfl).mono ?_; rintro e wq ⟨rfl, hWq, hGq⟩; have WF3 := zA.mk hWq; have GF3 := zA.mk (GF2.out.trans hGq); clear hWq hGq)
        refine bodyPost_ret (results_none rfl _ _ _) rfl ?_
        exact ⟨rfl, by rw [← HMD.out]; exact WF3.out, GF3.out⟩
     | true =>
      cases h2 : redA TB fr with
      | false =>
       have HNR := zA.mk h1; have HFR := zA.mk h2
       rw [h1, h2, if_neg (by simp), if_pos rfl] at hmd
       have N0 := zA.mk (vY h1)
       clear h1 h2
       have LC := zA.mk (show (zQ (zQ TB false nr) true bv).ns.length = TB.ns.length by rw [zP, zP])
       have OC := zA.mk ((OB.out.yE false nr NN.out).yE true bv (by rw [zP]; exact BN.out))
       have KC := zA.mk (show kidA (zQ (zQ TB false nr) true bv) bv true = nr by rw [yC _ _ _ _ _ (by rw [zP]; exact BN.out), yC _ _ _ _ _ NN.out]; exact NE.out)
       have L1 := zA.mk (zP TB false nr)
       go_upto_region 13 with (first
        | (go_at_call 33; first | (with_reducible refine ((KI.out _ WB.out).1).mono ?_; rintro e wq ⟨rfl, rfl⟩) | (with_reducible refine ((KI.out _ WB.out).2).mono ?_; rintro e wq ⟨rfl, rfl⟩))
        | (go_at_call_of 46 (Value.int IntKind.i64 nr); refine (yS WB.out nr NN.out _ HNR.out).mono ?_; rintro e wq ⟨rfl, rfl⟩)
        | (go_at_call_of 46 (Value.int IntKind.i64 fr); refine (yS WB.out fr FN.out _ HFR.out).mono ?_; rintro e wq ⟨rfl, rfl⟩)
        | (go_at_call 49; refine (xL WB.out false nr (by have := B0.out; have := BN.out; omega) NN.out).mono ?_; rintro e wq ⟨rfl, hWq, hGq⟩; have W7 := zA.mk hWq; have G7 := zA.mk (GB.out.trans hGq); clear hWq hGq))
       go_upto_region 14 with (go_at_call 49; refine (xL W7.out true bv (by rw [L1.out]; have := B0.out; have := BN.out; omega) (by rw [L1.out]; exact BN.out)).mono ?_; rintro e wq ⟨rfl, hWq, hGq⟩; have W8 := zA.mk hWq; have G8 := zA.mk (G7.out.trans hGq); clear hWq hGq)
       generalize zQ (zQ TB false nr) true bv = TC at W8 LC OC KC hmd
       have LD := zA.mk (show (yU TC bv false).ns.length = t.ns.length by rw [xM, LC.out, LB.out, HN.out])
       have OD := zA.mk (OC.out.turn bv false (by rw [LC.out]; exact BN.out))
       go_upto_region 16 with (go_at_call 68; refine (qL W8.out OC.out bv B0.out (by rw [LC.out]; exact BN.out) false (by show 0 ≤ kidA TC bv true; rw [KC.out]; exact N0.out) 0 rfl).mono ?_; rintro e wq ⟨rfl, hWq, hGq⟩; have WD := zA.mk hWq; have GD := zA.mk (G8.out.trans hGq); clear hWq hGq)
       generalize yU TC bv false = TD at WD LD OD hmd
       have LDT := zA.mk (show TD.ns.length = T.ns.length by rw [LD.out, HN.out])
       have BD := zA.mk (show bv < (TD.ns.length : Int) by rw [LDT.out, ← LB.out]; exact BN.out)
       have ND := zA.mk (show nr < (TD.ns.length : Int) by rw [LDT.out, ← LB.out]; exact NN.out)
       rw [xQ, show (!true) = false from rfl] at hmd
       by_cases hge : kidA TD p false = nr ∧ kidA TD nr false = bv
       rotate_left
       ·rw [if_neg hge] at hmd
        cases hmd
       rw [if_pos hge] at hmd
       have HE1 := zA.mk hge.1
       clear hge
       have PL1 := zA.mk (zP TD (redA TD p) nr)
       have PO1 := zA.mk (OD.out.yE (redA TD p) nr ND.out)
       have PK1 := zA.mk (yC TD (redA TD p) nr p false ND.out)
       obtain ⟨rp, hrp⟩ : ∃ rp, rp = redA TD p := ⟨_, rfl⟩
       rw [← hrp] at hmd PL1 PO1 PK1
       have HRP := zA.mk hrp.symm
       clear hrp
       go_upto_region 17 with (fail)
       go_region_with (first
        | (go_at_call 46; refine (yS (by first | exact WD.out.drew | exact (WD.out.alloc _).drew) p (by rw [LDT.out]; exact HP.out) rp HRP.out).mono ?_; rintro e wr ⟨rfl, rfl⟩)
        | (go_at_call 49; refine (qP WD.out rp nr (by have := HP.out; have := P0.out; have := LDT.out; omega) ND.out).mono ?_; rintro e wq ⟨rfl, hWq, hGq⟩; have WF1 := zA.mk hWq; have GF1 := zA.mk (GD.out.trans hGq); clear hWq hGq))
       all_goals
        generalize zQ TD rp nr = TF1 at WF1 PL1 PO1 PK1 hmd
        have PO2 := zA.mk ((PO1.out.yE false p (by rw [PL1.out, LDT.out]; exact HP.out)).yE false bv (by rw [zP, PL1.out]; exact BD.out))
        have PL2 := zA.mk (show (zQ (zQ TF1 false p) false bv).ns.length = TF1.ns.length by rw [zP, zP])
        have PK2 := zA.mk (show kidA (zQ (zQ TF1 false p) false bv) p false = kidA TF1 p false by rw [yC _ _ _ _ _ (by rw [zP, PL1.out]; exact BD.out), yC _ _ _ _ _ (by rw [PL1.out, LDT.out]; exact HP.out)])
        have HMD := zA.mk (Option.some.inj hmd)
        clear hmd
        go_upto_region 18 with (go_at_call 49; refine (jK WF1.out false p bv (by have := HP.out; have := P0.out; have := LDT.out; have := PL1.out; omega) (by rw [PL1.out, LDT.out]; exact HP.out) (by rw [PL1.out]; exact BD.out)).mono ?_; rintro e wq ⟨rfl, hWq, hGq⟩; have WF2 := zA.mk hWq; have GF2 := zA.mk (GF1.out.trans hGq); clear hWq hGq)
        generalize zQ (zQ TF1 false p) false bv = TF2 at WF2 PL2 PO2 PK2 HMD
        have HK8 := zA.mk (show 0 ≤ kidA TF2 p (!true) by show 0 ≤ kidA TF2 p false; rw [PK2.out, PK1.out, HE1.out]; exact N0.out)
        have HK9 := zA.mk (show p < (TF2.ns.length : Int) by rw [PL2.out, PL1.out, LDT.out]; exact HP.out)
        go_wp2_with (go_at_call 68; refine (qL WF2.out PO2.out p P0.out HK9.out true HK8.out 1 rfl).mono ?_; rintro e wq ⟨rfl, hWq, hGq⟩; have WF3 := zA.mk hWq; have GF3 := zA.mk (GF2.out.trans hGq); clear hWq hGq)
        refine bodyPost_ret (results_none rfl _ _ _) rfl ?_
        exact ⟨rfl, by rw [← HMD.out]; exact WF3.out, GF3.out⟩
      | true =>
       have HNR := zA.mk h1; have HFR := zA.mk h2
       rw [h1, h2, if_neg (by simp), if_neg (by simp)] at hmd
       clear h1 h2
       go_upto_region 16 with (first
        | (go_at_call 33; first | (with_reducible refine ((KI.out _ WB.out).1).mono ?_; rintro e wq ⟨rfl, rfl⟩) | (with_reducible refine ((KI.out _ WB.out).2).mono ?_; rintro e wq ⟨rfl, rfl⟩))
        | (go_at_call_of 46 (Value.int IntKind.i64 nr); refine (yS WB.out nr NN.out _ HNR.out).mono ?_; rintro e wq ⟨rfl, rfl⟩)
        | (go_at_call_of 46 (Value.int IntKind.i64 fr); refine (yS WB.out fr FN.out _ HFR.out).mono ?_; rintro e wq ⟨rfl, rfl⟩))
       rw [xQ, show (!true) = false from rfl] at hmd
       by_cases hge : kidA TB p false = bv ∧ kidA TB bv false = fr
       rotate_left
       ·rw [if_neg hge] at hmd
        cases hmd
       rw [if_pos hge] at hmd
       have HE1 := zA.mk hge.1
       clear hge
       have PL1 := zA.mk (zP TB (redA TB p) bv)
       have PO1 := zA.mk (OB.out.yE (redA TB p) bv BN.out)
       have PK1 := zA.mk (yC TB (redA TB p) bv p false BN.out)
       obtain ⟨rp, hrp⟩ : ∃ rp, rp = redA TB p := ⟨_, rfl⟩
       rw [← hrp] at hmd PL1 PO1 PK1
       have HRP := zA.mk hrp.symm
       clear hrp
       go_upto_region 17 with (fail)
       go_region_with (first
        | (go_at_call 46; refine (yS (by first | exact WB.out.drew | exact (WB.out.alloc _).drew) p (by rw [LB.out]; exact HP.out) rp HRP.out).mono ?_; rintro e wr ⟨rfl, rfl⟩)
        | (go_at_call 49; refine (qP WB.out rp bv (by have := HP.out; have := P0.out; have := LB.out; omega) BN.out).mono ?_; rintro e wq ⟨rfl, hWq, hGq⟩; have WF1 := zA.mk hWq; have GF1 := zA.mk (GB.out.trans hGq); clear hWq hGq))
       all_goals
        generalize zQ TB rp bv = TF1 at WF1 PL1 PO1 PK1 hmd
        have PO2 := zA.mk ((PO1.out.yE false p (by rw [PL1.out, LB.out]; exact HP.out)).yE false fr (by rw [zP, PL1.out]; exact FN.out))
        have PL2 := zA.mk (show (zQ (zQ TF1 false p) false fr).ns.length = TF1.ns.length by rw [zP, zP])
        have PK2 := zA.mk (show kidA (zQ (zQ TF1 false p) false fr) p false = kidA TF1 p false by rw [yC _ _ _ _ _ (by rw [zP, PL1.out]; exact FN.out), yC _ _ _ _ _ (by rw [PL1.out, LB.out]; exact HP.out)])
        have HMD := zA.mk (Option.some.inj hmd)
        clear hmd
        go_upto_region 18 with (go_at_call 49; refine (jK WF1.out false p fr (by have := HP.out; have := P0.out; have := LB.out; have := PL1.out; omega) (by rw [PL1.out, LB.out]; exact HP.out) (by rw [PL1.out]; exact FN.out)).mono ?_; rintro e wq ⟨rfl, hWq, hGq⟩; have WF2 := zA.mk hWq; have GF2 := zA.mk (GF1.out.trans hGq); clear hWq hGq)
        generalize zQ (zQ TF1 false p) false fr = TF2 at WF2 PL2 PO2 PK2 HMD
        have HK8 := zA.mk (show 0 ≤ kidA TF2 p (!true) by show 0 ≤ kidA TF2 p false; rw [PK2.out, PK1.out, HE1.out]; exact B0.out)
        have HK9 := zA.mk (show p < (TF2.ns.length : Int) by rw [PL2.out, PL1.out, LB.out]; exact HP.out)
        go_wp2_with (go_at_call 68; refine (qL WF2.out PO2.out p P0.out HK9.out true HK8.out 1 rfl).mono ?_; rintro e wq ⟨rfl, hWq, hGq⟩; have WF3 := zA.mk hWq; have GF3 := zA.mk (GF2.out.trans hGq); clear hWq hGq)
        refine bodyPost_ret (results_none rfl _ _ _) rfl ?_
        exact ⟨rfl, by rw [← HMD.out]; exact WF3.out, GF3.out⟩
    | false =>
     have HRB := zA.mk hrb
     rw [hrb, if_neg (by simp)] at hmd
     clear hrb
     go_wp2
     (go_quiet (first
      | (go_at_call 33; exact Calls.quiet_of_same (qU (by first | exact W0.out | exact W0.out.drewN _) p P0.out HP.out true 1 rfl kd HK.out))
      | (go_at_call 46; exact Calls.quiet_of_same (yS (by first | exact W0.out | exact W0.out.drewN _) kd HKN.out _ HRK.out))))
     have W1 := zA.mk (W0.out.drewN nq)
     have G1 := zA.mk (G0.out.drewN nq)
     clear W0 G0
     generalize wr.drewN nq = wd at W1 G1 ⊢
     go_upto_region 7 with (first
      | (go_at_call 33; refine (qU W1.out p P0.out HP.out false 0 rfl bb HB.out).mono ?_; rintro e wq ⟨rfl, rfl⟩)
      | (go_at_call 46; refine (yS W1.out bb HBN.out _ HRB.out).mono ?_; rintro e wq ⟨rfl, rfl⟩))
     have WB := W1; have GB := G1; have OB := O0; have BN := HBN; clear W1 G1
     generalize hTB : T = TB at WB OB BN hmd
     have LB := zA.mk (show TB.ns.length = T.ns.length by rw [hTB])
     clear hTB
     generalize hbv : bb = bv at BN hmd ⊢
     rw [xR] at hmd
     by_cases hb0 : bv < 0
     ·rw [if_pos hb0] at hmd
      cases hmd
     rw [if_neg hb0] at hmd
     have B0 := zA.mk (show 0 ≤ bv by omega)
     clear hb0
     obtain ⟨nr, hnr⟩ : ∃ q, q = kidA TB bv true := ⟨_, rfl⟩
     obtain ⟨fr, hfr⟩ : ∃ q, q = kidA TB bv false := ⟨_, rfl⟩
     simp only [Bool.not_true] at hmd
     rw [← hnr, ← hfr] at hmd
     have NE := zA.mk hnr.symm
     have FE := zA.mk hfr.symm
     have NN := zA.mk (show nr < (TB.ns.length : Int) by rw [hnr]; exact OB.out.kid _ _)
     have FN := zA.mk (show fr < (TB.ns.length : Int) by rw [hfr]; exact OB.out.kid _ _)
     clear hnr hfr
     have KIDS := fun (w2 : World) (hw : Wk A c w2 g b TB) => And.intro (qU hw bv B0.out BN.out true 1 rfl nr NE.out) (qU hw bv B0.out BN.out false 0 rfl fr FE.out)
     have KI := zA.mk KIDS; clear KIDS
     cases h1 : redA TB nr with
     | false =>
      cases h2 : redA TB fr with
      | false =>
       have HNR := zA.mk h1; have HFR := zA.mk h2
       rw [h1, h2, if_pos ⟨rfl, rfl⟩] at hmd
       have HMD := zA.mk hmd; clear h1 h2 hmd
       go_upto_region 10 with (first
        | (go_at_call 33; first | (with_reducible refine ((KI.out _ WB.out).1).mono ?_; rintro e wq ⟨rfl, rfl⟩) | (with_reducible refine ((KI.out _ WB.out).2).mono ?_; rintro e wq ⟨rfl, rfl⟩))
        | (go_at_call_of 46 (Value.int IntKind.i64 nr); refine (yS WB.out nr NN.out _ HNR.out).mono ?_; rintro e wq ⟨rfl, rfl⟩)
        | (go_at_call_of 46 (Value.int IntKind.i64 fr); refine (yS WB.out fr FN.out _ HFR.out).mono ?_; rintro e wq ⟨rfl, rfl⟩)
        | (go_at_call 49; refine (xL WB.out true bv (by have := B0.out; have := BN.out; omega) BN.out).mono ?_; rintro e wq ⟨rfl, hWq, hGq⟩; have W9 := zA.mk hWq; have G9 := zA.mk (GB.out.trans hGq); clear hWq hGq))
       have O9 := zA.mk (OB.out.yE true bv BN.out)
       have L9 := zA.mk (zP TB true bv)
       generalize zQ TB true bv = T9 at W9 O9 L9 HMD
       go_wp2_with (first
        | (go_at_call 47; refine (up_v W9.out p P0.out (by rw [L9.out, LB.out]; exact HP.out) _ rfl).mono ?_; rintro e wq ⟨rfl, rfl⟩)
        | (go_at_call 44; refine (on_v W9.out O9.out p P0.out (by rw [L9.out, LB.out]; exact HP.out) _ rfl).mono ?_; rintro e wq ⟨rfl, rfl⟩))
       have hq : FRel A c g b w t.ns.length t' (Value.int IntKind.i64 (upA T9 p)) (Value.int IntKind.i64 (sd (onA T9 p))) _ m := ⟨T9, upA T9 p, onA T9 p, rfl, rfl, W9.out, O9.out, O9.out.up p, by rw [L9.out, LB.out]; exact HN.out, HMD.out, G9.out⟩
       refine ⟨⟨m, hq⟩, ?_⟩
       have h3 := (xE ⟨m, hq⟩).2 m hq
       exact Nat.lt_of_le_of_lt h3 (by rw [hlk]; omega)
      | true =>
       have HNR := zA.mk h1; have HFR := zA.mk h2
       rw [h1, h2, if_neg (by simp), if_neg (by simp)] at hmd
       clear h1 h2
       go_upto_region 16 with (first
        | (go_at_call 33; first | (with_reducible refine ((KI.out _ WB.out).1).mono ?_; rintro e wq ⟨rfl, rfl⟩) | (with_reducible refine ((KI.out _ WB.out).2).mono ?_; rintro e wq ⟨rfl, rfl⟩))
        | (go_at_call_of 46 (Value.int IntKind.i64 nr); refine (yS WB.out nr NN.out _ HNR.out).mono ?_; rintro e wq ⟨rfl, rfl⟩)
        | (go_at_call_of 46 (Value.int IntKind.i64 fr); refine (yS WB.out fr FN.out _ HFR.out).mono ?_; rintro e wq ⟨rfl, rfl⟩))
       rw [xQ, show (!true) = false from rfl] at hmd
       by_cases hge : kidA TB p false = bv ∧ kidA TB bv false = fr
       rotate_left
       ·rw [if_neg hge] at hmd
        cases hmd
       rw [if_pos hge] at hmd
       have HE1 := zA.mk hge.1
       clear hge
       have PL1 := zA.mk (zP TB (redA TB p) bv)
       have PO1 := zA.mk (OB.out.yE (redA TB p) bv BN.out)
       have PK1 := zA.mk (yC TB (redA TB p) bv p false BN.out)
       obtain ⟨rp, hrp⟩ : ∃ rp, rp = redA TB p := ⟨_, rfl⟩
       rw [← hrp] at hmd PL1 PO1 PK1
       have HRP := zA.mk hrp.symm
       clear hrp
       go_upto_region 17 with (fail)
       go_region_with (first
        | (go_at_call 46; refine (yS (by first | exact WB.out.drew | exact (WB.out.alloc _).drew) p (by rw [LB.out]; exact HP.out) rp HRP.out).mono ?_; rintro e wr ⟨rfl, rfl⟩)
        | (go_at_call 49; refine (qP WB.out rp bv (by have := HP.out; have := P0.out; have := LB.out; omega) BN.out).mono ?_; rintro e wq ⟨rfl, hWq, hGq⟩; have WF1 := zA.mk hWq; have GF1 := zA.mk (GB.out.trans hGq); clear hWq hGq))
       all_goals
        generalize zQ TB rp bv = TF1 at WF1 PL1 PO1 PK1 hmd
        have PO2 := zA.mk ((PO1.out.yE false p (by rw [PL1.out, LB.out]; exact HP.out)).yE false fr (by rw [zP, PL1.out]; exact FN.out))
        have PL2 := zA.mk (show (zQ (zQ TF1 false p) false fr).ns.length = TF1.ns.length by rw [zP, zP])
        have PK2 := zA.mk (show kidA (zQ (zQ TF1 false p) false fr) p false = kidA TF1 p false by rw [yC _ _ _ _ _ (by rw [zP, PL1.out]; exact FN.out), yC _ _ _ _ _ (by rw [PL1.out, LB.out]; exact HP.out)])
        have HMD := zA.mk (Option.some.inj hmd)
        clear hmd
        go_upto_region 18 with (go_at_call 49; refine (jK WF1.out false p fr (by have := HP.out; have := P0.out; have := LB.out; have := PL1.out; omega) (by rw [PL1.out, LB.out]; exact HP.out) (by rw [PL1.out]; exact FN.out)).mono ?_; rintro e wq ⟨rfl, hWq, hGq⟩; have WF2 := zA.mk hWq; have GF2 := zA.mk (GF1.out.trans hGq); clear hWq hGq)
        generalize zQ (zQ TF1 false p) false fr = TF2 at WF2 PL2 PO2 PK2 HMD
        have HK8 := zA.mk (show 0 ≤ kidA TF2 p (!true) by show 0 ≤ kidA TF2 p false; rw [PK2.out, PK1.out, HE1.out]; exact B0.out)
        have HK9 := zA.mk (show p < (TF2.ns.length : Int) by rw [PL2.out, PL1.out, LB.out]; exact HP.out)
        go_wp2_with (go_at_call 68; refine (qL WF2.out PO2.out p P0.out HK9.out true HK8.out 1 rfl).mono ?_; rintro e wq ⟨rfl, hWq, hGq⟩; have WF3 := zA.mk hWq; have GF3 := zA.mk (GF2.out.trans hGq); clear hWq hGq)
        refine bodyPost_ret (results_none rfl _ _ _) rfl ?_
        exact ⟨rfl, by rw [← HMD.out]; exact WF3.out, GF3.out⟩
     | true =>
      cases h2 : redA TB fr with
      | false =>
       have HNR := zA.mk h1; have HFR := zA.mk h2
       rw [h1, h2, if_neg (by simp), if_pos rfl] at hmd
       have N0 := zA.mk (vY h1)
       clear h1 h2
       have LC := zA.mk (show (zQ (zQ TB false nr) true bv).ns.length = TB.ns.length by rw [zP, zP])
       have OC := zA.mk ((OB.out.yE false nr NN.out).yE true bv (by rw [zP]; exact BN.out))
       have KC := zA.mk (show kidA (zQ (zQ TB false nr) true bv) bv true = nr by rw [yC _ _ _ _ _ (by rw [zP]; exact BN.out), yC _ _ _ _ _ NN.out]; exact NE.out)
       have L1 := zA.mk (zP TB false nr)
       go_upto_region 13 with (first
        | (go_at_call 33; first | (with_reducible refine ((KI.out _ WB.out).1).mono ?_; rintro e wq ⟨rfl, rfl⟩) | (with_reducible refine ((KI.out _ WB.out).2).mono ?_; rintro e wq ⟨rfl, rfl⟩))
        | (go_at_call_of 46 (Value.int IntKind.i64 nr); refine (yS WB.out nr NN.out _ HNR.out).mono ?_; rintro e wq ⟨rfl, rfl⟩)
        | (go_at_call_of 46 (Value.int IntKind.i64 fr); refine (yS WB.out fr FN.out _ HFR.out).mono ?_; rintro e wq ⟨rfl, rfl⟩)
        | (go_at_call 49; refine (xL WB.out false nr (by have := B0.out; have := BN.out; omega) NN.out).mono ?_; rintro e wq ⟨rfl, hWq, hGq⟩; have W7 := zA.mk hWq; have G7 := zA.mk (GB.out.trans hGq); clear hWq hGq))
       go_upto_region 14 with (go_at_call 49; refine (xL W7.out true bv (by rw [L1.out]; have := B0.out; have := BN.out; omega) (by rw [L1.out]; exact BN.out)).mono ?_; rintro e wq ⟨rfl, hWq, hGq⟩; have W8 := zA.mk hWq; have G8 := zA.mk (G7.out.trans hGq); clear hWq hGq)
       generalize zQ (zQ TB false nr) true bv = TC at W8 LC OC KC hmd
       have LD := zA.mk (show (yU TC bv false).ns.length = t.ns.length by rw [xM, LC.out, LB.out, HN.out])
       have OD := zA.mk (OC.out.turn bv false (by rw [LC.out]; exact BN.out))
       go_upto_region 16 with (go_at_call 68; refine (qL W8.out OC.out bv B0.out (by rw [LC.out]; exact BN.out) false (by show 0 ≤ kidA TC bv true; rw [KC.out]; exact N0.out) 0 rfl).mono ?_; rintro e wq ⟨rfl, hWq, hGq⟩; have WD := zA.mk hWq; have GD := zA.mk (G8.out.trans hGq); clear hWq hGq)
       generalize yU TC bv false = TD at WD LD OD hmd
       have LDT := zA.mk (show TD.ns.length = T.ns.length by rw [LD.out, HN.out])
       have BD := zA.mk (show bv < (TD.ns.length : Int) by rw [LDT.out, ← LB.out]; exact BN.out)
       have ND := zA.mk (show nr < (TD.ns.length : Int) by rw [LDT.out, ← LB.out]; exact NN.out)
       rw [xQ, show (!true) = false from rfl] at hmd
       by_cases hge : kidA TD p false = nr ∧ kidA TD nr false = bv
       rotate_left
       ·rw [if_neg hge] at hmd
        cases hmd
       rw [if_pos hge] at hmd
       have HE1 := zA.mk hge.1
       clear hge
       have PL1 := zA.mk (zP TD (redA TD p) nr)
       have PO1 := zA.mk (OD.out.yE (redA TD p) nr ND.out)
       have PK1 := zA.mk (yC TD (redA TD p) nr p false ND.out)
       obtain ⟨rp, hrp⟩ : ∃ rp, rp = redA TD p := ⟨_, rfl⟩
       rw [← hrp] at hmd PL1 PO1 PK1
       have HRP := zA.mk hrp.symm
       clear hrp
       go_upto_region 17 with (fail)
       go_region_with (first
        | (go_at_call 46; refine (yS (by first | exact WD.out.drew | exact (WD.out.alloc _).drew) p (by rw [LDT.out]; exact HP.out) rp HRP.out).mono ?_; rintro e wr ⟨rfl, rfl⟩)
        | (go_at_call 49; refine (qP WD.out rp nr (by have := HP.out; have := P0.out; have := LDT.out; omega) ND.out).mono ?_; rintro e wq ⟨rfl, hWq, hGq⟩; have WF1 := zA.mk hWq; have GF1 := zA.mk (GD.out.trans hGq); clear hWq hGq))
       all_goals
        generalize zQ TD rp nr = TF1 at WF1 PL1 PO1 PK1 hmd
        have PO2 := zA.mk ((PO1.out.yE false p (by rw [PL1.out, LDT.out]; exact HP.out)).yE false bv (by rw [zP, PL1.out]; exact BD.out))
        have PL2 := zA.mk (show (zQ (zQ TF1 false p) false bv).ns.length = TF1.ns.length by rw [zP, zP])
        have PK2 := zA.mk (show kidA (zQ (zQ TF1 false p) false bv) p false = kidA TF1 p false by rw [yC _ _ _ _ _ (by rw [zP, PL1.out]; exact BD.out), yC _ _ _ _ _ (by rw [PL1.out, LDT.out]; exact HP.out)])
        have HMD := zA.mk (Option.some.inj hmd)
        clear hmd
        go_upto_region 18 with (go_at_call 49; refine (jK WF1.out false p bv (by have := HP.out; have := P0.out; have := LDT.out; have := PL1.out; omega) (by rw [PL1.out, LDT.out]; exact HP.out) (by rw [PL1.out]; exact BD.out)).mono ?_; rintro e wq ⟨rfl, hWq, hGq⟩; have WF2 := zA.mk hWq; have GF2 := zA.mk (GF1.out.trans hGq); clear hWq hGq)
        generalize zQ (zQ TF1 false p) false bv = TF2 at WF2 PL2 PO2 PK2 HMD
        have HK8 := zA.mk (show 0 ≤ kidA TF2 p (!true) by show 0 ≤ kidA TF2 p false; rw [PK2.out, PK1.out, HE1.out]; exact N0.out)
        have HK9 := zA.mk (show p < (TF2.ns.length : Int) by rw [PL2.out, PL1.out, LDT.out]; exact HP.out)
        go_wp2_with (go_at_call 68; refine (qL WF2.out PO2.out p P0.out HK9.out true HK8.out 1 rfl).mono ?_; rintro e wq ⟨rfl, hWq, hGq⟩; have WF3 := zA.mk hWq; have GF3 := zA.mk (GF2.out.trans hGq); clear hWq hGq)
        refine bodyPost_ret (results_none rfl _ _ _) rfl ?_
        exact ⟨rfl, by rw [← HMD.out]; exact WF3.out, GF3.out⟩
      | true =>
       have HNR := zA.mk h1; have HFR := zA.mk h2
       rw [h1, h2, if_neg (by simp), if_neg (by simp)] at hmd
       clear h1 h2
       go_upto_region 16 with (first
        | (go_at_call 33; first | (with_reducible refine ((KI.out _ WB.out).1).mono ?_; rintro e wq ⟨rfl, rfl⟩) | (with_reducible refine ((KI.out _ WB.out).2).mono ?_; rintro e wq ⟨rfl, rfl⟩))
        | (go_at_call_of 46 (Value.int IntKind.i64 nr); refine (yS WB.out nr NN.out _ HNR.out).mono ?_; rintro e wq ⟨rfl, rfl⟩)
        | (go_at_call_of 46 (Value.int IntKind.i64 fr); refine (yS WB.out fr FN.out _ HFR.out).mono ?_; rintro e wq ⟨rfl, rfl⟩))
       rw [xQ, show (!true) = false from rfl] at hmd
       by_cases hge : kidA TB p false = bv ∧ kidA TB bv false = fr
       rotate_left
       ·rw [if_neg hge] at hmd
        cases hmd
       rw [if_pos hge] at hmd
       have HE1 := zA.mk hge.1
       clear hge
       have PL1 := zA.mk (zP TB (redA TB p) bv)
       have PO1 := zA.mk (OB.out.yE (redA TB p) bv BN.out)
       have PK1 := zA.mk (yC TB (redA TB p) bv p false BN.out)
       obtain ⟨rp, hrp⟩ : ∃ rp, rp = redA TB p := ⟨_, rfl⟩
       rw [← hrp] at hmd PL1 PO1 PK1
       have HRP := zA.mk hrp.symm
       clear hrp
       go_upto_region 17 with (fail)
       go_region_with (first
        | (go_at_call 46; refine (yS (by first | exact WB.out.drew | exact (WB.out.alloc _).drew) p (by rw [LB.out]; exact HP.out) rp HRP.out).mono ?_; rintro e wr ⟨rfl, rfl⟩)
        | (go_at_call 49; refine (qP WB.out rp bv (by have := HP.out; have := P0.out; have := LB.out; omega) BN.out).mono ?_; rintro e wq ⟨rfl, hWq, hGq⟩; have WF1 := zA.mk hWq; have GF1 := zA.mk (GB.out.trans hGq); clear hWq hGq))
       all_goals
        generalize zQ TB rp bv = TF1 at WF1 PL1 PO1 PK1 hmd
        have PO2 := zA.mk ((PO1.out.yE false p (by rw [PL1.out, LB.out]; exact HP.out)).yE false fr (by rw [zP, PL1.out]; exact FN.out))
        have PL2 := zA.mk (show (zQ (zQ TF1 false p) false fr).ns.length = TF1.ns.length by rw [zP, zP])
        have PK2 := zA.mk (show kidA (zQ (zQ TF1 false p) false fr) p false = kidA TF1 p false by rw [yC _ _ _ _ _ (by rw [zP, PL1.out]; exact FN.out), yC _ _ _ _ _ (by rw [PL1.out, LB.out]; exact HP.out)])
        have HMD := zA.mk (Option.some.inj hmd)
        clear hmd
        go_upto_region 18 with (go_at_call 49; refine (jK WF1.out false p fr (by have := HP.out; have := P0.out; have := LB.out; have := PL1.out; omega) (by rw [PL1.out, LB.out]; exact HP.out) (by rw [PL1.out]; exact FN.out)).mono ?_; rintro e wq ⟨rfl, hWq, hGq⟩; have WF2 := zA.mk hWq; have GF2 := zA.mk (GF1.out.trans hGq); clear hWq hGq)
        generalize zQ (zQ TF1 false p) false fr = TF2 at WF2 PL2 PO2 PK2 HMD
        have HK8 := zA.mk (show 0 ≤ kidA TF2 p (!true) by show 0 ≤ kidA TF2 p false; rw [PK2.out, PK1.out, HE1.out]; exact B0.out)
        have HK9 := zA.mk (show p < (TF2.ns.length : Int) by rw [PL2.out, PL1.out, LB.out]; exact HP.out)
        go_wp2_with (go_at_call 68; refine (qL WF2.out PO2.out p P0.out HK9.out true HK8.out 1 rfl).mono ?_; rintro e wq ⟨rfl, hWq, hGq⟩; have WF3 := zA.mk hWq; have GF3 := zA.mk (GF2.out.trans hGq); clear hWq hGq)
        refine bodyPost_ret (results_none rfl _ _ _) rfl ?_
        exact ⟨rfl, by rw [← HMD.out]; exact WF3.out, GF3.out⟩
end Go.Proofs.YtfapmcpmfeigbaaDoor.Tm
