/- Parts of the proof, joined: Srt3. -/
import Derived.Test.YtnkhnnojdlgfjaaDoorUF26
import Derived.Deep.DeepCutAuto
namespace Go.Proofs.YtnkhnnojdlgfjaaDoor.Srt
open Go.RowKit Go Go.Proofs Go.Proofs.YtnkhnnojdlgfjaaDoor Go.Proofs.YtnkhnnojdlgfjaaDoor.Ky Go.Proofs.YtnkhnnojdlgfjaaDoorW.PrintWords Go.Proofs.YtnkhnnojdlgfjaaDoorW.PrintLast Go.Proofs.YtnkhnnojdlgfjaaDoorW.PrintMore
set_option linter.unusedVariables false
set_option linter.unusedSimpArgs false
variable {rs : List Value}
theorem rotateI (g n0 c0 a m b : Nat) (A M E : Int) (ea : A = a) (em : M = m) (eb : E = b) (cm : Value) (l : List K) (w : World) (hA : Arr rs w g l) (hn : n0 = l.length) (hl : l.length ≤ 1000000) (ha : a < m) (hm : m < b) (hb : b ≤ l.length) :
    Calls Tryd.prog 97 #[.slice (some ⟨g, 0, none⟩) n0 c0, .int .i64 A, .int .i64 M, .int .i64 E, cm] w fun e w' => e = .returned (.tuple #[]) ∧ (∃ l', Arr rs w' g l' ∧ Rot l l' a m b) ∧ w.grownBy w' (some g) := by
  subst ea
  subst em
  subst eb
  exact rotate g n0 c0 a m b cm l w hA hn hl ha hm hb
structure SymN (rs : List Value) (cv : K → K → Int) (B : Nat) (mn : Int) (g n0 c0 : Nat) (N : Nat) : Prop where mk ::
  out : ∀ (a m b : Nat) (A M E : Int), A = a → M = m → E = b → ∀ (l : List K) (w : World), b - a ≤ N → Arr rs w g l → w.cell? ⟨B, 0, none⟩ = some (.int .u64 mn) → n0 = l.length → l.length ≤ 1000000 → a < m → m < b → b ≤ l.length → Srd cv l a m → Srd cv l m b →
    Calls Tryd.prog 95 #[.slice (some ⟨g, 0, none⟩) n0 c0, .int .i64 A, .int .i64 M, .int .i64 E, .func (.func 81) #[] #[.pointer (some ⟨B, 0, none⟩)]] w fun e w' => e = .returned (.tuple #[]) ∧ (∃ l', Arr rs w' g l' ∧ Rng l l' a b ∧ Srd cv l' a b) ∧ w.grownBy w' (some g)
theorem Rot.none_ {l : List K} {s m e : Nat} (h : s = m ∨ e = m) : Rot l l s m e := by
  refine ⟨Rng.refl _ _ _, fun t h1 h2 => ?_, fun t h1 h2 => ?_⟩
  · rcases h with rfl | rfl
    · rw [show s + (t - s) = t by omega]
    · omega
  · rcases h with rfl | rfl
    · omega
    · rw [show t - (e - e) = t by omega]
section
variable {cv : K → K → Int} (O : Ord cv) {B : Nat} {mn : Int} (hcm : CmpOk cv B mn)
include O hcm
set_option maxHeartbeats 8000000 in
set_option maxRecDepth 100000 in
theorem symStep (g n0 c0 a m b N : Nat) (IH : SymN rs cv B mn g n0 c0 N) (hN : b - a ≤ N + 1) (hBg : B ≠ g) (l : List K) (w : World) (hA : Arr rs w g l) (hB : w.cell? ⟨B, 0, none⟩ = some (.int .u64 mn)) (hn : n0 = l.length) (hl : l.length ≤ 1000000) (ha : a + 1 < m) (hm : m + 1 < b) (hb : b ≤ l.length) (hs1 : Srd cv l a m) (hs2 : Srd cv l m b) :
    Calls Tryd.prog 95 #[.slice (some ⟨g, 0, none⟩) n0 c0, .int .i64 a, .int .i64 m, .int .i64 b, .func (.func 81) #[] #[.pointer (some ⟨B, 0, none⟩)]] w fun e w' => e = .returned (.tuple #[]) ∧ (∃ l', Arr rs w' g l' ∧ Rng l l' a b ∧ Srd cv l' a b) ∧ w.grownBy w' (some g) := by
  have HA := Aside0.mk hA
  have HN := Aside0.mk hn
  have HCM := Aside0.mk hcm
  have HBX := Aside0.mk hB
  have HS1 := Aside0.mk hs1
  have HS2 := Aside0.mk hs2
  have hA1 : ((m : Int) - (a : Int) == 1) = false := by simp; omega
  have hA2 : ((b : Int) - (m : Int) == 1) = false := by simp; omega
  obtain ⟨d, hd⟩ : ∃ d, d = (a + b) / 2 := ⟨_, rfl⟩
  have hd1 : a + b ≤ 2 * d + 1 ∧ 2 * d ≤ a + b := by omega
  have ed : ((a : Int) + (b : Int)) / 2 = (d : Int) := by omega
  have ED := Aside0.mk ed
  have HD := Aside0.mk hd
  obtain ⟨S0, R0, hS0⟩ : ∃ S0 R0, (d < m ∧ S0 = d + m - b ∧ R0 = d) ∨ (m ≤ d ∧ S0 = a ∧ R0 = m) := by
    by_cases c : d < m
    · exact ⟨_, _, Or.inl ⟨c, rfl, rfl⟩⟩
    · exact ⟨_, _, Or.inr ⟨by omega, rfl, rfl⟩⟩
  have HS0 := Aside0.mk hS0
  have b1 : a ≤ S0 ∧ S0 ≤ R0 ∧ R0 ≤ d ∧ R0 ≤ m ∧ d + m ≤ S0 + b := by omega
  clear hA hn hcm hB hs1 hs2 ed hd hS0
  go_enter Tryd.func95, Tryd.ntmps95
  go_upto_region 26 with (fail)
  rw [ED.out]
  clear ED
  go_upto_if 140 with (fail)
  go_cut [20, 21] (fun s20 s21 wx => s20 = .int .i64 S0 ∧ s21 = .int .i64 R0 ∧ w = wx)
  case first =>
    as_aux_lemma =>
      by_cases c : d < m
      · have c' : (d : Int) < (m : Int) := by omega
        go_wp2_with fail
        go_meet
        exact ⟨by congr 1; rcases HS0.out with h | h <;> omega, by congr 1; rcases HS0.out with h | h <;> omega, rfl⟩
      · have c' : ¬ ((d : Int) < (m : Int)) := by omega
        go_wp2_with fail
        go_meet
        exact ⟨by congr 1; rcases HS0.out with h | h <;> omega, by congr 1; rcases HS0.out with h | h <;> omega, rfl⟩
  case rest =>
    obtain ⟨rfl, rfl, rfl⟩ := hcut
    go_wp2
    go_loopw [20, 21] (fun i j wr => Sl2 (fun s r wr => S0 ≤ s ∧ s ≤ r ∧ r ≤ R0 ∧ Aside0 (Arr rs wr g l) ∧ Aside0 (w.grownBy wr (some g)) ∧ Aside0 (s = S0 ∨ le cv (gt l (s - 1)) (gt l (d + m - s))) ∧ Aside0 (r = R0 ∨ cv (gt l (d + m - 1 - r)) (gt l r) < 0)) i j wr) (fun i j _ => ((intOf j) - (intOf i)).toNat)
    case atStart => exact ⟨S0, R0, rfl, rfl, Nat.le_refl _, b1.2.1, Nat.le_refl _, HA, ⟨gb_refl _ _⟩, ⟨Or.inl rfl⟩, ⟨Or.inl rfl⟩⟩
    case round =>
      clear HA
      obtain ⟨s, r, rfl, rfl, h1, h2, h3, HA, HG, HP, HQ⟩ := hrel.out
      by_cases hlt : s < r
      · as_aux_lemma =>
        have eh : ((s : Int) + (r : Int)) / 2 = (((s + r) / 2 : Nat) : Int) := by omega
        have EH := Aside0.mk eh
        have hc1 : s ≤ (s + r) / 2 := by omega
        have hc2 : (s + r) / 2 < r := by omega
        clear eh
        go_wp2
        rw [EH.out]
        clear EH
        generalize (s + r) / 2 = c at hc1 hc2 ⊢
        have c1 := HA.out.even (d + m - 1 - c) (by omega)
        have c2 := HA.out.odd (d + m - 1 - c) (by omega)
        have c3 := HA.out.even c (by omega)
        have c4 := HA.out.odd c (by omega)
        have n1 : (c : Int) < (n0 : Int) := by rw [HN.out]; omega
        have n2 : (d : Int) + m - 1 - c < (n0 : Int) := by rw [HN.out]; omega
        have n3 : c < n0 := by rw [HN.out]; omega
        have n4 : ((d : Int) + m - 1 - c).toNat = d + m - 1 - c := by omega
        have n5 : 0 ≤ (d : Int) + m - 1 - c := by omega
        have n6 : (c : Int) ≤ (d : Int) + m - 1 := by omega
        have n7 : IntKind.i64.wrap ((d : Int) + m - 1 - c) = (d : Int) + m - 1 - c := IntWalk.i64_in _ (by omega)
        generalize hx : gt l (d + m - 1 - c) = x at c1 c2
        generalize hy : gt l c = y at c3 c4
        have HX := Aside0.mk hx
        have HY := Aside0.mk hy
        clear hx hy
        go_still_tail 11, (by kernel_rfl)
        change wpList _ _ _ _ _ wr.drew
        clear c1 c2 c3 c4
        have HA1 := Aside0.mk (HA.out.moved (w1 := wr.drew) rfl)
        have HG1 := Aside0.mk (gb_drew HG.out)
        have HB1 := Aside0.mk (gb_cell HG1.out hBg HBX.out)
        clear HA HG
        generalize wr.drew = w2 at HA1 HG1 HB1 ⊢
        by_cases hcv : cv x y < 0
        · have g2 : decide (cv x y < 0) = true := decide_eq_true hcv
          have HCV := Aside0.mk hcv
          clear hcv
          go_wp2_with (go_at_call 81; (with_reducible refine (HCM.out.at_ _ x y HB1.out).mono ?_); rintro e w3 ⟨rfl, hb⟩; have HA2 := Aside0.mk (HA1.out.below hb); have HG2 := Aside0.mk (gb_below HG1.out hb); clear hb)
          refine ⟨⟨s, c, rfl, rfl, h1, hc1, by omega, HA2, HG2, HP, ⟨Or.inr ?_⟩⟩, ?_⟩
          · rw [HX.out, HY.out]; exact HCV.out
          · have e1 : intOf (.int .i64 (r : Int)) = r := rfl
            have e2 : intOf (.int .i64 (c : Int)) = c := rfl
            have e3 : intOf (.int .i64 (s : Int)) = s := rfl
            rw [e1, e2, e3]
            omega
        · have g2 : decide (cv x y < 0) = false := decide_eq_false hcv
          have HCV := Aside0.mk hcv
          clear hcv
          go_wp2_with (go_at_call 81; (with_reducible refine (HCM.out.at_ _ x y HB1.out).mono ?_); rintro e w3 ⟨rfl, hb⟩; have HA2 := Aside0.mk (HA1.out.below hb); have HG2 := Aside0.mk (gb_below HG1.out hb); clear hb)
          refine ⟨⟨c + 1, r, by simp, rfl, by omega, by omega, h3, HA2, HG2, ⟨Or.inr ?_⟩, HQ⟩, ?_⟩
          · rw [show c + 1 - 1 = c by omega, show d + m - (c + 1) = d + m - 1 - c by omega, HX.out, HY.out]
            have := HCV.out
            show ¬ cv x y < 0
            omega
          · have e1 : intOf (.int .i64 (r : Int)) = r := rfl
            have e2 : intOf (.int .i64 ((c : Int) + 1)) = (c : Int) + 1 := rfl
            have e3 : intOf (.int .i64 (s : Int)) = s := rfl
            rw [e1, e2, e3]
            omega
      · obtain rfl : s = r := by omega
        obtain ⟨e, he⟩ : ∃ e, e = d + m - s := ⟨_, rfl⟩
        have HE := Aside0.mk he
        have he1 : m ≤ e ∧ e ≤ b ∧ d ≤ e ∧ e + s ≤ d + m ∧ d + m ≤ e + s := by omega
        have ee : (d : Int) + m - s = (e : Int) := by omega
        have EE := Aside0.mk ee
        have X1 : Aside0 (s = a ∨ d + m - s = b ∨ ¬ cv (gt l (d + m - s)) (gt l (s - 1)) < 0) := ⟨by
          rcases HP.out with h | h
          · rcases HS0.out with k | k
            · exact Or.inr (Or.inl (by omega))
            · exact Or.inl (by omega)
          · exact Or.inr (Or.inr h)⟩
        have X2 : Aside0 (s = m ∨ d + m - s = m ∨ cv (gt l (d + m - s - 1)) (gt l s) < 0) := ⟨by
          rcases HQ.out with h | h
          · rcases HS0.out with k | k
            · exact Or.inr (Or.inl (by omega))
            · exact Or.inl (by omega)
          · exact Or.inr (Or.inr (by rw [show d + m - s - 1 = d + m - 1 - s by omega]; exact h))⟩
        clear he ee HP HQ
        go_upto_region 39 with (fail)
        rw [EE.out]
        clear EE
        go_upto_region 39 with (fail)
        obtain ⟨wv, hwv⟩ : ∃ wv, wv = wr := ⟨_, rfl⟩
        rw [← hwv] at HA HG ⊢
        clear hwv
        go_cut [185] (fun c wx => c = .bool (decide (s < m ∧ m < e)) ∧ wv = wx)
        case first =>
          as_aux_lemma =>
            by_cases k1 : s < m
            · have k2 : (s : Int) < (m : Int) := by omega
              by_cases k3 : m < e
              · have k4 : (m : Int) < (e : Int) := by omega
                go_wp2_with fail
                go_meet
                exact ⟨congrArg Value.bool (decide_eq_true (p := s < m ∧ m < e) ⟨k1, k3⟩).symm, rfl⟩
              · have k4 : decide ((m : Int) < (e : Int)) = false := decide_eq_false (by omega)
                go_wp2_with fail
                go_meet
                exact ⟨congrArg Value.bool (decide_eq_false (p := s < m ∧ m < e) (by omega)).symm, rfl⟩
            · have k2 : decide ((s : Int) < (m : Int)) = false := decide_eq_false (by omega)
              go_wp2_with fail
              go_meet
              exact ⟨congrArg Value.bool (decide_eq_false (p := s < m ∧ m < e) (by omega)).symm, rfl⟩
        obtain ⟨rfl, rfl⟩ := hcut
        go_upto_if 185 with (fail)
        go_cut [18] (fun s18 wx => s18 = .int .i64 d ∧ ∃ l1, Aside0 (Arr rs wx g l1) ∧ Aside0 (Rot l l1 s m e) ∧ Aside0 (w.grownBy wx (some g)))
        case first =>
          as_aux_lemma =>
            by_cases q1 : s < m ∧ m < e
            · have k5 : decide (s < m ∧ m < e) = true := decide_eq_true q1
              go_wp2_with (go_at_call 97; (with_reducible refine (rotateI g n0 c0 s m e _ _ _ rfl rfl rfl _ l _ HA.out HN.out hl q1.1 q1.2 (by omega)).mono ?_); rintro e_ w3 ⟨rfl, ⟨l1, hA1, hR1⟩, hG1⟩; have HA1 := Aside0.mk hA1; have HR1 := Aside0.mk hR1; have HG1 := Aside0.mk (gb_trans HG.out hG1); clear hA1 hR1 hG1)
              go_meet
              exact ⟨rfl, l1, HA1, HR1, HG1⟩
            · have k5 : decide (s < m ∧ m < e) = false := decide_eq_false q1
              go_wp2_with fail
              go_meet
              exact ⟨rfl, l, HA, ⟨Rot.none_ (by omega)⟩, HG⟩
        obtain ⟨rfl, l1, HA1, HR1, HG1⟩ := hcut
        obtain ⟨w1, hw1⟩ : ∃ w1, w1 = wc := ⟨_, rfl⟩
        rw [← hw1] at HA1 HG1 ⊢
        clear hw1
        have hHV : Aside0 (Srd cv l1 a s) ∧ Aside0 (Srd cv l1 s d) ∧ Aside0 (Srd cv l1 d e) ∧ Aside0 (Srd cv l1 e b) ∧ Aside0 (∀ i j, a ≤ i → i < d → d ≤ j → j < b → le cv (gt l1 i) (gt l1 j)) := by
          have h := rot_halves O (l := l) (l' := l1) (a := a) (m := m) (b := b) (s := s) hb (by omega) (by omega) (by omega) (by rw [← HD.out]; omega) (by rw [← HD.out]; omega) (by rw [← HD.out, ← HE.out]; exact HR1.out) HS1.out HS2.out (by rw [← HD.out]; exact X1.out) (by rw [← HD.out]; exact X2.out)
          rw [← HD.out, ← HE.out] at h
          exact ⟨⟨h.1⟩, ⟨h.2.1⟩, ⟨h.2.2.1⟩, ⟨h.2.2.2.1⟩, ⟨h.2.2.2.2⟩⟩
        obtain ⟨HSA, HSC, HSD, HSE, HHV⟩ := hHV
        have HL1 := Aside0.mk HR1.out.rng.len
        clear HA HG X1 X2
        go_upto_region 41 with (fail)
        go_cut [199] (fun c wx => c = .bool (decide (a < s ∧ s < d)) ∧ w1 = wx)
        case first =>
          as_aux_lemma =>
            by_cases k1 : a < s
            · have k2 : (a : Int) < (s : Int) := by omega
              by_cases k3 : s < d
              · have k4 : (s : Int) < (d : Int) := by omega
                go_wp2_with fail
                go_meet
                exact ⟨congrArg Value.bool (decide_eq_true (p := a < s ∧ s < d) ⟨k1, k3⟩).symm, rfl⟩
              · have k4 : decide ((s : Int) < (d : Int)) = false := decide_eq_false (by omega)
                go_wp2_with fail
                go_meet
                exact ⟨congrArg Value.bool (decide_eq_false (p := a < s ∧ s < d) (by omega)).symm, rfl⟩
            · have k2 : decide ((a : Int) < (s : Int)) = false := decide_eq_false (by omega)
              go_wp2_with fail
              go_meet
              exact ⟨congrArg Value.bool (decide_eq_false (p := a < s ∧ s < d) (by omega)).symm, rfl⟩
        obtain ⟨rfl, rfl⟩ := hcut
        go_upto_if 199 with (fail)
        go_cut [18] (fun s18 wx => s18 = .int .i64 d ∧ ∃ l2, Aside0 (Arr rs wx g l2) ∧ Aside0 (Rng l1 l2 a d) ∧ Aside0 (Srd cv l2 a d) ∧ Aside0 (w.grownBy wx (some g)))
        case first =>
          as_aux_lemma =>
            by_cases q1 : a < s ∧ s < d
            · have k5 : decide (a < s ∧ s < d) = true := decide_eq_true q1
              go_wp2_with (go_at_call 95; (with_reducible refine (IH.out a s d _ _ _ rfl rfl rfl l1 _ (by omega) HA1.out (gb_cell HG1.out hBg HBX.out) (by rw [HL1.out]; exact HN.out) (by rw [HL1.out]; exact hl) q1.1 q1.2 (by rw [HL1.out]; omega) HSA.out HSC.out).mono ?_); rintro e_ w3 ⟨rfl, ⟨l2, hA2, hR2, hS2⟩, hG2⟩; have HA2 := Aside0.mk hA2; have HR2 := Aside0.mk hR2; have HS3 := Aside0.mk hS2; have HG2 := Aside0.mk (gb_trans HG1.out hG2); clear hA2 hR2 hS2 hG2)
              go_meet
              exact ⟨rfl, l2, HA2, HR2, HS3, HG2⟩
            · have k5 : decide (a < s ∧ s < d) = false := decide_eq_false q1
              have hS : Srd cv l1 a d := by
                rcases Nat.lt_or_ge a s with h | h
                · exact HSA.out.part (Nat.le_refl _) (by omega)
                · exact HSC.out.part (by omega) (Nat.le_refl _)
              have HS3 := Aside0.mk hS
              clear hS
              go_wp2_with fail
              go_meet
              exact ⟨rfl, l1, HA1, ⟨Rng.refl _ _ _⟩, HS3, HG1⟩
        obtain ⟨rfl, l2, HA2, HR2, HS3, HG2⟩ := hcut
        obtain ⟨w2, hw2⟩ : ∃ w2, w2 = wc := ⟨_, rfl⟩
        rw [← hw2] at HA2 HG2 ⊢
        clear hw2
        have HL2 := Aside0.mk (HR2.out.len.trans HL1.out)
        have HRR := Aside0.mk ((HR1.out.rng.wide (a' := a) (b' := b) (by omega) (by omega)).trans (HR2.out.wide (Nat.le_refl _) (by omega)))
        have HSF := Aside0.mk (HSD.out.keep (l' := l2) (fun t h5 h6 => HR2.out.out t (Or.inr h5)))
        have HSG := Aside0.mk (HSE.out.keep (l' := l2) (fun t h5 h6 => HR2.out.out t (Or.inr (by omega))))
        clear HA1 HG1
        go_upto_region 43 with (fail)
        go_cut [213] (fun c wx => c = .bool (decide (d < e ∧ e < b)) ∧ w2 = wx)
        case first =>
          as_aux_lemma =>
            by_cases k1 : d < e
            · have k2 : (d : Int) < (e : Int) := by omega
              by_cases k3 : e < b
              · have k4 : (e : Int) < (b : Int) := by omega
                go_wp2_with fail
                go_meet
                exact ⟨congrArg Value.bool (decide_eq_true (p := d < e ∧ e < b) ⟨k1, k3⟩).symm, rfl⟩
              · have k4 : decide ((e : Int) < (b : Int)) = false := decide_eq_false (by omega)
                go_wp2_with fail
                go_meet
                exact ⟨congrArg Value.bool (decide_eq_false (p := d < e ∧ e < b) (by omega)).symm, rfl⟩
            · have k2 : decide ((d : Int) < (e : Int)) = false := decide_eq_false (by omega)
              go_wp2_with fail
              go_meet
              exact ⟨congrArg Value.bool (decide_eq_false (p := d < e ∧ e < b) (by omega)).symm, rfl⟩
        obtain ⟨rfl, rfl⟩ := hcut
        by_cases q1 : d < e ∧ e < b
        · have k5 : decide (d < e ∧ e < b) = true := decide_eq_true q1
          go_wp2_with (go_at_call 95; (with_reducible refine (IH.out d e b _ _ _ rfl rfl rfl l2 _ (by omega) HA2.out (gb_cell HG2.out hBg HBX.out) (by rw [HL2.out]; exact HN.out) (by rw [HL2.out]; exact hl) q1.1 q1.2 (by rw [HL2.out]; omega) HSF.out HSG.out).mono ?_); rintro e_ w3 ⟨rfl, ⟨l3, hA3, hR3, hS4⟩, hG3⟩; have HA3 := Aside0.mk hA3; have HR3 := Aside0.mk hR3; have HS4 := Aside0.mk hS4; have HG3 := Aside0.mk (gb_trans HG2.out hG3); clear hA3 hR3 hS4 hG3)
          go_end0
          exact ⟨rfl, ⟨l3, HA3.out, HRR.out.trans (HR3.out.wide (by omega) (Nat.le_refl _)), halves (l := l1) (d := d) (by rw [HL1.out]; exact hb) (by omega) (by omega) HR2.out HR3.out HS3.out HS4.out HHV.out⟩, HG3.out⟩
        · have k5 : decide (d < e ∧ e < b) = false := decide_eq_false q1
          have hS : Srd cv l2 d b := by
            rcases Nat.lt_or_ge d e with h | h
            · exact HSF.out.part (Nat.le_refl _) (by omega)
            · exact HSG.out.part (by omega) (Nat.le_refl _)
          have HS4 := Aside0.mk hS
          clear hS
          go_wp2
          go_end0
          exact ⟨rfl, ⟨l2, HA2.out, HRR.out, halves (l := l1) (d := d) (by rw [HL1.out]; exact hb) (by omega) (by omega) HR2.out (Rng.refl _ _ _) HS3.out HS4.out HHV.out⟩, HG2.out⟩
end
end Go.Proofs.YtnkhnnojdlgfjaaDoor.Srt
