/- Parts of the proof, joined: Srt2. -/
import Derived.Test.YtnkhnnojdlgfjaaDoorUF25
namespace Go.Proofs.YtnkhnnojdlgfjaaDoor.Srt
open Go.RowKit Go Go.Proofs Go.Proofs.YtnkhnnojdlgfjaaDoor Go.Proofs.YtnkhnnojdlgfjaaDoor.Ky Go.Proofs.YtnkhnnojdlgfjaaDoorW.PrintWords Go.Proofs.YtnkhnnojdlgfjaaDoorW.PrintLast Go.Proofs.YtnkhnnojdlgfjaaDoorW.PrintMore
set_option linter.unusedVariables false
set_option linter.unusedSimpArgs false
variable {rs : List Value}
section
variable {cv : K → K → Int} (O : Ord cv) {B : Nat} {mn : Int} (hcm : CmpOk cv B mn)
include O hcm
set_option maxHeartbeats 4000000 in
set_option maxRecDepth 100000 in
/-- one in front -/
theorem symFirst (g n0 c0 a m b : Nat) (hm : m = a + 1) (hBg : B ≠ g) (l : List K) (w : World) (hA : Arr rs w g l) (hB : w.cell? ⟨B, 0, none⟩ = some (.int .u64 mn)) (hn : n0 = l.length) (hl : l.length ≤ 1000000) (ha : a + 1 < b) (hb : b ≤ l.length) (hs : Srd cv l (a + 1) b) :
    Calls Tryd.prog 95 #[.slice (some ⟨g, 0, none⟩) n0 c0, .int .i64 a, .int .i64 m, .int .i64 b, .func (.func 81) #[] #[.pointer (some ⟨B, 0, none⟩)]] w fun e w' => e = .returned (.tuple #[]) ∧ (∃ l', Arr rs w' g l' ∧ Rng l l' a b ∧ Srd cv l' a b) ∧ w.grownBy w' (some g) := by
  have HA := Aside0.mk hA
  have HN := Aside0.mk hn
  have HCM := Aside0.mk hcm
  have HBX := Aside0.mk hB
  have HS := Aside0.mk hs
  have hA1 : ((m : Int) - (a : Int) == 1) = true := by simp; omega
  have HM := Aside0.mk hm
  have hma : (a : Int) + 1 ≤ m ∧ m ≤ l.length := by omega
  clear hA hn hcm hB hs hm
  go_enter Tryd.func95, Tryd.ntmps95
  go_wp2
  go_loopw [10, 11] (fun i j wr => Sl2 (fun p q wr => a + 1 ≤ p ∧ p ≤ q ∧ q ≤ b ∧ Aside0 (Arr rs wr g l) ∧ Aside0 (w.grownBy wr (some g)) ∧ Aside0 (∀ t, a + 1 ≤ t → t < p → cv (gt l t) (gt l a) < 0) ∧ Aside0 (∀ t, q ≤ t → t < b → le cv (gt l a) (gt l t))) i j wr) (fun i j _ => ((intOf j) - (intOf i)).toNat)
  case atStart => exact ⟨a + 1, b, by rw [HM.out], rfl, Nat.le_refl _, by omega, Nat.le_refl _, HA, ⟨gb_refl _ _⟩, ⟨fun t h1 h2 => by omega⟩, ⟨fun t h1 h2 => by omega⟩⟩
  case round =>
    clear HA
    obtain ⟨p, q, rfl, rfl, h1, h2, h3, HA, HG, HP, HQ⟩ := hrel.out
    by_cases hlt : p < q
    · have eh : ((p : Int) + (q : Int)) / 2 = (((p + q) / 2 : Nat) : Int) := by omega
      have EH := Aside0.mk eh
      have hc1 : p ≤ (p + q) / 2 := by omega
      have hc2 : (p + q) / 2 < q := by omega
      clear eh
      go_wp2
      rw [EH.out]
      clear EH
      generalize (p + q) / 2 = c at hc1 hc2 ⊢
      have c1 := HA.out.even c (by omega)
      have c2 := HA.out.odd c (by omega)
      have c3 := HA.out.even a (by omega)
      have c4 := HA.out.odd a (by omega)
      have n1 : (c : Int) < (n0 : Int) := by rw [HN.out]; omega
      have n2 : (a : Int) < (n0 : Int) := by rw [HN.out]; omega
      have n3 : c < n0 := by rw [HN.out]; omega
      have n4 : a < n0 := by rw [HN.out]; omega
      generalize hx : gt l c = x at c1 c2
      generalize hy : gt l a = y at c3 c4
      have HX := Aside0.mk hx
      have HY := Aside0.mk hy
      clear hx hy
      go_still_tail 9, (by kernel_rfl)
      change wpList _ _ _ _ _ wr.drew
      clear c1 c2 c3 c4
      have HA1 := Aside0.mk (HA.out.moved (w1 := wr.drew) rfl)
      have HG1 := Aside0.mk (gb_drew HG.out)
      have HB1 := Aside0.mk (gb_cell HG1.out hBg HBX.out)
      clear HA HG
      generalize wr.drew = w2 at HA1 HG1 HB1 ⊢
      by_cases hcv : cv x y < 0
      · have g2 : decide (cv x y < 0) = true := decide_eq_true hcv
        have HCV := Aside0.mk hcv
        clear hcv
        go_wp2_with (go_at_call 81; (with_reducible refine (HCM.out.at_ _ x y HB1.out).mono ?_); rintro e w3 ⟨rfl, hb⟩; have HA2 := Aside0.mk (HA1.out.below hb); have HG2 := Aside0.mk (gb_below HG1.out hb); clear hb)
        refine ⟨⟨c + 1, q, by simp, rfl, by omega, by omega, h3, HA2, HG2, ⟨fun t h5 h6 => ?_⟩, HQ⟩, ?_⟩
        · have hc : cv (gt l c) (gt l a) < 0 := by rw [HX.out, HY.out]; exact HCV.out
          exact lt_of_le_lt O (HS.out t c h5 (by omega) (by omega)) hc
        · have e1 : intOf (.int .i64 (q : Int)) = q := rfl
          have e2 : intOf (.int .i64 ((c : Int) + 1)) = (c : Int) + 1 := rfl
          have e3 : intOf (.int .i64 (p : Int)) = p := rfl
          rw [e1, e2, e3]
          omega
      · have g2 : decide (cv x y < 0) = false := decide_eq_false hcv
        have HCV := Aside0.mk hcv
        clear hcv
        go_wp2_with (go_at_call 81; (with_reducible refine (HCM.out.at_ _ x y HB1.out).mono ?_); rintro e w3 ⟨rfl, hb⟩; have HA2 := Aside0.mk (HA1.out.below hb); have HG2 := Aside0.mk (gb_below HG1.out hb); clear hb)
        refine ⟨⟨p, c, rfl, rfl, h1, hc1, by omega, HA2, HG2, HP, ⟨fun t h5 h6 => ?_⟩⟩, ?_⟩
        · have hc : le cv (gt l a) (gt l c) := by rw [HX.out, HY.out]; have := HCV.out; show ¬ cv x y < 0; omega
          exact le_trans O hc (HS.out c t (by omega) h5 h6)
        · have e1 : intOf (.int .i64 (q : Int)) = q := rfl
          have e2 : intOf (.int .i64 (c : Int)) = c := rfl
          have e3 : intOf (.int .i64 (p : Int)) = p := rfl
          rw [e1, e2, e3]
          omega
    · obtain rfl : p = q := by omega
      go_wp2
      go_loopw [13] (fun i wr => ∃ (k : Nat) (L : List K), a ≤ k ∧ k + 1 ≤ p ∧ i = .int .i64 k ∧ Aside0 (Arr rs wr g L) ∧ Aside0 (w.grownBy wr (some g)) ∧ Aside0 (Up l L a k b)) (fun i _ => p - (intOf i).toNat)
      case atStart => exact ⟨a, l, Nat.le_refl _, by omega, rfl, HA, HG, ⟨Up.refl _ _ _⟩⟩
      case round =>
        clear HA HG
        obtain ⟨k, L, h4, h5, rfl, HA, HG, HU⟩ := hrel
        have HL := Aside0.mk HU.out.rng.len
        by_cases hk : k + 1 < p
        · have c1 := HA.out.even k (by rw [HL.out]; omega)
          have c2 := HA.out.odd k (by rw [HL.out]; omega)
          have c3 := HA.out.even (k + 1) (by rw [HL.out]; omega)
          have c4 := HA.out.odd (k + 1) (by rw [HL.out]; omega)
          have f1 := HA.out.frozen (k * 2)
          have f2 := HA.out.frozen (k * 2 + 1)
          have f3 := HA.out.frozen ((k + 1) * 2)
          have f4 := HA.out.frozen ((k + 1) * 2 + 1)
          have n1 : (k : Int) + 1 < (n0 : Int) := by rw [HN.out]; omega
          have n2 : (k : Int) < (n0 : Int) := by rw [HN.out]; omega
          have n3 : ((k : Int) + 1).toNat = k + 1 := by omega
          have n4 : k < n0 := by rw [HN.out]; omega
          have n5 : (k : Int) < (p : Int) - 1 := by omega
          generalize hx : gt L k = x at c1 c2
          generalize hy : gt L (k + 1) = y at c3 c4
          have HX := Aside0.mk hx
          have HY := Aside0.mk hy
          clear hx hy
          go_wp2
          go_region
          obtain ⟨hA3, hG3⟩ := swap_end HA.out HG.out (i := k) (j := k + 1) (by rw [HL.out]; omega) (by rw [HL.out]; omega) HX.out HY.out
          have HA3 := Aside0.mk hA3
          have HG3 := Aside0.mk hG3
          clear hA3 hG3 c1 c2 c3 c4 f1 f2 f3 f4 HA HG
          generalize ((((wr.setCell _ _).setCell _ _).setCell _ _).setCell _ _).drew = w4 at HA3 HG3 ⊢
          go_wp2
          refine ⟨⟨k + 1, _, by omega, by omega, by simp, HA3, HG3, ⟨HU.out.step h4 (by omega) hb⟩⟩, ?_⟩
          show p - ((k : Int) + 1).toNat < p - (k : Int).toNat
          omega
        · obtain rfl : k = p - 1 := by omega
          have n5 : ¬ (((p - 1 : Nat) : Int) < (p : Int) - 1) := by omega
          go_wp2
          refine bodyPost_ret (results_none rfl _ _ _) rfl ?_
          exact ⟨rfl, ⟨L, HA.out, HU.out.rng, Up.srd O HU.out (by omega) h3 HS.out HP.out HQ.out⟩, HG.out⟩
set_option maxHeartbeats 4000000 in
set_option maxRecDepth 100000 in
/-- one behind -/
theorem symLast (g n0 c0 a m b : Nat) (hm : b = m + 1) (hBg : B ≠ g) (l : List K) (w : World) (hA : Arr rs w g l) (hB : w.cell? ⟨B, 0, none⟩ = some (.int .u64 mn)) (hn : n0 = l.length) (hl : l.length ≤ 1000000) (ha : a + 1 < m) (hb : b ≤ l.length) (hs : Srd cv l a m) :
    Calls Tryd.prog 95 #[.slice (some ⟨g, 0, none⟩) n0 c0, .int .i64 a, .int .i64 m, .int .i64 b, .func (.func 81) #[] #[.pointer (some ⟨B, 0, none⟩)]] w fun e w' => e = .returned (.tuple #[]) ∧ (∃ l', Arr rs w' g l' ∧ Rng l l' a b ∧ Srd cv l' a b) ∧ w.grownBy w' (some g) := by
  have HA := Aside0.mk hA
  have HN := Aside0.mk hn
  have HCM := Aside0.mk hcm
  have HBX := Aside0.mk hB
  have HS := Aside0.mk hs
  have hA1 : ((m : Int) - (a : Int) == 1) = false := by simp; omega
  have hA2 : ((b : Int) - (m : Int) == 1) = true := by simp; omega
  have HM := Aside0.mk hm
  have hma : m + 1 ≤ b ∧ b ≤ m + 1 := by omega
  clear hA hn hcm hB hs hm
  go_enter Tryd.func95, Tryd.ntmps95
  go_wp2
  go_loopw [14, 15] (fun i j wr => Sl2 (fun p q wr => a ≤ p ∧ p ≤ q ∧ q ≤ m ∧ Aside0 (Arr rs wr g l) ∧ Aside0 (w.grownBy wr (some g)) ∧ Aside0 (∀ t, a ≤ t → t < p → le cv (gt l t) (gt l m)) ∧ Aside0 (∀ t, q ≤ t → t < m → cv (gt l m) (gt l t) < 0)) i j wr) (fun i j _ => ((intOf j) - (intOf i)).toNat)
  case atStart => exact ⟨a, m, rfl, rfl, Nat.le_refl _, by omega, Nat.le_refl _, HA, ⟨gb_refl _ _⟩, ⟨fun t h1 h2 => by omega⟩, ⟨fun t h1 h2 => by omega⟩⟩
  case round =>
    clear HA
    obtain ⟨p, q, rfl, rfl, h1, h2, h3, HA, HG, HP, HQ⟩ := hrel.out
    by_cases hlt : p < q
    · have eh : ((p : Int) + (q : Int)) / 2 = (((p + q) / 2 : Nat) : Int) := by omega
      have EH := Aside0.mk eh
      have hc1 : p ≤ (p + q) / 2 := by omega
      have hc2 : (p + q) / 2 < q := by omega
      clear eh
      go_wp2
      rw [EH.out]
      clear EH
      generalize (p + q) / 2 = c at hc1 hc2 ⊢
      have c1 := HA.out.even m (by omega)
      have c2 := HA.out.odd m (by omega)
      have c3 := HA.out.even c (by omega)
      have c4 := HA.out.odd c (by omega)
      have n1 : (c : Int) < (n0 : Int) := by rw [HN.out]; omega
      have n2 : (m : Int) < (n0 : Int) := by rw [HN.out]; omega
      have n3 : c < n0 := by rw [HN.out]; omega
      have n4 : m < n0 := by rw [HN.out]; omega
      generalize hx : gt l m = x at c1 c2
      generalize hy : gt l c = y at c3 c4
      have HX := Aside0.mk hx
      have HY := Aside0.mk hy
      clear hx hy
      go_still_tail 9, (by kernel_rfl)
      change wpList _ _ _ _ _ wr.drew
      clear c1 c2 c3 c4
      have HA1 := Aside0.mk (HA.out.moved (w1 := wr.drew) rfl)
      have HG1 := Aside0.mk (gb_drew HG.out)
      have HB1 := Aside0.mk (gb_cell HG1.out hBg HBX.out)
      clear HA HG
      generalize wr.drew = w2 at HA1 HG1 HB1 ⊢
      by_cases hcv : cv x y < 0
      · have g2 : decide (cv x y < 0) = true := decide_eq_true hcv
        have HCV := Aside0.mk hcv
        clear hcv
        go_wp2_with (go_at_call 81; (with_reducible refine (HCM.out.at_ _ x y HB1.out).mono ?_); rintro e w3 ⟨rfl, hb⟩; have HA2 := Aside0.mk (HA1.out.below hb); have HG2 := Aside0.mk (gb_below HG1.out hb); clear hb)
        refine ⟨⟨p, c, rfl, rfl, h1, hc1, by omega, HA2, HG2, HP, ⟨fun t h5 h6 => ?_⟩⟩, ?_⟩
        · have hc : cv (gt l m) (gt l c) < 0 := by rw [HX.out, HY.out]; exact HCV.out
          exact lt_of_lt_le O hc (HS.out c t (by omega) h5 h6)
        · have e1 : intOf (.int .i64 (q : Int)) = q := rfl
          have e2 : intOf (.int .i64 (c : Int)) = c := rfl
          have e3 : intOf (.int .i64 (p : Int)) = p := rfl
          rw [e1, e2, e3]
          omega
      · have g2 : decide (cv x y < 0) = false := decide_eq_false hcv
        have HCV := Aside0.mk hcv
        clear hcv
        go_wp2_with (go_at_call 81; (with_reducible refine (HCM.out.at_ _ x y HB1.out).mono ?_); rintro e w3 ⟨rfl, hb⟩; have HA2 := Aside0.mk (HA1.out.below hb); have HG2 := Aside0.mk (gb_below HG1.out hb); clear hb)
        refine ⟨⟨c + 1, q, by simp, rfl, by omega, by omega, h3, HA2, HG2, ⟨fun t h5 h6 => ?_⟩, HQ⟩, ?_⟩
        · have hc : le cv (gt l c) (gt l m) := by rw [HX.out, HY.out]; have := HCV.out; show ¬ cv x y < 0; omega
          exact le_trans O (HS.out t c h5 (by omega) (by omega)) hc
        · have e1 : intOf (.int .i64 (q : Int)) = q := rfl
          have e2 : intOf (.int .i64 ((c : Int) + 1)) = (c : Int) + 1 := rfl
          have e3 : intOf (.int .i64 (p : Int)) = p := rfl
          rw [e1, e2, e3]
          omega
    · obtain rfl : p = q := by omega
      go_wp2
      go_loopw [17] (fun i wr => ∃ (k : Nat) (L : List K), p ≤ k ∧ k ≤ m ∧ i = .int .i64 k ∧ Aside0 (Arr rs wr g L) ∧ Aside0 (w.grownBy wr (some g)) ∧ Aside0 (Dn l L a k m b)) (fun i _ => (intOf i).toNat)
      case atStart => exact ⟨m, l, by omega, Nat.le_refl _, rfl, HA, HG, ⟨Dn.refl _ _ _ _⟩⟩
      case round =>
        clear HA HG
        obtain ⟨k, L, h4, h5, rfl, HA, HG, HU⟩ := hrel
        have HL := Aside0.mk HU.out.rng.len
        by_cases hk : p < k
        · have c1 := HA.out.even k (by rw [HL.out]; omega)
          have c2 := HA.out.odd k (by rw [HL.out]; omega)
          have c3 := HA.out.even (k - 1) (by rw [HL.out]; omega)
          have c4 := HA.out.odd (k - 1) (by rw [HL.out]; omega)
          have f1 := HA.out.frozen (k * 2)
          have f2 := HA.out.frozen (k * 2 + 1)
          have f3 := HA.out.frozen ((k - 1) * 2)
          have f4 := HA.out.frozen ((k - 1) * 2 + 1)
          have n1 : (k : Int) - 1 < (n0 : Int) := by rw [HN.out]; omega
          have n2 : (k : Int) < (n0 : Int) := by rw [HN.out]; omega
          have n3 : ((k : Int) - 1).toNat = k - 1 := by omega
          have n4 : k < n0 := by rw [HN.out]; omega
          have n5 : (p : Int) < (k : Int) := by omega
          have n6 : (1 : Int) ≤ (k : Int) := by omega
          generalize hx : gt L k = x at c1 c2
          generalize hy : gt L (k - 1) = y at c3 c4
          have HX := Aside0.mk hx
          have HY := Aside0.mk hy
          clear hx hy
          go_wp2
          go_region
          obtain ⟨hA3, hG3⟩ := swap_end HA.out HG.out (i := k) (j := k - 1) (by rw [HL.out]; omega) (by rw [HL.out]; omega) HX.out HY.out
          have HA3 := Aside0.mk hA3
          have HG3 := Aside0.mk hG3
          clear hA3 hG3 c1 c2 c3 c4 f1 f2 f3 f4 HA HG
          generalize ((((wr.setCell _ _).setCell _ _).setCell _ _).setCell _ _).drew = w4 at HA3 HG3 ⊢
          go_wp2
          refine ⟨⟨k - 1, _, by omega, by omega, by congr 1; omega, HA3, HG3, ⟨HU.out.step' (by omega) h5 (by omega) hb⟩⟩, ?_⟩
          show ((k : Int) - 1).toNat < (k : Int).toNat
          omega
        · obtain rfl : k = p := by omega
          go_wp2
          refine bodyPost_ret (results_none rfl _ _ _) rfl ?_
          exact ⟨rfl, ⟨L, HA.out, HU.out.rng, by have := Dn.srd O HU.out h1 h5 HS.out HP.out HQ.out; rwa [← HM.out] at this⟩, HG.out⟩
end
end Go.Proofs.YtnkhnnojdlgfjaaDoor.Srt
