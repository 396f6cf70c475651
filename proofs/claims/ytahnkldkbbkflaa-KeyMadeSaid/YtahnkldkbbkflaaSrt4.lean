/- slices.symMergeCmpFunc at keys, whole; slices.stableCmpFunc, SortStableFunc: a row of keys comes out sorted. No condition but lengths. Written by hand. -/
import Derived.Test.YtahnkldkbbkflaaSrt3
namespace Go.Proofs.Ytahnkldkbbkflaa.Srt
open Go.RowKit Go Go.Proofs Go.Proofs.Ytahnkldkbbkflaa Go.Proofs.Ytahnkldkbbkflaa.Ky Go.Proofs.YtahnkldkbbkflaaW.PrintWords Go.Proofs.YtahnkldkbbkflaaW.PrintLast Go.Proofs.YtahnkldkbbkflaaW.PrintMore
set_option linter.unusedVariables false
set_option linter.unusedSimpArgs false
variable {rs : List Value}
section
variable {cv : K → K → Int} (O : Ord cv) {B : Nat} {mn : Int} (hcm : CmpOk cv B mn)
include O hcm
theorem symN (g n0 c0 : Nat) (hBg : B ≠ g) : ∀ N, SymN rs cv B mn g n0 c0 N
  | 0 => ⟨fun a m b A M E ea em eb l w hN hA hB hn hl ha hm hb hs1 hs2 => by omega⟩
  | N + 1 => ⟨fun a m b A M E ea em eb l w hN hA hB hn hl ha hm hb hs1 hs2 => by
    subst ea
    subst em
    subst eb
    by_cases c1 : m = a + 1
    · subst c1
      by_cases c2 : a + 1 < b
      · exact symFirst O hcm g n0 c0 a (a + 1) b rfl hBg l w hA hB hn hl c2 hb hs2
      · omega
    by_cases c2 : b = m + 1
    · exact symLast O hcm g n0 c0 a m b c2 hBg l w hA hB hn hl (by omega) hb hs1
    · exact symStep O hcm g n0 c0 a m b N (symN g n0 c0 hBg N) hN hBg l w hA hB hn hl (by omega) (by omega) hb hs1 hs2⟩
theorem symMerge (g n0 c0 a m b : Nat) (A M E : Int) (ea : A = a) (em : M = m) (eb : E = b) (hBg : B ≠ g) (l : List K) (w : World) (hA : Arr rs w g l) (hB : w.cell? ⟨B, 0, none⟩ = some (.int .u64 mn)) (hn : n0 = l.length) (hl : l.length ≤ 1000000) (ha : a < m) (hm : m < b) (hb : b ≤ l.length) (hs1 : Srd cv l a m) (hs2 : Srd cv l m b) :
    Calls Try.prog 47 #[.slice (some ⟨g, 0, none⟩) n0 c0, .int .i64 A, .int .i64 M, .int .i64 E, .func (.func 30) #[] #[.pointer (some ⟨B, 0, none⟩)]] w fun e w' => e = .returned (.tuple #[]) ∧ (∃ l', Arr rs w' g l' ∧ Rng l l' a b ∧ Srd cv l' a b) ∧ w.grownBy w' (some g) :=
  (symN O hcm g n0 c0 hBg (b - a)).out a m b A M E ea em eb l w (Nat.le_refl _) hA hB hn hl ha hm hb hs1 hs2
theorem insertionI (g n0 c0 a b : Nat) (A E : Int) (ea : A = a) (eb : E = b) (hBg : B ≠ g) (l : List K) (w : World) (hA : Arr rs w g l) (hB : w.cell? ⟨B, 0, none⟩ = some (.int .u64 mn)) (hn : n0 = l.length) (hl : l.length ≤ 1000000) (ha : a ≤ b) (hb : b ≤ l.length) :
    Calls Try.prog 46 #[.slice (some ⟨g, 0, none⟩) n0 c0, .int .i64 A, .int .i64 E, .func (.func 30) #[] #[.pointer (some ⟨B, 0, none⟩)]] w fun e w' => e = .returned (.tuple #[]) ∧ (∃ l', Arr rs w' g l' ∧ Rng l l' a b ∧ Srd cv l' a b) ∧ w.grownBy w' (some g) := by
  subst ea
  subst eb
  exact insertion O hcm g n0 c0 a b hBg l w hA hB hn hl ha hb
set_option maxHeartbeats 8000000 in
set_option maxRecDepth 100000 in
theorem stable (g n c0 : Nat) (hBg : B ≠ g) (l : List K) (w : World) (hA : Arr rs w g l) (hB : w.cell? ⟨B, 0, none⟩ = some (.int .u64 mn)) (hn : n = l.length) (hl : l.length ≤ 1000000) :
    Calls Try.prog 41 #[.slice (some ⟨g, 0, none⟩) n c0, .int .i64 n, .func (.func 30) #[] #[.pointer (some ⟨B, 0, none⟩)]] w fun e w' => e = .returned (.tuple #[]) ∧ (∃ l', Arr rs w' g l' ∧ l'.Perm l ∧ Srd cv l' 0 n) ∧ w.grownBy w' (some g) := by
  have HA := Aside0.mk hA
  have HN := Aside0.mk hn
  have HCM := Aside0.mk hcm
  have HBX := Aside0.mk hB
  have hn2 : n ≤ 1000000 := by omega
  clear hA hn hcm hB hl
  go_enter Try.func41, Try.ntmps41
  go_wp2
  go_loopw [7, 8] (fun i j wr => Sl2 (fun a b wr => b = a + 20 ∧ a ≤ n ∧ ∃ L, Aside0 (Arr rs wr g L) ∧ Aside0 (L.Perm l) ∧ Aside0 (Done cv 20 L a) ∧ Aside0 (w.grownBy wr (some g))) i j wr) (fun i j _ => n + 20 - (intOf j).toNat)
  case atStart => exact ⟨0, 20, by simp, by simp, rfl, Nat.zero_le _, l, HA, ⟨List.Perm.refl _⟩, ⟨.nil⟩, ⟨gb_refl _ _⟩⟩
  case round =>
    clear HA
    obtain ⟨a, b, rfl, rfl, hab, han, L, HA, HP, HD, HG⟩ := hrel.out
    have HL := Aside0.mk HP.out.length_eq
    have HAB := Aside0.mk hab
    have hab2 : a + 20 ≤ b ∧ b ≤ a + 20 := by omega
    clear hab
    by_cases hlt : b ≤ n
    · go_wp2_with (go_at_call 46; (with_reducible refine (insertionI O HCM.out g n c0 a b _ _ rfl rfl hBg L _ HA.out (gb_cell HG.out hBg HBX.out) (by rw [HL.out]; exact HN.out) (by rw [HL.out, ← HN.out]; exact hn2) (by omega) (by rw [HL.out, ← HN.out]; exact hlt)).mono ?_); rintro e_ w3 ⟨rfl, ⟨l2, hA2, hR2, hS2⟩, hG2⟩; have HA2 := Aside0.mk hA2; have HR2 := Aside0.mk hR2; have HS3 := Aside0.mk hS2; have HG2 := Aside0.mk (gb_trans HG.out hG2); clear hA2 hR2 hS2 hG2)
      refine ⟨⟨b, b + 20, rfl, by simp, rfl, hlt, l2, HA2, ⟨HR2.out.perm.trans HP.out⟩, ⟨?_⟩, HG2⟩, ?_⟩
      · have h := Done.cons (HD.out.keep (l' := l2) (fun t ht => HR2.out.out t (Or.inl ht))) (by rw [← HAB.out]; exact HS3.out)
        rwa [← HAB.out] at h
      · have e1 : intOf (.int .i64 ((b : Int) + 20)) = (b : Int) + 20 := rfl
        have e2 : intOf (.int .i64 (b : Int)) = (b : Int) := rfl
        rw [e1, e2]
        omega
    · go_wp2_with (go_at_call 46; (with_reducible refine (insertionI O HCM.out g n c0 a n _ _ rfl rfl hBg L _ HA.out (gb_cell HG.out hBg HBX.out) (by rw [HL.out]; exact HN.out) (by rw [HL.out, ← HN.out]; exact hn2) han (by rw [HL.out, ← HN.out]; exact Nat.le_refl _)).mono ?_); rintro e_ w3 ⟨rfl, ⟨l2, hA2, hR2, hS2⟩, hG2⟩; have HA2 := Aside0.mk hA2; have HR2 := Aside0.mk hR2; have HS3 := Aside0.mk hS2; have HG2 := Aside0.mk (gb_trans HG.out hG2); clear hA2 hR2 hS2 hG2)
      have hB2 : Blks cv 20 l2 n 0 := by
        refine Done.blks (by omega) (HD.out.keep (l' := l2) (fun t ht => HR2.out.out t (Or.inl ht))) han ?_
        by_cases h : a < n
        · refine .cons h ?_ (.nil (by omega))
          rw [Nat.min_eq_right (by omega)]
          exact HS3.out
        · exact .nil (by omega)
      have HB2 := Aside0.mk hB2
      have HP2 := Aside0.mk (HR2.out.perm.trans HP.out)
      clear hB2 HA HG HP HD HL HS3 HR2
      go_loopw [6] (fun i wr => Sl1 (fun bs wr => 0 < bs ∧ bs ≤ 2000020 ∧ ∃ L, Aside0 (Arr rs wr g L) ∧ Aside0 (L.Perm l) ∧ Aside0 (Blks cv bs L n 0) ∧ Aside0 (w.grownBy wr (some g))) i wr) (fun i _ => n - (intOf i).toNat)
      case atStart => exact ⟨20, by simp, by omega, by omega, l2, HA2, HP2, HB2, HG2⟩
      case round =>
        clear HA2 HP2 HB2 HG2
        obtain ⟨bs, rfl, hbs, hbs2, M, HA, HP, HBL, HG⟩ := hrel.out
        by_cases hbn : bs < n
        · go_wp2
          go_loopw [7, 8] (fun i j wr => Sl2 (fun a b wr => b = a + 2 * bs ∧ a ≤ n ∧ ∃ L, Aside0 (Arr rs wr g L) ∧ Aside0 (L.Perm l) ∧ Aside0 (Done cv (2 * bs) L a) ∧ Aside0 (Blks cv bs L n a) ∧ Aside0 (w.grownBy wr (some g))) i j wr) (fun i j _ => n + 2 * bs - (intOf j).toNat)
          case atStart => exact ⟨0, 2 * bs, by simp, by simp, by omega, Nat.zero_le _, M, HA, HP, ⟨.nil⟩, HBL, HG⟩
          case round =>
            clear HA HP HBL HG
            obtain ⟨a2, b2, rfl, rfl, hab, han2, L2, HA, HP, HD, HBL, HG⟩ := hrel.out
            have HL := Aside0.mk HP.out.length_eq
            have HAB := Aside0.mk hab
            have hab2 : a2 + 2 * bs ≤ b2 ∧ b2 ≤ a2 + 2 * bs := by omega
            clear hab
            by_cases hlt2 : b2 ≤ n
            · have hs1 : Srd cv L2 a2 (a2 + bs) := by have h := HBL.out.srd; rwa [Nat.min_eq_left (by omega)] at h
              have hs2 : Srd cv L2 (a2 + bs) b2 := by have h := (HBL.out.next (by omega)).srd; rwa [Nat.min_eq_left (by omega), show a2 + bs + bs = b2 by omega] at h
              have HS1 := Aside0.mk hs1
              have HS2 := Aside0.mk hs2
              clear hs1 hs2
              go_wp2_with (go_at_call 47; (with_reducible refine (symMerge O HCM.out g n c0 a2 (a2 + bs) b2 _ _ _ rfl (by omega) rfl hBg L2 _ HA.out (gb_cell HG.out hBg HBX.out) (by rw [HL.out]; exact HN.out) (by rw [HL.out, ← HN.out]; exact hn2) (by omega) (by omega) (by rw [HL.out, ← HN.out]; exact hlt2) HS1.out HS2.out).mono ?_); rintro e_ w3 ⟨rfl, ⟨l3, hA2, hR2, hS2⟩, hG2⟩; have HA2 := Aside0.mk hA2; have HR2 := Aside0.mk hR2; have HS3 := Aside0.mk hS2; have HG2 := Aside0.mk (gb_trans HG.out hG2); clear hA2 hR2 hS2 hG2)
              refine ⟨⟨b2, b2 + 2 * bs, rfl, by first | (congr 1; done) | (congr 1; omega), rfl, hlt2, l3, HA2, ⟨HR2.out.perm.trans HP.out⟩, ⟨?_⟩, ⟨?_⟩, HG2⟩, ?_⟩
              · have h := Done.cons (HD.out.keep (l' := l3) (fun t ht => HR2.out.out t (Or.inl ht))) (by rw [← HAB.out]; exact HS3.out)
                rwa [← HAB.out] at h
              · have h := ((HBL.out.next (by omega)).next (by omega)).keep (l' := l3) (fun t ht => HR2.out.out t (Or.inr (by omega)))
                rwa [show a2 + bs + bs = b2 by omega] at h
              · have e2 : intOf (.int .i64 (b2 : Int)) = (b2 : Int) := rfl
                show n + 2 * bs - ((b2 : Int) + 2 * (bs : Int)).toNat < n + 2 * bs - (b2 : Int).toNat
                omega
            · by_cases hm : a2 + bs < n
              · have hs1 : Srd cv L2 a2 (a2 + bs) := by have h := HBL.out.srd; rwa [Nat.min_eq_left (by omega)] at h
                have hs2 : Srd cv L2 (a2 + bs) n := by have h := (HBL.out.next (by omega)).srd; rwa [Nat.min_eq_right (by omega)] at h
                have HS1 := Aside0.mk hs1
                have HS2 := Aside0.mk hs2
                have k1 : (a2 : Int) + (bs : Int) < (n : Int) := by omega
                clear hs1 hs2
                go_wp2_with (go_at_call 47; (with_reducible refine (symMerge O HCM.out g n c0 a2 (a2 + bs) n _ _ _ rfl (by omega) rfl hBg L2 _ HA.out (gb_cell HG.out hBg HBX.out) (by rw [HL.out]; exact HN.out) (by rw [HL.out, ← HN.out]; exact hn2) (by omega) (by omega) (by rw [HL.out, ← HN.out]; exact Nat.le_refl _) HS1.out HS2.out).mono ?_); rintro e_ w3 ⟨rfl, ⟨l3, hA2, hR2, hS2⟩, hG2⟩; have HA2 := Aside0.mk hA2; have HR2 := Aside0.mk hR2; have HS3 := Aside0.mk hS2; have HG2 := Aside0.mk (gb_trans HG.out hG2); clear hA2 hR2 hS2 hG2)
                refine ⟨⟨bs * 2, by simp, by omega, by omega, l3, HA2, ⟨HR2.out.perm.trans HP.out⟩, ⟨?_⟩, HG2⟩, ?_⟩
                · rw [Nat.mul_comm bs 2]
                  refine Done.blks (by omega) (HD.out.keep (l' := l3) (fun t ht => HR2.out.out t (Or.inl ht))) han2 (.cons (by omega) ?_ (.nil (by omega)))
                  rw [Nat.min_eq_right (by omega)]
                  exact HS3.out
                · show n - ((bs : Int) * 2).toNat < n - (bs : Int).toNat
                  omega
              · have hB3 : Blks cv (2 * bs) L2 n 0 := by
                  refine Done.blks (by omega) HD.out han2 ?_
                  by_cases h : a2 < n
                  · refine .cons h ?_ (.nil (by omega))
                    have h := HBL.out.srd
                    rw [Nat.min_eq_right (by omega)] at h
                    rw [Nat.min_eq_right (by omega)]
                    exact h
                  · exact .nil (by omega)
                have HB3 := Aside0.mk hB3
                have k1 : ¬ ((a2 : Int) + (bs : Int) < (n : Int)) := by omega
                clear hB3
                go_wp2
                refine ⟨⟨bs * 2, by simp, by omega, by omega, L2, HA, HP, ⟨?_⟩, HG⟩, ?_⟩
                · rw [Nat.mul_comm bs 2]; exact HB3.out
                · show n - ((bs : Int) * 2).toNat < n - (bs : Int).toNat
                  omega
        · go_wp2
          go_end0
          refine ⟨rfl, ⟨M, HA.out, HP.out, ?_⟩, HG.out⟩
          have h := HBL.out.srd
          rwa [Nat.min_eq_right (by omega)] at h
set_option maxHeartbeats 4000000 in
set_option maxRecDepth 100000 in
theorem sortStable (g n c0 : Nat) (hBg : B ≠ g) (l : List K) (w : World) (hA : Arr rs w g l) (hB : w.cell? ⟨B, 0, none⟩ = some (.int .u64 mn)) (hn : n = l.length) (hl : l.length ≤ 1000000) :
    Calls Try.prog 29 #[.slice (some ⟨g, 0, none⟩) n c0, .func (.func 30) #[] #[.pointer (some ⟨B, 0, none⟩)]] w fun e w' => e = .returned (.tuple #[]) ∧ (∃ l', Arr rs w' g l' ∧ l'.Perm l ∧ Srd cv l' 0 n) ∧ w.grownBy w' (some g) := by
  have HS := Aside0.mk (stable O hcm g n c0 hBg l w hA hB hn hl)
  clear hA hB hn hl hcm
  go_enter Try.func29, Try.ntmps29
  go_wp2_with (go_at_call 41; (with_reducible refine HS.out.mono ?_); rintro e_ w3 ⟨rfl, hh, hG⟩; have HH := Aside0.mk hh; have HG := Aside0.mk hG; clear hh hG)
  go_end0
  exact ⟨rfl, HH.out, HG.out⟩
end
end Go.Proofs.Ytahnkldkbbkflaa.Srt
