/- Parts of the proof, joined: Srt4, KLib. -/
import Derived.Test.YtnkhnnojdlgfjaaDoorUF27
import Derived.Lib.Hide
section
namespace Go.Proofs.YtnkhnnojdlgfjaaDoor.Srt
open Go.RowKit Go Go.Proofs Go.Proofs.YtnkhnnojdlgfjaaDoor Go.Proofs.YtnkhnnojdlgfjaaDoor.Ky Go.Proofs.YtnkhnnojdlgfjaaDoorW.PrintWords Go.Proofs.YtnkhnnojdlgfjaaDoorW.PrintLast Go.Proofs.YtnkhnnojdlgfjaaDoorW.PrintMore
set_option linter.unusedVariables false
set_option linter.unusedSimpArgs false
variable {rs : List Value}
section
variable {cv : K → K → Int} (O : Ord cv) {B : Nat} {mn : Int} (hcm : CmpOk cv B mn)
include O hcm
theorem symN (g n0 c0 : Nat) (hBg : B ≠ g) : ∀ N, SymN rs cv B mn g n0 c0 N
  | 0 => ⟨fun a m b A M E ea em eb l w hN hA hB hn hl ha hm hb hs1 hs2 => by omega⟩
  | N + 1 => ⟨fun a m b A M E ea em eb l w hN hA hB hn hl ha hm hb hs1 hs2 => by
    subst ea
    subst em
    subst eb
    by_cases c1 : m = a + 1
    · subst c1
      by_cases c2 : a + 1 < b
      · exact symFirst O hcm g n0 c0 a (a + 1) b rfl hBg l w hA hB hn hl c2 hb hs2
      · omega
    by_cases c2 : b = m + 1
    · exact symLast O hcm g n0 c0 a m b c2 hBg l w hA hB hn hl (by omega) hb hs1
    · exact symStep O hcm g n0 c0 a m b N (symN g n0 c0 hBg N) hN hBg l w hA hB hn hl (by omega) (by omega) hb hs1 hs2⟩
theorem symMerge (g n0 c0 a m b : Nat) (A M E : Int) (ea : A = a) (em : M = m) (eb : E = b) (hBg : B ≠ g) (l : List K) (w : World) (hA : Arr rs w g l) (hB : w.cell? ⟨B, 0, none⟩ = some (.int .u64 mn)) (hn : n0 = l.length) (hl : l.length ≤ 1000000) (ha : a < m) (hm : m < b) (hb : b ≤ l.length) (hs1 : Srd cv l a m) (hs2 : Srd cv l m b) :
    Calls Tryd.prog 95 #[.slice (some ⟨g, 0, none⟩) n0 c0, .int .i64 A, .int .i64 M, .int .i64 E, .func (.func 81) #[] #[.pointer (some ⟨B, 0, none⟩)]] w fun e w' => e = .returned (.tuple #[]) ∧ (∃ l', Arr rs w' g l' ∧ Rng l l' a b ∧ Srd cv l' a b) ∧ w.grownBy w' (some g) :=
  (symN O hcm g n0 c0 hBg (b - a)).out a m b A M E ea em eb l w (Nat.le_refl _) hA hB hn hl ha hm hb hs1 hs2
theorem insertionI (g n0 c0 a b : Nat) (A E : Int) (ea : A = a) (eb : E = b) (hBg : B ≠ g) (l : List K) (w : World) (hA : Arr rs w g l) (hB : w.cell? ⟨B, 0, none⟩ = some (.int .u64 mn)) (hn : n0 = l.length) (hl : l.length ≤ 1000000) (ha : a ≤ b) (hb : b ≤ l.length) :
    Calls Tryd.prog 94 #[.slice (some ⟨g, 0, none⟩) n0 c0, .int .i64 A, .int .i64 E, .func (.func 81) #[] #[.pointer (some ⟨B, 0, none⟩)]] w fun e w' => e = .returned (.tuple #[]) ∧ (∃ l', Arr rs w' g l' ∧ Rng l l' a b ∧ Srd cv l' a b) ∧ w.grownBy w' (some g) := by
  subst ea
  subst eb
  exact insertion O hcm g n0 c0 a b hBg l w hA hB hn hl ha hb
set_option maxHeartbeats 8000000 in
set_option maxRecDepth 100000 in
theorem stable (g n c0 : Nat) (hBg : B ≠ g) (l : List K) (w : World) (hA : Arr rs w g l) (hB : w.cell? ⟨B, 0, none⟩ = some (.int .u64 mn)) (hn : n = l.length) (hl : l.length ≤ 1000000) :
    Calls Tryd.prog 91 #[.slice (some ⟨g, 0, none⟩) n c0, .int .i64 n, .func (.func 81) #[] #[.pointer (some ⟨B, 0, none⟩)]] w fun e w' => e = .returned (.tuple #[]) ∧ (∃ l', Arr rs w' g l' ∧ l'.Perm l ∧ Srd cv l' 0 n) ∧ w.grownBy w' (some g) := by
  have HA := Aside0.mk hA
  have HN := Aside0.mk hn
  have HCM := Aside0.mk hcm
  have HBX := Aside0.mk hB
  have hn2 : n ≤ 1000000 := by omega
  clear hA hn hcm hB hl
  go_enter Tryd.func91, Tryd.ntmps91
  go_wp2
  go_loopw [7, 8] (fun i j wr => Sl2 (fun a b wr => b = a + 20 ∧ a ≤ n ∧ ∃ L, Aside0 (Arr rs wr g L) ∧ Aside0 (L.Perm l) ∧ Aside0 (Done cv 20 L a) ∧ Aside0 (w.grownBy wr (some g))) i j wr) (fun i j _ => n + 20 - (intOf j).toNat)
  case atStart => exact ⟨0, 20, by simp, by simp, rfl, Nat.zero_le _, l, HA, ⟨List.Perm.refl _⟩, ⟨.nil⟩, ⟨gb_refl _ _⟩⟩
  case round =>
    clear HA
    obtain ⟨a, b, rfl, rfl, hab, han, L, HA, HP, HD, HG⟩ := hrel.out
    have HL := Aside0.mk HP.out.length_eq
    have HAB := Aside0.mk hab
    have hab2 : a + 20 ≤ b ∧ b ≤ a + 20 := by omega
    clear hab
    by_cases hlt : b ≤ n
    · go_wp2_with (go_at_call 94; (with_reducible refine (insertionI O HCM.out g n c0 a b _ _ rfl rfl hBg L _ HA.out (gb_cell HG.out hBg HBX.out) (by rw [HL.out]; exact HN.out) (by rw [HL.out, ← HN.out]; exact hn2) (by omega) (by rw [HL.out, ← HN.out]; exact hlt)).mono ?_); rintro e_ w3 ⟨rfl, ⟨l2, hA2, hR2, hS2⟩, hG2⟩; have HA2 := Aside0.mk hA2; have HR2 := Aside0.mk hR2; have HS3 := Aside0.mk hS2; have HG2 := Aside0.mk (gb_trans HG.out hG2); clear hA2 hR2 hS2 hG2)
      refine ⟨⟨b, b + 20, rfl, by simp, rfl, hlt, l2, HA2, ⟨HR2.out.perm.trans HP.out⟩, ⟨?_⟩, HG2⟩, ?_⟩
      · have h := Done.cons (HD.out.keep (l' := l2) (fun t ht => HR2.out.out t (Or.inl ht))) (by rw [← HAB.out]; exact HS3.out)
        rwa [← HAB.out] at h
      · have e1 : intOf (.int .i64 ((b : Int) + 20)) = (b : Int) + 20 := rfl
        have e2 : intOf (.int .i64 (b : Int)) = (b : Int) := rfl
        rw [e1, e2]
        omega
    · go_wp2_with (go_at_call 94; (with_reducible refine (insertionI O HCM.out g n c0 a n _ _ rfl rfl hBg L _ HA.out (gb_cell HG.out hBg HBX.out) (by rw [HL.out]; exact HN.out) (by rw [HL.out, ← HN.out]; exact hn2) han (by rw [HL.out, ← HN.out]; exact Nat.le_refl _)).mono ?_); rintro e_ w3 ⟨rfl, ⟨l2, hA2, hR2, hS2⟩, hG2⟩; have HA2 := Aside0.mk hA2; have HR2 := Aside0.mk hR2; have HS3 := Aside0.mk hS2; have HG2 := Aside0.mk (gb_trans HG.out hG2); clear hA2 hR2 hS2 hG2)
      have hB2 : Blks cv 20 l2 n 0 := by
        refine Done.blks (by omega) (HD.out.keep (l' := l2) (fun t ht => HR2.out.out t (Or.inl ht))) han ?_
        by_cases h : a < n
        · refine .cons h ?_ (.nil (by omega))
          rw [Nat.min_eq_right (by omega)]
          exact HS3.out
        · exact .nil (by omega)
      have HB2 := Aside0.mk hB2
      have HP2 := Aside0.mk (HR2.out.perm.trans HP.out)
      clear hB2 HA HG HP HD HL HS3 HR2
      go_loopw [6] (fun i wr => Sl1 (fun bs wr => 0 < bs ∧ bs ≤ 2000020 ∧ ∃ L, Aside0 (Arr rs wr g L) ∧ Aside0 (L.Perm l) ∧ Aside0 (Blks cv bs L n 0) ∧ Aside0 (w.grownBy wr (some g))) i wr) (fun i _ => n - (intOf i).toNat)
      case atStart => exact ⟨20, by simp, by omega, by omega, l2, HA2, HP2, HB2, HG2⟩
      case round =>
        clear HA2 HP2 HB2 HG2
        obtain ⟨bs, rfl, hbs, hbs2, M, HA, HP, HBL, HG⟩ := hrel.out
        by_cases hbn : bs < n
        · go_wp2
          go_loopw [7, 8] (fun i j wr => Sl2 (fun a b wr => b = a + 2 * bs ∧ a ≤ n ∧ ∃ L, Aside0 (Arr rs wr g L) ∧ Aside0 (L.Perm l) ∧ Aside0 (Done cv (2 * bs) L a) ∧ Aside0 (Blks cv bs L n a) ∧ Aside0 (w.grownBy wr (some g))) i j wr) (fun i j _ => n + 2 * bs - (intOf j).toNat)
          case atStart => exact ⟨0, 2 * bs, by simp, by simp, by omega, Nat.zero_le _, M, HA, HP, ⟨.nil⟩, HBL, HG⟩
          case round =>
            clear HA HP HBL HG
            obtain ⟨a2, b2, rfl, rfl, hab, han2, L2, HA, HP, HD, HBL, HG⟩ := hrel.out
            have HL := Aside0.mk HP.out.length_eq
            have HAB := Aside0.mk hab
            have hab2 : a2 + 2 * bs ≤ b2 ∧ b2 ≤ a2 + 2 * bs := by omega
            clear hab
            by_cases hlt2 : b2 ≤ n
            · have hs1 : Srd cv L2 a2 (a2 + bs) := by have h := HBL.out.srd; rwa [Nat.min_eq_left (by omega)] at h
              have hs2 : Srd cv L2 (a2 + bs) b2 := by have h := (HBL.out.next (by omega)).srd; rwa [Nat.min_eq_left (by omega), show a2 + bs + bs = b2 by omega] at h
              have HS1 := Aside0.mk hs1
              have HS2 := Aside0.mk hs2
              clear hs1 hs2
              go_wp2_with (go_at_call 95; (with_reducible refine (symMerge O HCM.out g n c0 a2 (a2 + bs) b2 _ _ _ rfl (by omega) rfl hBg L2 _ HA.out (gb_cell HG.out hBg HBX.out) (by rw [HL.out]; exact HN.out) (by rw [HL.out, ← HN.out]; exact hn2) (by omega) (by omega) (by rw [HL.out, ← HN.out]; exact hlt2) HS1.out HS2.out).mono ?_); rintro e_ w3 ⟨rfl, ⟨l3, hA2, hR2, hS2⟩, hG2⟩; have HA2 := Aside0.mk hA2; have HR2 := Aside0.mk hR2; have HS3 := Aside0.mk hS2; have HG2 := Aside0.mk (gb_trans HG.out hG2); clear hA2 hR2 hS2 hG2)
              refine ⟨⟨b2, b2 + 2 * bs, rfl, by first | (congr 1; done) | (congr 1; omega), rfl, hlt2, l3, HA2, ⟨HR2.out.perm.trans HP.out⟩, ⟨?_⟩, ⟨?_⟩, HG2⟩, ?_⟩
              · have h := Done.cons (HD.out.keep (l' := l3) (fun t ht => HR2.out.out t (Or.inl ht))) (by rw [← HAB.out]; exact HS3.out)
                rwa [← HAB.out] at h
              · have h := ((HBL.out.next (by omega)).next (by omega)).keep (l' := l3) (fun t ht => HR2.out.out t (Or.inr (by omega)))
                rwa [show a2 + bs + bs = b2 by omega] at h
              · have e2 : intOf (.int .i64 (b2 : Int)) = (b2 : Int) := rfl
                show n + 2 * bs - ((b2 : Int) + 2 * (bs : Int)).toNat < n + 2 * bs - (b2 : Int).toNat
                omega
            · by_cases hm : a2 + bs < n
              · have hs1 : Srd cv L2 a2 (a2 + bs) := by have h := HBL.out.srd; rwa [Nat.min_eq_left (by omega)] at h
                have hs2 : Srd cv L2 (a2 + bs) n := by have h := (HBL.out.next (by omega)).srd; rwa [Nat.min_eq_right (by omega)] at h
                have HS1 := Aside0.mk hs1
                have HS2 := Aside0.mk hs2
                have k1 : (a2 : Int) + (bs : Int) < (n : Int) := by omega
                clear hs1 hs2
                go_wp2_with (go_at_call 95; (with_reducible refine (symMerge O HCM.out g n c0 a2 (a2 + bs) n _ _ _ rfl (by omega) rfl hBg L2 _ HA.out (gb_cell HG.out hBg HBX.out) (by rw [HL.out]; exact HN.out) (by rw [HL.out, ← HN.out]; exact hn2) (by omega) (by omega) (by rw [HL.out, ← HN.out]; exact Nat.le_refl _) HS1.out HS2.out).mono ?_); rintro e_ w3 ⟨rfl, ⟨l3, hA2, hR2, hS2⟩, hG2⟩; have HA2 := Aside0.mk hA2; have HR2 := Aside0.mk hR2; have HS3 := Aside0.mk hS2; have HG2 := Aside0.mk (gb_trans HG.out hG2); clear hA2 hR2 hS2 hG2)
                refine ⟨⟨bs * 2, by simp, by omega, by omega, l3, HA2, ⟨HR2.out.perm.trans HP.out⟩, ⟨?_⟩, HG2⟩, ?_⟩
                · rw [Nat.mul_comm bs 2]
                  refine Done.blks (by omega) (HD.out.keep (l' := l3) (fun t ht => HR2.out.out t (Or.inl ht))) han2 (.cons (by omega) ?_ (.nil (by omega)))
                  rw [Nat.min_eq_right (by omega)]
                  exact HS3.out
                · show n - ((bs : Int) * 2).toNat < n - (bs : Int).toNat
                  omega
              · have hB3 : Blks cv (2 * bs) L2 n 0 := by
                  refine Done.blks (by omega) HD.out han2 ?_
                  by_cases h : a2 < n
                  · refine .cons h ?_ (.nil (by omega))
                    have h := HBL.out.srd
                    rw [Nat.min_eq_right (by omega)] at h
                    rw [Nat.min_eq_right (by omega)]
                    exact h
                  · exact .nil (by omega)
                have HB3 := Aside0.mk hB3
                have k1 : ¬ ((a2 : Int) + (bs : Int) < (n : Int)) := by omega
                clear hB3
                go_wp2
                refine ⟨⟨bs * 2, by simp, by omega, by omega, L2, HA, HP, ⟨?_⟩, HG⟩, ?_⟩
                · rw [Nat.mul_comm bs 2]; exact HB3.out
                · show n - ((bs : Int) * 2).toNat < n - (bs : Int).toNat
                  omega
        · go_wp2
          go_end0
          refine ⟨rfl, ⟨M, HA.out, HP.out, ?_⟩, HG.out⟩
          have h := HBL.out.srd
          rwa [Nat.min_eq_right (by omega)] at h
set_option maxHeartbeats 4000000 in
set_option maxRecDepth 100000 in
theorem sortStable (g n c0 : Nat) (hBg : B ≠ g) (l : List K) (w : World) (hA : Arr rs w g l) (hB : w.cell? ⟨B, 0, none⟩ = some (.int .u64 mn)) (hn : n = l.length) (hl : l.length ≤ 1000000) :
    Calls Tryd.prog 80 #[.slice (some ⟨g, 0, none⟩) n c0, .func (.func 81) #[] #[.pointer (some ⟨B, 0, none⟩)]] w fun e w' => e = .returned (.tuple #[]) ∧ (∃ l', Arr rs w' g l' ∧ l'.Perm l ∧ Srd cv l' 0 n) ∧ w.grownBy w' (some g) := by
  have HS := Aside0.mk (stable O hcm g n c0 hBg l w hA hB hn hl)
  clear hA hB hn hl hcm
  go_enter Tryd.func80, Tryd.ntmps80
  go_wp2_with (go_at_call 91; (with_reducible refine HS.out.mono ?_); rintro e_ w3 ⟨rfl, hh, hG⟩; have HH := Aside0.mk hh; have HG := Aside0.mk hG; clear hh hG)
  go_end0
  exact ⟨rfl, HH.out, HG.out⟩
end
end Go.Proofs.YtnkhnnojdlgfjaaDoor.Srt
end
section
namespace Go.Proofs.YtnkhnnojdlgfjaaDoor.Srt
open Go.RowKit Go Go.Proofs Go.Proofs.YtnkhnnojdlgfjaaDoor Go.Proofs.YtnkhnnojdlgfjaaDoor.Ky Go.Proofs.YtnkhnnojdlgfjaaDoorW.PrintWords Go.Proofs.YtnkhnnojdlgfjaaDoorW.PrintLast Go.Proofs.YtnkhnnojdlgfjaaDoorW.PrintMore
set_option linter.unusedVariables false
set_option linter.unusedSimpArgs false
theorem info26 : (Tryd.prog.info? 47).map (fun i => (i.zero, i.size, i.bytes)) = some (some (.agg #[(.int .u64 0), (.int .i64 0)]), 2, 16) := by kernel_rfl
def kp : Kd K := Kd.pair (Kd.int .u64) (Kd.int .i64)
theorem kp_open {w : World} {x : K} {cs : List Value} (h : kp.K w x cs) : cs = [.int .u64 x.1, .int .i64 x.2] := by
  obtain ⟨_, _, rfl, rfl, rfl⟩ := h
  exact rfl
theorem kp_openM {w : World} {base : Nat} {ok : Nat → Prop} {x : K} {cs : List Value} (h : kp.M w base ok x cs) : cs = [.int .u64 x.1, .int .i64 x.2] := by
  obtain ⟨_, _, rfl, rfl, rfl⟩ := h
  exact rfl
theorem kp_mkM (w : World) (base : Nat) (ok : Nat → Prop) (x : K) : kp.M w base ok x [.int .u64 x.1, .int .i64 x.2] := ⟨[.int .u64 x.1], [.int .i64 x.2], rfl, rfl, rfl⟩
theorem C_at {w : World} {A : Option Addr} {n : Nat} {l : List K} (h : kp.C w A n l) (i : Nat) (h1 : i < n) : ∃ ad, A = some ad ∧ w.cell? (ad.add (i * 2)) = some (.int .u64 (gt l i).1) ∧ w.cell? ⟨(ad.add (i * 2)).block, (ad.add (i * 2)).off + 1, none⟩ = some (.int .i64 (gt l i).2) := by
  obtain ⟨ad, c, e, _, hK, hc0⟩ := Kd.C_get h (0, 0) (i : Int) (by omega) (by omega)
  have hc : ∀ j u, c[j]? = some u → w.cell? (ad.add (((i : Int)).toNat * 2 + j)) = some u := hc0
  obtain rfl := kp_open hK
  rw [Int.toNat_natCast] at hc
  refine ⟨ad, e, hc 0 _ rfl, ?_⟩
  rw [← add_field ad (i * 2) 1 (by omega)]
  exact hc 1 _ rfl
theorem reps_flat : ∀ {l : List K} {cs : List Value}, Reps (fun (x : K) c => c = [.int .u64 x.1, .int .i64 x.2]) 2 l cs → cs = flat l
  | [], cs, h => by
    have := h.1
    simp only [List.length_nil, Nat.zero_mul] at this
    exact List.eq_nil_of_length_eq_zero this
  | x :: t, cs, h => by
    have h0 := h.2 0 x rfl
    rw [Nat.zero_mul, List.drop_zero] at h0
    have h1 : Reps (fun (x : K) c => c = [.int .u64 x.1, .int .i64 x.2]) 2 t (cs.drop 2) := by
      refine ⟨by rw [List.length_drop, h.1, List.length_cons]; omega, fun j p hp => ?_⟩
      rw [List.drop_drop, show 2 + j * 2 = (j + 1) * 2 by omega]
      exact h.2 (j + 1) p hp
    rw [flat, ← reps_flat h1, ← List.take_append_drop 2 cs, h0]
    rfl
theorem flat_reps : ∀ l : List K, Reps (fun (x : K) c => c = [.int .u64 x.1, .int .i64 x.2]) 2 l (flat l)
  | [] => Reps.none _ _
  | x :: t => by
    refine ⟨by rw [flat_length], fun j p hp => ?_⟩
    match j with
    | 0 => injection hp with hp; subst hp; rfl
    | j + 1 =>
      rw [show (j + 1) * 2 = j * 2 + 1 + 1 by omega, flat, List.drop_succ_cons, List.drop_succ_cons]
      exact (flat_reps t).2 j p hp
theorem R_arr {w : World} {base : Nat} {ok : Nat → Prop} {v : Value} {l : List K} (h : kp.R 47 w base ok v l) (h0 : 0 < l.length) : ∃ g cap rs, v = .slice (some ⟨g, 0, none⟩) l.length cap ∧ base ≤ g ∧ ok g ∧ l.length ≤ cap ∧ cap ≤ maxLen ∧ l.length * 2 + rs.length = cap * 2 ∧ Arr rs w g l := by
  obtain ⟨hok, inner, ⟨hl, ho⟩, hr⟩ := h
  have hr' : Reps (fun (x : K) c => c = [.int .u64 x.1, .int .i64 x.2]) 2 l inner := ⟨hr.1, fun j p hp => kp_openM (hr.2 j p hp)⟩
  have hi := reps_flat hr'
  rcases ho with ⟨_, hn⟩ | ⟨g, cap, cur, rfl, hg, hh, hn, hm, hs, ht⟩
  · omega
  · have hs' : cur.size = cap * 2 := hs
    have ht' : cur.toList.take (l.length * 2) = inner := ht
    refine ⟨g, cap, cur.toList.drop (l.length * 2), rfl, hg, hok g rfl, hn, hm, ?_, ⟨cur, hh, ?_⟩⟩
    · have h2 : l.length * 2 ≤ cap * 2 := by omega
      rw [List.length_drop, show cur.toList.length = cap * 2 from hs']; omega
    · rw [← hi, ← ht', List.take_append_drop]
theorem arr_R {rs : List Value} {w : World} {g base cap : Nat} {ok : Nat → Prop} {l : List K} (h : Arr rs w g l) (hb : base ≤ g) (hok : ok g) (hn : l.length ≤ cap) (hm : cap ≤ maxLen) (hs : l.length * 2 + rs.length = cap * 2) : kp.R 47 w base ok (.slice (some ⟨g, 0, none⟩) l.length cap) l := by
  obtain ⟨cur, h1, h2⟩ := h.out
  have hsz : cur.size = cap * 2 := by rw [← Array.length_toList, h2, List.length_append, flat_length, hs]
  refine ⟨fun k hk => by injection hk with hk; subst hk; exact hok, flat l, ⟨flat_length l, .inr ⟨g, cap, cur, rfl, hb, h1, hn, hm, hsz, ?_⟩⟩, ?_⟩
  · show cur.toList.take (l.length * 2) = flat l
    rw [h2, ← flat_length, List.take_left]
  · exact ⟨(flat_reps l).1, fun j p hp => by rw [show ((flat l).drop (j * kp.sz)).take kp.sz = [.int .u64 p.1, .int .i64 p.2] from (flat_reps l).2 j p hp]; exact kp_mkM _ _ _ _⟩
theorem nil_of_none {w : World} {l : List K} (hr : kp.C w none l.length l) : l = [] := by
  cases l with
  | nil => rfl
  | cons x t =>
    exfalso
    obtain ⟨ad, c, h, _⟩ := ReadsRow.get_ hr (0, 0) 0 (by omega) (by simp)
    cases h
set_option maxHeartbeats 2000000 in
set_option maxRecDepth 100000 in
theorem clone_any (A0 : Option Addr) (c0 : Nat) (l0 : List K) (w : World) (hr : kp.C w A0 l0.length l0) (hl : l0.length ≤ 1000000) :
    Calls Tryd.prog 79 #[.slice A0 l0.length c0] w fun e w' => ∃ v0_ : Value, e = .returned v0_ ∧ kp.R 47 w' w.heap.size (fun _ => True) v0_ l0 ∧ Below w.heap.size w w' := by
  have q22 : ∀ (w : World) (a : Option Addr) (n c n' c' : Nat), (binOp .eql 44 (.slice a n c) (.slice none n' c')).run Tryd.prog w = .ok (.bool a.isNone) w := fun w a n c n' c' => Lib.run_eql_slice_nil w _ _ a n c n' c' Tryd.underlying44
  cases A0 with
  | none =>
    obtain rfl := nil_of_none hr
    clear hr
    go_enter Tryd.func79, Tryd.ntmps79
    go_wp2
    go_ret
    exact ⟨_, rfl, Kd.R_nil _ _ _ _ _, Below.refl _ _⟩
  | some a =>
    have H := Aside0.mk hr
    clear hr
    go_enter Tryd.func79, Tryd.ntmps79
    go_wp2_with (at_builtin; refine Kd.R_append_rows kp (Rr := kp.K (w.alloc (.cells #[] 47))) (w0 := w) w.heap.size rfl (.tmp 5) (.tmp 6) 44 47 (.agg #[(.int .u64 0), (.int .i64 0)]) 16 rfl Tryd.underlying44 info26 rfl (show 0 < kp.sz by show 0 < 2; omega) (by omega) _ [] l0 (some a) l0.length c0 (fun _ => True) (fun _ => False) rfl rfl ?aO ?aR ?aK (fun _ h => h.elim) (fun _ _ => trivial) ?aB ?aS ?aL ?_)
    case aO => exact ⟨fun _ _ => trivial, [], World.ownsRow_made w #[] 0 (Nat.le_refl _) (Nat.zero_le _) (by simp), Reps.none _ _⟩
    case aR => exact (Kd.C_below H.out ((Below.refl _ w).alloc (Nat.le_refl _) _))
    case aK => intro x cs h; rw [kp_open h]; exact kp_mkM _ _ _ _
    case aB => exact (Below.refl _ w).alloc (Nat.le_refl _) _
    case aS => simp
    case aL => simp; omega
    intro v1 w1 hR hB hg _
    have HR := Aside0.mk hR
    clear hR hg
    go_wp2
    go_ret
    exact ⟨v1, rfl, by simpa using HR.out, hB⟩
structure Cmp26 (mn : Int) (cv : K → K → Int) : Prop where mk ::
  out : ∀ (W : World) (x y : K), Calls Tryd.prog 71 #[.int .u64 mn, .agg #[.int .u64 x.1, .int .i64 x.2], .agg #[.int .u64 y.1, .int .i64 y.2]] W fun e w' => e = .returned (.int .i64 (cv x y)) ∧ Below W.heap.size W w'
set_option maxHeartbeats 2000000 in
set_option maxRecDepth 100000 in
theorem cmp_30 {mn : Int} {cv : K → K → Int} (h : Cmp26 mn cv) (B : Nat) : CmpOk cv B mn := fun W x y hB => by
  have H := Aside0.mk h
  have HB0 := Aside0.mk (below_alloc (below_alloc (Below.refl W.heap.size W) (.cells #[.int .u64 x.1, .int .i64 x.2] 47)) (.cells #[.int .u64 y.1, .int .i64 y.2] 47))
  have hlt := World.block_lt_of_cell? W _ hB
  clear h
  go_enter Tryd.func81, Tryd.ntmps81
  go_wp2_with (go_at_call 71; (with_reducible refine (H.out.out _ x y).mono ?_); rintro e w3 ⟨rfl, hb⟩; have HB1 := Aside0.mk (below_step HB0.out hb); clear hb)
  go_ret
  exact ⟨rfl, HB1.out⟩
end Go.Proofs.YtnkhnnojdlgfjaaDoor.Srt
end
