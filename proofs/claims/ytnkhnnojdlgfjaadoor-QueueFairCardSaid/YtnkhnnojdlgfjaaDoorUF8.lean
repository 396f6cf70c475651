/- Parts of the proof, joined: Tm5. -/
import Derived.Test.YtnkhnnojdlgfjaaDoorUF7
namespace Go.Proofs.YtnkhnnojdlgfjaaDoor.Tm
open Go.RowKit Go Go.Proofs Go.Proofs.YtnkhnnojdlgfjaaDoor Go.Proofs.YtnkhnnojdlgfjaaDoor.Tr Go.Proofs.YtnkhnnojdlgfjaaDoorW.PrintWords Go.Proofs.YtnkhnnojdlgfjaaDoorW.PrintLast Go.Proofs.YtnkhnnojdlgfjaaDoorW.PrintMore
set_option linter.unusedVariables false
set_option linter.unusedSimpArgs false
def blA : T → Int × Bool
  | .E => (0, true)
  | .B c l _ r => if (blA l).2 = false then (0, false) else if (blA r).2 = false then (0, false) else if (blA l).1 ≠ (blA r).1 then (0, false) else if c = true ∧ (l.red = true ∨ r.red = true) then (0, false) else if c = true then ((blA l).1, true) else ((blA l).1 + 1, true)
theorem blA_le : ∀ a : T, 0 ≤ (blA a).1 ∧ (blA a).1 ≤ a.size
  | .E => ⟨Int.le_refl _, Int.le_refl _⟩
  | .B c l x r => by
    have h1 := blA_le l
    have h2 := blA_le r
    have hs : ((T.B c l x r).size : Int) = (l.size : Int) + r.size + 1 := by show ((l.size + r.size + 1 : Nat) : Int) = _; omega
    unfold blA
    rw [hs]
    split
    · simp; omega
    · split
      · simp; omega
      · split
        · simp; omega
        · split
          · simp; omega
          · split
            · simp; omega
            · simp; omega
def hgt : T → Int
  | .E => 0
  | .B _ l _ r => 1 + max (hgt l) (hgt r)
variable {A : Option Addr} {c : Nat} {w w1 : World} {g b : Nat} {t : St}
theorem rt_ltI {t : St} {a : T} (ha : Lay t a none) : a.rt < (t.ns.length : Int) := by
  have h := rt_lt ha
  omega
theorem redLay {t : St} {a : T} {u : Option Int} (h : Lay t a u) : redA t a.rt = a.red := red_lay h
set_option maxHeartbeats 8000000 in
set_option maxRecDepth 100000 in
theorem blacks_ : ∀ (a : T) (w : World) (u : Option Int), Wk A c w g b t → Lay t a u → a.size ≤ 1000000 →
    Calls Tryd.prog 74 #[.pointer (some ⟨g, 0, none⟩), .int .i64 a.rt] w fun e w' => e = .returned (.tuple #[.int .i64 (blA a).1, .bool (blA a).2]) ∧ ∃ n, w' = w.drewN n := by
  intro a
  induction a with
  | E =>
    intro w u _ _ _
    change Calls Tryd.prog 74 #[.pointer (some ⟨g, 0, none⟩), .int .i64 (-1)] w _
    go_enter Tryd.func74, Tryd.ntmps74
    go_wp2
    go_ret2
    exact ⟨rfl, 0, rfl⟩
  | B cl l x r ihl ihr =>
    intro w u h hL hs
    have hs2 : l.size + r.size + 1 ≤ 1000000 := hs
    have HRX := Aside0.mk (show redA t (x : Int) = cl from red_lay hL)
    obtain ⟨h1, h2, h3, h4, h5, h6, h7, h8⟩ := hL
    have b1 := blA_le l
    have b2 := blA_le r
    have hx : (x : Int) < (t.ns.length : Int) := by omega
    have c1 : w.cell? ⟨b, x * 6 + 3, none⟩ = some (.int .i64 l.rt) := by
      have := h.fl (x : Int) (by omega) hx
      unfold kidA at this
      rw [Int.toNat_natCast] at this
      rw [this]
      exact congrArg (fun z => some (Value.int .i64 z)) h4
    have c2 : w.cell? ⟨b, x * 6 + 4, none⟩ = some (.int .i64 r.rt) := by
      have := h.fr (x : Int) (by omega) hx
      unfold kidA at this
      rw [Int.toNat_natCast] at this
      rw [this]
      exact congrArg (fun z => some (Value.int .i64 z)) h5
    have H := Aside0.mk h
    have HX := Aside0.mk hx
    have HRL := Aside0.mk (redLay h7)
    have HRR := Aside0.mk (redLay h8)
    have HLN := Aside0.mk (rt_ltI h7.loose)
    have HRN := Aside0.mk (rt_ltI h8.loose)
    have HE := Aside0.mk (show blA (T.B cl l x r) = if (blA l).2 = false then (0, false) else if (blA r).2 = false then (0, false) else if (blA l).1 ≠ (blA r).1 then (0, false) else if cl = true ∧ (l.red = true ∨ r.red = true) then (0, false) else if cl = true then ((blA l).1, true) else ((blA l).1 + 1, true) from rfl)
    have IL := Aside0.mk (fun w hw => ihl w _ hw h7 (by omega))
    have IR := Aside0.mk (fun w hw => ihr w _ hw h8 (by omega))
    clear h ihl ihr h1 h2 h3 h4 h5 h6 h7 h8 hx
    rw [HE.out]
    clear HE
    generalize blA l = pl at b1 IL ⊢
    generalize blA r = pr at b2 IR ⊢
    obtain ⟨n1, o1⟩ := pl
    obtain ⟨n2, o2⟩ := pr
    generalize l.red = rl at HRL ⊢
    generalize r.red = rr at HRR ⊢
    simp only at b1 b2 IL IR ⊢
    change Calls Tryd.prog 74 #[.pointer (some ⟨g, 0, none⟩), .int .i64 (x : Int)] w _
    have walk : ∀ (res : Int × Bool), res = (if o1 = false then (0, false) else if o2 = false then (0, false) else if n1 ≠ n2 then (0, false) else if cl = true ∧ (rl = true ∨ rr = true) then (0, false) else if cl = true then (n1, true) else (n1 + 1, true)) → Calls Tryd.prog 74 #[.pointer (some ⟨g, 0, none⟩), .int .i64 (x : Int)] w fun e w' => e = .returned (.tuple #[.int .i64 res.1, .bool res.2]) ∧ ∃ n, w' = w.drewN n := by
      intro res hres
      have HRES := Aside0.mk hres
      clear hres
      go_enter Tryd.func74, Tryd.ntmps74
      go_wp2
      go_quiet (first
        | (go_at_call 61; exact Calls.quiet_of_same (left_ (by first | exact H.out | exact H.out.drewN _) (x : Int) (by omega) HX.out))
        | (go_at_call 64; exact Calls.quiet_of_same (right_ (by first | exact H.out | exact H.out.drewN _) (x : Int) (by omega) HX.out)))
      go_upto_region 5 with (go_at_call_of 74 (Value.int IntKind.i64 l.rt); refine (IL.out _ (H.out.drewN _)).mono ?_; rintro e wq ⟨rfl, m1, rfl⟩)
      go_upto_region 6 with (go_at_call_of 74 (Value.int IntKind.i64 r.rt); refine (IR.out _ (H.out.drewN _)).mono ?_; rintro e wq ⟨rfl, m2, rfl⟩)
      have HW := Aside0.mk (show ∃ n, w.drewN (nq + m1 + m2) = w.drewN n from ⟨_, rfl⟩)
      have H2 := Aside0.mk (H.out.drewN (nq + m1 + m2))
      generalize w.drewN (nq + m1 + m2) = w3 at HW H2 ⊢
      have fin : ∀ (n : Int) (o : Bool), n = res.1 → o = res.2 → (Ending.returned (.tuple #[.int .i64 n, .bool o]) = Ending.returned (.tuple #[.int .i64 res.1, .bool res.2]) ∧ ∃ n, w3 = w.drewN n) := fun n o e1 e2 => by rw [e1, e2]; exact ⟨rfl, HW.out⟩
      have FIN := Aside0.mk fin
      clear fin
      cases o1 with
      | false =>
        have HR2 := Aside0.mk (show res = (0, false) by rw [HRES.out]; rfl)
        go_wp2_with (fail)
        go_ret2
        exact FIN.out _ _ (by rw [HR2.out]) (by rw [HR2.out])
      | true =>
        cases o2 with
        | false =>
          have HR2 := Aside0.mk (show res = (0, false) by rw [HRES.out]; rfl)
          go_wp2_with (fail)
          go_ret2
          exact FIN.out _ _ (by rw [HR2.out]) (by rw [HR2.out])
        | true =>
          by_cases hne : n1 = n2
          · subst hne
            have HR3 := Aside0.mk (show res = if cl = true ∧ (rl = true ∨ rr = true) then (0, false) else if cl = true then (n1, true) else (n1 + 1, true) by rw [HRES.out, if_neg (by simp), if_neg (by simp), if_neg (by simp)])
            clear HRES
            cases cl with
            | false =>
              have HR2 := Aside0.mk (show res = (n1 + 1, true) by rw [HR3.out]; rfl)
              go_wp2_with (go_at_call 62; refine (red_v H2.out (x : Int) HX.out false HRX.out).mono ?_; rintro e wq ⟨rfl, rfl⟩)
              go_ret2
              exact FIN.out _ _ (by rw [HR2.out]) (by rw [HR2.out])
            | true =>
              cases rl with
              | true =>
                have HR2 := Aside0.mk (show res = (0, false) by rw [HR3.out]; rfl)
                go_wp2_with (go_at_call 62; first | (with_reducible refine (red_v H2.out (x : Int) HX.out true HRX.out).mono ?_; rintro e wq ⟨rfl, rfl⟩) | (with_reducible refine (red_v H2.out l.rt HLN.out true HRL.out).mono ?_; rintro e wq ⟨rfl, rfl⟩))
                go_ret2
                exact FIN.out _ _ (by rw [HR2.out]) (by rw [HR2.out])
              | false =>
                cases rr with
                | true =>
                  have HR2 := Aside0.mk (show res = (0, false) by rw [HR3.out]; rfl)
                  go_wp2_with (go_at_call 62; first | (with_reducible refine (red_v H2.out (x : Int) HX.out true HRX.out).mono ?_; rintro e wq ⟨rfl, rfl⟩) | (with_reducible refine (red_v H2.out l.rt HLN.out false HRL.out).mono ?_; rintro e wq ⟨rfl, rfl⟩) | (with_reducible refine (red_v H2.out r.rt HRN.out true HRR.out).mono ?_; rintro e wq ⟨rfl, rfl⟩))
                  go_ret2
                  exact FIN.out _ _ (by rw [HR2.out]) (by rw [HR2.out])
                | false =>
                  have HR2 := Aside0.mk (show res = (n1, true) by rw [HR3.out]; rfl)
                  go_wp2_with (go_at_call 62; first | (with_reducible refine (red_v H2.out (x : Int) HX.out true HRX.out).mono ?_; rintro e wq ⟨rfl, rfl⟩) | (with_reducible refine (red_v H2.out l.rt HLN.out false HRL.out).mono ?_; rintro e wq ⟨rfl, rfl⟩) | (with_reducible refine (red_v H2.out r.rt HRN.out false HRR.out).mono ?_; rintro e wq ⟨rfl, rfl⟩))
                  go_ret2
                  exact FIN.out _ _ (by rw [HR2.out]) (by rw [HR2.out])
          · have HR2 := Aside0.mk (show res = (0, false) by rw [HRES.out, if_neg (by simp), if_neg (by simp), if_pos hne])
            have hb : (n1 == n2) = false := by simpa using hne
            have hb2 : (n1 != n2) = true := by simpa using hne
            go_wp2_with (fail)
            go_ret2
            exact FIN.out _ _ (by rw [HR2.out]) (by rw [HR2.out])
    exact walk _ rfl
end Go.Proofs.YtnkhnnojdlgfjaaDoor.Tm
