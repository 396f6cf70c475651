/- Parts of the proof, joined: Q4. -/
import Derived.Test.YtnkhnnojdlgfjaaDoorUF33
namespace Go.Proofs.YtnkhnnojdlgfjaaDoor.Qw
open Go.RowKit Go Go.Proofs Go.Proofs.YtnkhnnojdlgfjaaDoor Go.Proofs.YtnkhnnojdlgfjaaDoor.Tr Go.Proofs.YtnkhnnojdlgfjaaDoor.Tk Go.Proofs.YtnkhnnojdlgfjaaDoor.Tm Go.Proofs.YtnkhnnojdlgfjaaDoor.Qu Go.Proofs.YtnkhnnojdlgfjaaDoorW.PrintWords Go.Proofs.YtnkhnnojdlgfjaaDoorW.PrintLast Go.Proofs.YtnkhnnojdlgfjaaDoorW.PrintMore
set_option linter.unusedVariables false
set_option linter.unusedSimpArgs false
variable {S : Nat → Prop} {A B : Option Addr} {c d : Nat} {w w' : World} {q : Q}
set_option maxHeartbeats 8000000 in
set_option maxRecDepth 100000 in
theorem up_ (h : QIn S A c B d w q) (hr : rightA q.t q.mn = true) (hc : CurOk q) (hT : Emp w) : Calls Tryd.prog 36 #[.agg (qc A c B d q)] w fun e w' => ∃ u, e = .returned u ∧ QPost S w (upA q) u w' := by
  have HQ := Aside0.mk h
  have HT := Aside0.mk hT
  have HK := Aside0.mk (fun (W : World) (h : QIn S A c B d W q) (hT : Emp W) => keys_ h hr hc hT)
  clear h hT hr hc
  have HU := Aside0.mk (show upA q = match keysA q with | [] => q | k :: _ => { q with mn := laterA q.mn k.1 } from rfl)
  generalize hu : upA q = qu at HU ⊢
  generalize keysA q = K1 at HK HU
  clear hu
  obtain ⟨⟨ns, rt⟩, cur, v, mn, load, ws⟩ := q
  replace HK : Aside0 (∀ (W : World), QIn S A c B d W ⟨⟨ns, rt⟩, cur, v, mn, load, ws⟩ → Emp W → Calls Tryd.prog 32 #[.agg #[.int .i64 rt, .slice A ns.length c, .int .i64 cur, .int .u64 v, .int .u64 mn, .int .i64 load, .slice B ws.length d]] W fun e w' => KPost W K1 e w') := HK
  show Calls Tryd.prog 36 #[.agg #[.int .i64 rt, .slice A ns.length c, .int .i64 cur, .int .u64 v, .int .u64 mn, .int .i64 load, .slice B ws.length d]] w _
  go_enter Tryd.func36, Tryd.ntmps36
  go_upto_region 1 with (fail)
  have HX := Aside0.mk ((QB.new w rt A ns.length c cur v mn load B ws.length d).below (below_alloc (Below.refl _ _) (.cells #[.int .i64 0, .slice none 0 0, .int .i64 0, .int .u64 0, .int .u64 0, .int .i64 0, .slice none 0 0] 28)))
  have HZ := Aside0.mk (QB.new (w.alloc (.cells #[.int .i64 rt, .slice A ns.length c, .int .i64 cur, .int .u64 v, .int .u64 mn, .int .i64 load, .slice B ws.length d] 28)) 0 none 0 0 0 0 0 0 none 0 0)
  have HB := Aside0.mk (below_alloc (below_alloc (Below.refl w.heap.size w) (.cells #[.int .i64 rt, .slice A ns.length c, .int .i64 cur, .int .u64 v, .int .u64 mn, .int .i64 load, .slice B ws.length d] 28)) (.cells #[.int .i64 0, .slice none 0 0, .int .i64 0, .int .u64 0, .int .u64 0, .int .i64 0, .slice none 0 0] 28))
  simp only [World.size_alloc] at HZ
  generalize (w.alloc (.cells #[.int .i64 rt, .slice A ns.length c, .int .i64 cur, .int .u64 v, .int .u64 mn, .int .i64 load, .slice B ws.length d] 28)).alloc (.cells #[.int .i64 0, .slice none 0 0, .int .i64 0, .int .u64 0, .int .u64 0, .int .i64 0, .slice none 0 0] 28) = W1 at HX HZ HB ⊢
  have a0 := HX.out.c0
  have a1 := HX.out.c1
  have a2 := HX.out.c2
  have a3 := HX.out.c3
  have a4 := HX.out.c4
  have a5 := HX.out.c5
  have a6 := HX.out.c6
  have HQ1 := Aside0.mk (HQ.out.below HB.out)
  have HT1 := Aside0.mk (HT.out.below HB.out)
  go_upto_region 2 with (go_at_call 32; refine (HK.out _ HQ1.out HT1.out).mono ?_; rintro e w2 ⟨v1, rfl, hR, hb⟩; obtain ⟨A2, c2, hv2, hlc2, hC2⟩ := Kd.R_reads hR; subst hv2; have HC2 := Aside0.mk hC2; have HX2 := Aside0.mk (HX.out.below hb); have HZ2 := Aside0.mk (HZ.out.below hb); have HB2 := Aside0.mk (below_step HB.out hb); clear hR hb hC2 hlc2)
  clear a0 a1 a2 a3 a4 a5 a6
  cases K1 with
  | nil =>
    obtain rfl : qu = ⟨⟨ns, rt⟩, cur, v, mn, load, ws⟩ := HU.out
    have a0 := HX2.out.c0
    have a1 := HX2.out.c1
    have a2 := HX2.out.c2
    have a3 := HX2.out.c3
    have a4 := HX2.out.c4
    have a5 := HX2.out.c5
    have a6 := HX2.out.c6
    have z0 := HZ2.out.c0
    have z1 := HZ2.out.c1
    have z2 := HZ2.out.c2
    have z3 := HZ2.out.c3
    have z4 := HZ2.out.c4
    have z5 := HZ2.out.c5
    have z6 := HZ2.out.c6
    have f0 := HZ2.out.frozen 0
    have f1 := HZ2.out.frozen 1
    have f2 := HZ2.out.frozen 2
    have f3 := HZ2.out.frozen 3
    have f4 := HZ2.out.frozen 4
    have f5 := HZ2.out.frozen 5
    have f6 := HZ2.out.frozen 6
    go_wp2
    refine bodyPost_ret (results_c1 (cs := #[.int .i64 rt, .slice A ns.length c, .int .i64 cur, .int .u64 v, .int .u64 mn, .int .i64 load, .slice B ws.length d]) rfl _ _ (w.heap.size + 1) 28 (0, 0) _ rfl (set7_out HZ2.out.out rfl _ _ _ _ _ _ _) Tryd.underlying28 rfl (by kernel_rfl)) rfl ?_
    have HBE := set7_below HB2.out (g := w.heap.size + 1) (by omega) (.int .i64 rt) (.slice A ns.length c) (.int .i64 cur) (.int .u64 v) (.int .u64 mn) (.int .i64 load) (.slice B ws.length d)
    exact ⟨_, rfl, _, _, _, _, rfl, HQ.out.below HBE, HBE⟩
  | cons k R =>
    obtain rfl : qu = ⟨⟨ns, rt⟩, cur, v, laterA mn k.1, load, ws⟩ := HU.out
    obtain ⟨ad, e1, k0, k1⟩ := Tk.C_at HC2.out 0 (by simp)
    subst e1
    have a4 := HX2.out.c4
    have f4 := HX2.out.frozen 4
    replace k0 : w2.cell? ad = some (.int .u64 k.1) := by simpa [gt, Addr.add] using k0
    clear k1
    go_upto_region 3 with (fail)
    go_region_with (go_at_call 67; refine (later_ mn k.1 _).mono ?_; rintro e w3 ⟨rfl, hb0⟩; have hb : Below w2.heap.size w2 w3 := (Below.drew (Below.refl _ _)).trans hb0; clear hb0; have HX3 := Aside0.mk (HX2.out.below hb); have HZ3 := Aside0.mk (HZ2.out.below hb); have HB3 := Aside0.mk (below_step HB2.out hb); clear hb; have a4 := HX3.out.c4; have f4 := HX3.out.frozen 4)
    all_goals (
      have HX4 := Aside0.mk (HX3.out.st4 (laterA mn k.1))
      have HZ4 := Aside0.mk (HZ3.out.far (k := w.heap.size) (by omega) 4 (.int .u64 (laterA mn k.1)))
      have HB4 := Aside0.mk (Below.setCell HB3.out (p := ⟨w.heap.size, 4, none⟩) (Nat.le_refl _) (.int .u64 (laterA mn k.1)))
      clear a4 f4 k0
      generalize w3.setCell ⟨w.heap.size, 4, none⟩ (.int .u64 (laterA mn k.1)) = w4 at HX4 HZ4 HB4 ⊢
      have a0 := HX4.out.c0
      have a1 := HX4.out.c1
      have a2 := HX4.out.c2
      have a3 := HX4.out.c3
      have a4 := HX4.out.c4
      have a5 := HX4.out.c5
      have a6 := HX4.out.c6
      have z0 := HZ4.out.c0
      have z1 := HZ4.out.c1
      have z2 := HZ4.out.c2
      have z3 := HZ4.out.c3
      have z4 := HZ4.out.c4
      have z5 := HZ4.out.c5
      have z6 := HZ4.out.c6
      have f0 := HZ4.out.frozen 0
      have f1 := HZ4.out.frozen 1
      have f2 := HZ4.out.frozen 2
      have f3 := HZ4.out.frozen 3
      have f4 := HZ4.out.frozen 4
      have f5 := HZ4.out.frozen 5
      have f6 := HZ4.out.frozen 6
      go_wp2
      refine bodyPost_ret (results_c1 (cs := #[.int .i64 rt, .slice A ns.length c, .int .i64 cur, .int .u64 v, .int .u64 (laterA mn k.1), .int .i64 load, .slice B ws.length d]) rfl _ _ (w.heap.size + 1) 28 (0, 0) _ rfl (set7_out HZ4.out.out rfl _ _ _ _ _ _ _) Tryd.underlying28 rfl (by kernel_rfl)) rfl ?_
      have HBE := set7_below HB4.out (g := w.heap.size + 1) (by omega) (.int .i64 rt) (.slice A ns.length c) (.int .i64 cur) (.int .u64 v) (.int .u64 (laterA mn k.1)) (.int .i64 load) (.slice B ws.length d)
      exact ⟨_, rfl, _, _, _, _, rfl, (HQ.out.below HBE).fields rfl rfl, HBE⟩)
theorem far_eq (lag : Int) : (lag != clampA lag (-1125899906842624) 1125899906842624) = (decide (lag < -1125899906842624) || decide (1125899906842624 < lag)) := by
  refine bool_ext ?_
  rw [bne_iff_ne, Bool.or_eq_true, decide_eq_true_iff, decide_eq_true_iff]
  unfold clampA
  repeat' split
  all_goals omega
set_option maxHeartbeats 8000000 in
set_option maxRecDepth 100000 in
theorem far_ (k : K) (g : Nat) (mn : Int) (w : World) (hm : w.cell? ⟨g, 4, none⟩ = some (.int .u64 mn)) : Calls Tryd.prog 48 #[.agg #[.int .u64 k.1, .int .i64 k.2], .pointer (some ⟨g, 0, none⟩)] w fun e w' => e = .returned (.bool (farA mn k)) ∧ Below w.heap.size w w' := by
  have HB := Aside0.mk (below_alloc (Below.refl w.heap.size w) (.cells #[.int .u64 k.1, .int .i64 k.2] 47))
  have hlt := World.block_lt_of_cell? w _ hm
  unfold farA
  have HLG := Aside0.mk (fun W => lag_ k.1 mn W)
  generalize lagf mn k.1 = lg at HLG ⊢
  have HF := Aside0.mk (far_eq lg)
  go_enter Tryd.func48, Tryd.ntmps48
  go_wp2_with (first
    | (go_at_call 46; refine (HLG.out _).mono ?_; rintro e w2 ⟨rfl, hb⟩; have HB2 := Aside0.mk (below_step HB.out hb); clear hb)
    | (go_at_call 28; refine (clamp_ lg (-1125899906842624) 1125899906842624 _).mono ?_; rintro e w3 ⟨rfl, hb⟩; have HB3 := Aside0.mk (below_step HB2.out hb); clear hb))
  go_ret
  exact ⟨by rw [← HF.out]; rfl, HB3.out⟩
set_option maxHeartbeats 8000000 in
set_option maxRecDepth 100000 in
theorem index_ (p : K → Bool) (A0 : Option Addr) (c0 : Nat) (l : List K) (w : World) (g : Nat) (hr : kp.C w A0 l.length l) (hl : l.length ≤ 1000000)
    (hp : ∀ (W : World) (x : K), Below w.heap.size w W → Calls Tryd.prog 48 #[.agg #[.int .u64 x.1, .int .i64 x.2], .pointer (some ⟨g, 0, none⟩)] W fun e w' => e = .returned (.bool (p x)) ∧ Below W.heap.size W w') :
    Calls Tryd.prog 76 #[.slice A0 l.length c0, .func (.func 48) #[] #[.pointer (some ⟨g, 0, none⟩)]] w fun e w' => ∃ r, e = .returned (.int .i64 r) ∧ decide (0 ≤ r) = l.any p ∧ Below w.heap.size w w' := by
  have HR := Aside0.mk hr
  have HP := Aside0.mk hp
  clear hr hp
  go_enter Tryd.func76, Tryd.ntmps76
  go_wp2
  go_loopw [8] (fun i wr => Sl1 (fun i wr => i ≤ l.length ∧ Aside0 (Below w.heap.size w wr) ∧ Aside0 (∀ t, t < i → p (gt l t) = false)) i wr) (fun i _ => l.length - (intOf i).toNat)
  case atStart => exact ⟨0, by simp, Nat.zero_le _, ⟨Below.refl _ _⟩, ⟨fun t ht => by omega⟩⟩
  case round =>
    obtain ⟨i, rfl, h1, HB, HN⟩ := hrel.out
    by_cases hlt : i < l.length
    · obtain ⟨ad2, e2, c1, c2⟩ := Tk.C_at (Kd.C_below HR.out HB.out) i hlt
      subst e2
      have HM := Aside0.mk (gt_mem l i hlt)
      generalize hx : gt l i = x at c1 c2 HM
      have HX := Aside0.mk hx
      have n1 : (i : Int) < (l.length : Int) := by omega
      clear hx
      cases hpx : p x with
      | true =>
        have HPX := Aside0.mk hpx
        clear hpx
        go_wp2_with (go_at_call 48; (with_reducible refine (HP.out _ x HB.out).mono ?_); rintro e w3 ⟨rfl, hb⟩; have HB2 := Aside0.mk (below_step HB.out hb); clear hb; rw [HPX.out])
        go_ret
        exact ⟨_, rfl, by rw [List.any_eq_true.2 ⟨x, HM.out, HPX.out⟩]; exact decide_eq_true (Int.natCast_nonneg i), HB2.out⟩
      | false =>
        have HPX := Aside0.mk hpx
        clear hpx
        go_wp2_with (go_at_call 48; (with_reducible refine (HP.out _ x HB.out).mono ?_); rintro e w3 ⟨rfl, hb⟩; have HB2 := Aside0.mk (below_step HB.out hb); clear hb; rw [HPX.out])
        refine ⟨⟨i + 1, by simp, by omega, HB2, ⟨fun t ht => ?_⟩⟩, ?_⟩
        · by_cases e : t = i
          · subst e; rw [HX.out]; exact HPX.out
          · exact HN.out t (by omega)
        · show l.length - ((i : Int) + 1).toNat < l.length - (i : Int).toNat
          omega
    · obtain rfl : i = l.length := by omega
      go_wp2
      go_ret
      refine ⟨_, rfl, ?_, HB.out⟩
      rw [show l.any p = false from List.any_eq_false.2 fun x hx => by
        obtain ⟨t, ht, rfl⟩ := List.mem_iff_getElem.1 hx
        have := HN.out t ht
        rw [gt_of l t ht] at this
        simp [this]]
      rfl
set_option maxHeartbeats 8000000 in
set_option maxRecDepth 100000 in
theorem contains_ (p : K → Bool) (A0 : Option Addr) (c0 : Nat) (l : List K) (w : World) (g : Nat) (hr : kp.C w A0 l.length l) (hl : l.length ≤ 1000000)
    (hp : ∀ (W : World) (x : K), Below w.heap.size w W → Calls Tryd.prog 48 #[.agg #[.int .u64 x.1, .int .i64 x.2], .pointer (some ⟨g, 0, none⟩)] W fun e w' => e = .returned (.bool (p x)) ∧ Below W.heap.size W w') :
    Calls Tryd.prog 49 #[.slice A0 l.length c0, .func (.func 48) #[] #[.pointer (some ⟨g, 0, none⟩)]] w fun e w' => e = .returned (.bool (l.any p)) ∧ Below w.heap.size w w' := by
  have HR := Aside0.mk hr
  have HP := Aside0.mk hp
  clear hr hp
  go_enter Tryd.func49, Tryd.ntmps49
  go_wp2_with (go_at_call 76; refine (index_ p A0 c0 l _ g HR.out hl HP.out).mono ?_; rintro e w2 ⟨r, rfl, hr, hb⟩; have HRR := Aside0.mk hr; have HB := Aside0.mk hb; clear hr hb)
  go_ret
  exact ⟨by rw [← HRR.out]; rfl, HB.out⟩
end Go.Proofs.YtnkhnnojdlgfjaaDoor.Qw
