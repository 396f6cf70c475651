/- Parts of the proof, joined: Q7. -/
import Derived.Test.YtnkhnnojdlgfjaaDoorUF36
namespace Go.Proofs.YtnkhnnojdlgfjaaDoor.Qw
open Go.RowKit Go Go.Proofs Go.Proofs.YtnkhnnojdlgfjaaDoor Go.Proofs.YtnkhnnojdlgfjaaDoor.Tr Go.Proofs.YtnkhnnojdlgfjaaDoor.Tk Go.Proofs.YtnkhnnojdlgfjaaDoor.Tm Go.Proofs.YtnkhnnojdlgfjaaDoor.Qu Go.Proofs.YtnkhnnojdlgfjaaDoorW.PrintWords Go.Proofs.YtnkhnnojdlgfjaaDoorW.PrintLast Go.Proofs.YtnkhnnojdlgfjaaDoorW.PrintMore
set_option linter.unusedVariables false
set_option linter.unusedSimpArgs false
variable {S : Nat → Prop} {A B : Option Addr} {c d : Nat} {w w' : World} {q : Q}
def bx (S : Nat → Prop) (a n : Nat) (k : Nat) : Prop := S k ∨ a ≤ k ∧ k < a + n
theorem QIn.boxes {n : Nat} (h : QIn S A c B d w q) (hb : Below w.heap.size w w') (hl : w.heap.size + n ≤ w'.heap.size) : QIn (bx S w.heap.size n) A c B d w' q :=
  h.more hb (fun k hk => hk.elim Or.inl (fun e => Or.inr e.1)) (fun k hk => hk.elim (fun e => Nat.lt_of_lt_of_le (h.sl k e) hb.size) (fun e => Nat.lt_of_lt_of_le e.2 hl))
theorem QIn.unbox {a n : Nat} (h : QIn (bx S a n) A c B d w q) : QIn S A c B d w q := h.less (fun k hk => Or.inl hk)
theorem QIn.put {a n : Nat} (h : QIn (bx S a n) A c B d w q) (g i : Nat) (h1 : a ≤ g) (h2 : g < a + n) (u : Value) : QIn (bx S a n) A c B d (w.setCell ⟨g, i, none⟩ u) q := h.ag ((Ag.refl _ w).set (Or.inl (Or.inr ⟨h1, h2⟩)) u)
theorem QIn.put7 {a n : Nat} (h : QIn (bx S a n) A c B d w q) (g : Nat) (h1 : a ≤ g) (h2 : g < a + n) (v0 v1 v2 v3 v4 v5 v6 : Value) : QIn (bx S a n) A c B d (set7 w g v0 v1 v2 v3 v4 v5 v6) q :=
  ((((((h.put g 0 h1 h2 v0).put g 1 h1 h2 v1).put g 2 h1 h2 v2).put g 3 h1 h2 v3).put g 4 h1 h2 v4).put g 5 h1 h2 v5).put g 6 h1 h2 v6
set_option maxHeartbeats 8000000 in
set_option maxRecDepth 100000 in
theorem back_ (h : QIn S A c B d w q) (hT : Emp w) (hr : rightQ q = true) (x : Q) (hf : backA q = some x) : Calls Tryd.prog 33 #[.agg (qc A c B d q)] w fun e w' => ∃ u, e = .returned u ∧ QPost S w x u w' := by
  have HQ := Aside0.mk h
  have HT := Aside0.mk hT
  have hfx := hf
  unfold backA at hf
  have HIN := Aside0.mk (show q.cur ≠ -1 → ∃ t', insA q.t q.mn (q.v, q.cur) = some (t', 0) ∧ t'.ns.length = q.t.ns.length from fun hc => by
    obtain ⟨L, hj⟩ := right_QJ hr
    have h0 : 0 ≤ q.cur := by have := hj.c1; omega
    rcases ins_J (k := (q.v, q.cur)) hj.tr h0 hj.c2 with ⟨t', e1, e2, e3⟩ | ⟨r, e1, e2, y, hy, e⟩
    · exact ⟨t', e1, e2.len⟩
    · exact absurd e (hj.no hc y hy))
  clear h hT hr hfx
  obtain ⟨⟨ns, rt⟩, cur, v, mn, load, ws⟩ := q
  show Calls Tryd.prog 33 #[.agg #[.int .i64 rt, .slice A ns.length c, .int .i64 cur, .int .u64 v, .int .u64 mn, .int .i64 load, .slice B ws.length d]] w _
  by_cases b : cur = -1
  · obtain rfl : x = ⟨⟨ns, rt⟩, cur, v, mn, load, ws⟩ := by rw [if_pos b] at hf; exact (Option.some.inj hf).symm
    have b1 : (cur != -1) = false := by simpa using b
    clear HIN hf b
    go_enter Tryd.func33, Tryd.ntmps33
    go_upto_region 1 with (fail)
    have HX := Aside0.mk ((QB.new w rt A ns.length c cur v mn load B ws.length d).below (below_alloc (Below.refl _ _) (.cells #[.int .i64 0, .slice none 0 0, .int .i64 0, .int .u64 0, .int .u64 0, .int .i64 0, .slice none 0 0] 28)))
    have HZ := Aside0.mk (QB.new (w.alloc (.cells #[.int .i64 rt, .slice A ns.length c, .int .i64 cur, .int .u64 v, .int .u64 mn, .int .i64 load, .slice B ws.length d] 28)) 0 none 0 0 0 0 0 0 none 0 0)
    have HB := Aside0.mk (below_alloc (below_alloc (Below.refl w.heap.size w) (.cells #[.int .i64 rt, .slice A ns.length c, .int .i64 cur, .int .u64 v, .int .u64 mn, .int .i64 load, .slice B ws.length d] 28)) (.cells #[.int .i64 0, .slice none 0 0, .int .i64 0, .int .u64 0, .int .u64 0, .int .i64 0, .slice none 0 0] 28))
    simp only [World.size_alloc] at HZ
    generalize (w.alloc (.cells #[.int .i64 rt, .slice A ns.length c, .int .i64 cur, .int .u64 v, .int .u64 mn, .int .i64 load, .slice B ws.length d] 28)).alloc (.cells #[.int .i64 0, .slice none 0 0, .int .i64 0, .int .u64 0, .int .u64 0, .int .i64 0, .slice none 0 0] 28) = W1 at HX HZ HB ⊢
    have a0 := HX.out.c0
    have a1 := HX.out.c1
    have a2 := HX.out.c2
    have a3 := HX.out.c3
    have a4 := HX.out.c4
    have a5 := HX.out.c5
    have a6 := HX.out.c6
    have z0 := HZ.out.c0
    have z1 := HZ.out.c1
    have z2 := HZ.out.c2
    have z3 := HZ.out.c3
    have z4 := HZ.out.c4
    have z5 := HZ.out.c5
    have z6 := HZ.out.c6
    have f0 := HZ.out.frozen 0
    have f1 := HZ.out.frozen 1
    have f2 := HZ.out.frozen 2
    have f3 := HZ.out.frozen 3
    have f4 := HZ.out.frozen 4
    have f5 := HZ.out.frozen 5
    have f6 := HZ.out.frozen 6
    go_wp2
    refine bodyPost_ret (results_c1 (cs := #[.int .i64 rt, .slice A ns.length c, .int .i64 cur, .int .u64 v, .int .u64 mn, .int .i64 load, .slice B ws.length d]) rfl _ _ (w.heap.size + 1) 28 (0, 0) _ rfl (set7_out HZ.out.out rfl _ _ _ _ _ _ _) Tryd.underlying28 rfl (by kernel_rfl)) rfl ?_
    have HBE := set7_below HB.out (g := w.heap.size + 1) (by omega) (.int .i64 rt) (.slice A ns.length c) (.int .i64 cur) (.int .u64 v) (.int .u64 mn) (.int .i64 load) (.slice B ws.length d)
    exact ⟨_, rfl, _, _, _, _, rfl, HQ.out.below HBE, HBE⟩
  · obtain ⟨t', e1, e2⟩ := HIN.out b
    have e1' : insA ⟨ns, rt⟩ mn (v, cur) = some (t', 0) := e1
    rw [if_neg b, e1] at hf
    obtain rfl : x = ⟨t', -1, 0, mn, load, ws⟩ := (Option.some.inj hf).symm
    obtain ⟨ns', rt'⟩ := t'
    have HI := Aside0.mk e1'
    have HNL := Aside0.mk (show ns'.length = ns.length from e2)
    have b1 : (cur != -1) = true := by simpa using b
    clear HIN hf b e1 e1' e2
    go_enter Tryd.func33, Tryd.ntmps33
    go_upto_region 1 with (fail)
    have HX := Aside0.mk ((QB.new w rt A ns.length c cur v mn load B ws.length d).below (below_alloc (Below.refl _ _) (.cells #[.int .i64 0, .slice none 0 0, .int .i64 0, .int .u64 0, .int .u64 0, .int .i64 0, .slice none 0 0] 28)))
    have HZ := Aside0.mk (QB.new (w.alloc (.cells #[.int .i64 rt, .slice A ns.length c, .int .i64 cur, .int .u64 v, .int .u64 mn, .int .i64 load, .slice B ws.length d] 28)) 0 none 0 0 0 0 0 0 none 0 0)
    have HB := Aside0.mk (below_alloc (below_alloc (Below.refl w.heap.size w) (.cells #[.int .i64 rt, .slice A ns.length c, .int .i64 cur, .int .u64 v, .int .u64 mn, .int .i64 load, .slice B ws.length d] 28)) (.cells #[.int .i64 0, .slice none 0 0, .int .i64 0, .int .u64 0, .int .u64 0, .int .i64 0, .slice none 0 0] 28))
    simp only [World.size_alloc] at HZ
    generalize (w.alloc (.cells #[.int .i64 rt, .slice A ns.length c, .int .i64 cur, .int .u64 v, .int .u64 mn, .int .i64 load, .slice B ws.length d] 28)).alloc (.cells #[.int .i64 0, .slice none 0 0, .int .i64 0, .int .u64 0, .int .u64 0, .int .i64 0, .slice none 0 0] 28) = W1 at HX HZ HB ⊢
    have a0 := HX.out.c0
    have a1 := HX.out.c1
    have a2 := HX.out.c2
    have a3 := HX.out.c3
    have a4 := HX.out.c4
    have a5 := HX.out.c5
    have a6 := HX.out.c6
    have HQ1 := Aside0.mk (HQ.out.boxes (n := 2) HB.out (by have := HZ.out.lt; omega))
    have HT1 := Aside0.mk (HT.out.below HB.out)
    go_upto_region 3 with (go_at_call 29; refine (Insert_ (t := ⟨ns, rt⟩) A c mn (v, cur) (⟨ns', rt'⟩, 0) HQ1.out.trC HQ1.out.tl HT1.out HI.out).mono ?_; rintro e w2 hp; obtain ⟨v2, rfl, hR, hb⟩ := hp.out; obtain ⟨A2, c2, hv2, hlc2, hC2⟩ := Kd.R_reads hR; subst hv2; have HX2 := Aside0.mk (HX.out.below hb); have HZ2 := Aside0.mk (HZ.out.below hb); have HB2 := Aside0.mk (below_step HB.out hb); have HQ2 := Aside0.mk ((HQ1.out.below hb).tree (t' := ⟨ns', rt'⟩) (w0 := W1) hR HQ1.out.sl (by have := HNL.out; have := HQ1.out.tl; show ns'.length ≤ _; have e : (⟨⟨ns, rt⟩, cur, v, mn, load, ws⟩ : Q).t.ns.length = ns.length := rfl; omega)); clear hp hR hb hC2 hlc2; have a0 := HX2.out.c0; have a1 := HX2.out.c1; have f0 := HX2.out.frozen 0; have f1 := HX2.out.frozen 1)
    have HX3 := Aside0.mk (HX2.out.st01 rt' A2 ns'.length c2)
    have HZ3 := Aside0.mk ((HZ2.out.far (k := w.heap.size) (by omega) 0 (.int .i64 rt')).far (k := w.heap.size) (by omega) 1 (.slice A2 ns'.length c2))
    have HB3 := Aside0.mk (Below.setCell (Below.setCell HB2.out (p := ⟨w.heap.size, 0, none⟩) (Nat.le_refl _) (.int .i64 rt')) (p := ⟨w.heap.size, 1, none⟩) (Nat.le_refl _) (.slice A2 ns'.length c2))
    have HQ3 := Aside0.mk ((HQ2.out.put w.heap.size 0 (by omega) (by omega) (.int .i64 rt')).put w.heap.size 1 (by omega) (by omega) (.slice A2 ns'.length c2))
    clear a0 a1 a2 a3 a4 a5 a6 f0 f1
    generalize (w2.setCell ⟨w.heap.size, 0, none⟩ (.int .i64 rt')).setCell ⟨w.heap.size, 1, none⟩ (.slice A2 ns'.length c2) = w3 at HX3 HZ3 HB3 HQ3 ⊢
    have a2 := HX3.out.c2
    have a3 := HX3.out.c3
    have f2 := HX3.out.frozen 2
    have f3 := HX3.out.frozen 3
    go_upto_region 4 with (fail)
    have HX4 := Aside0.mk ((HX3.out.st2 (-1)).st3 0)
    have HZ4 := Aside0.mk ((HZ3.out.far (k := w.heap.size) (by omega) 2 (.int .i64 (-1))).far (k := w.heap.size) (by omega) 3 (.int .u64 0))
    have HB4 := Aside0.mk (Below.setCell (Below.setCell HB3.out (p := ⟨w.heap.size, 2, none⟩) (Nat.le_refl _) (.int .i64 (-1))) (p := ⟨w.heap.size, 3, none⟩) (Nat.le_refl _) (.int .u64 0))
    have HQ4 := Aside0.mk (((HQ3.out.put w.heap.size 2 (by omega) (by omega) (.int .i64 (-1))).put w.heap.size 3 (by omega) (by omega) (.int .u64 0)).fields (q' := ⟨⟨ns', rt'⟩, -1, 0, mn, load, ws⟩) rfl rfl)
    clear a2 a3 f2 f3
    generalize (w3.setCell ⟨w.heap.size, 2, none⟩ (.int .i64 (-1))).setCell ⟨w.heap.size, 3, none⟩ (.int .u64 0) = w4 at HX4 HZ4 HB4 HQ4 ⊢
    have a0 := HX4.out.c0
    have a1 := HX4.out.c1
    have a2 := HX4.out.c2
    have a3 := HX4.out.c3
    have a4 := HX4.out.c4
    have a5 := HX4.out.c5
    have a6 := HX4.out.c6
    have z0 := HZ4.out.c0
    have z1 := HZ4.out.c1
    have z2 := HZ4.out.c2
    have z3 := HZ4.out.c3
    have z4 := HZ4.out.c4
    have z5 := HZ4.out.c5
    have z6 := HZ4.out.c6
    have f0 := HZ4.out.frozen 0
    have f1 := HZ4.out.frozen 1
    have f2 := HZ4.out.frozen 2
    have f3 := HZ4.out.frozen 3
    have f4 := HZ4.out.frozen 4
    have f5 := HZ4.out.frozen 5
    have f6 := HZ4.out.frozen 6
    go_wp2
    refine bodyPost_ret (results_c1 (cs := #[.int .i64 rt', .slice A2 ns'.length c2, .int .i64 (-1), .int .u64 0, .int .u64 mn, .int .i64 load, .slice B ws.length d]) rfl _ _ (w.heap.size + 1) 28 (0, 0) _ rfl (set7_out HZ4.out.out rfl _ _ _ _ _ _ _) Tryd.underlying28 rfl (by kernel_rfl)) rfl ?_
    have HBE := set7_below HB4.out (g := w.heap.size + 1) (by omega) (.int .i64 rt') (.slice A2 ns'.length c2) (.int .i64 (-1)) (.int .u64 0) (.int .u64 mn) (.int .i64 load) (.slice B ws.length d)
    exact ⟨_, rfl, _, _, _, _, rfl, (HQ4.out.put7 (w.heap.size + 1) (by omega) (by omega) _ _ _ _ _ _ _).unbox, HBE⟩
end Go.Proofs.YtnkhnnojdlgfjaaDoor.Qw
