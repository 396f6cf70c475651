/- Parts of the proof, joined: Q13. -/
import Derived.Test.YtnkhnnojdlgfjaaDoorUF41
namespace Go.Proofs.YtnkhnnojdlgfjaaDoor.Qw
open Go.RowKit Go Go.Proofs Go.Proofs.YtnkhnnojdlgfjaaDoor Go.Proofs.YtnkhnnojdlgfjaaDoor.Tr Go.Proofs.YtnkhnnojdlgfjaaDoor.Tk Go.Proofs.YtnkhnnojdlgfjaaDoor.Tm Go.Proofs.YtnkhnnojdlgfjaaDoor.Qu Go.Proofs.YtnkhnnojdlgfjaaDoorW.PrintWords Go.Proofs.YtnkhnnojdlgfjaaDoorW.PrintLast Go.Proofs.YtnkhnnojdlgfjaaDoorW.PrintMore
set_option linter.unusedVariables false
set_option linter.unusedSimpArgs false
variable {S : Nat → Prop} {A B : Option Addr} {c d : Nat} {w w' : World} {q : Q}
structure KN (rt : Int) (A : Option Addr) (ns : List Nd) (c : Nat) (w W1 : World) (tb : Nat) (W : World) : Prop where mk ::
  z : QB 0 none 0 0 0 0 0 0 none 0 0 W w.heap.size
  t : W.heap[tb]? = some (.cells #[.int .i64 rt, .slice A ns.length c] 25 (0, 0))
  b : Below w.heap.size w W
  r : kn.R 74 W W1.heap.size (fun _ => True) (.slice A ns.length c) ns
  s : W1.heap.size ≤ W.heap.size
section
variable {ns : List Nd} {rt : Int} {W1 W W' : World} {tb : Nat}
theorem KN.step (h : KN rt A ns c w W1 tb W) (hb : Below W.heap.size W W') : KN rt A ns c w W1 tb W' := ⟨h.z.below hb, blk_below h.t hb, below_step h.b hb, Kd.R_below h.r hb, Nat.le_trans h.s hb.size⟩
theorem KN.drew (h : KN rt A ns c w W1 tb W) : KN rt A ns c w W1 tb W.drew := h.step (Below.drew (Below.refl _ _))
theorem KN.fin (h : KN rt A ns c w W1 tb W) (S : Nat → Prop) {mn : Int} (hS : ∀ k, S k → k < w.heap.size) (hb : w.heap.size < W1.heap.size) {B : Option Addr} {d : Nat} {zs : List Int} (hw : ki.R 3 W W1.heap.size (fun _ => True) (.slice B zs.length d) zs) (hl : ns.length ≤ 1000000) (hz : zs.length ≤ 1000000) :
    QIn S A c B d (set7 W w.heap.size (.int .i64 rt) (.slice A ns.length c) (.int .i64 (-1)) (.int .u64 0) (.int .u64 mn) (.int .i64 0) (.slice B zs.length d)) ⟨⟨ns, rt⟩, -1, 0, mn, 0, zs⟩ := by
  have hlt := h.z.lt
  have hS2 : ∀ k, bx S w.heap.size 1 k → k < W1.heap.size := fun k hk => hk.elim (fun e => by have := hS k e; omega) (fun e => by omega)
  have hq : QIn (bx S w.heap.size 1) none 0 none 0 W ⟨⟨[], rt⟩, -1, 0, mn, 0, []⟩ := (QIn.zero (bx S w.heap.size 1) W (fun k hk => hk.elim (fun e => by have := hS k e; omega) (fun e => by omega))).fields rfl rfl
  have h1 := (hq.tree (t' := ⟨ns, rt⟩) (w0 := W1) h.r hS2 hl).weights (w0 := W1) hw hS2 hz
  exact (h1.put7 w.heap.size (Nat.le_refl _) (by omega) _ _ _ _ _ _ _).unbox
end
set_option maxHeartbeats 32000000 in
set_option maxRecDepth 100000 in
theorem NewQ_ (S : Nat → Prop) (hS : ∀ k, S k → k < w.heap.size) (hT : Emp w) (n mn : Int) : Calls Tryd.prog 5 #[.int .i64 n, .int .u64 mn] w fun e w' => ∃ u, e = .returned (.tuple #[u, .int .i64 (newQ n mn).2]) ∧ QPost S w (newQ n mn).1 u w' := by
  have HS := Aside0.mk hS
  have HT := Aside0.mk hT
  clear hS hT
  by_cases hn : n < 0 ∨ 64 < n
  · have e1 : newA n = (⟨[], 0⟩, 1) := if_pos hn
    have e2 : newQ n mn = (q0, 1) := if_pos hn
    have HNX := Aside0.mk (fun (W : World) (hT : Emp W) => (show Calls Tryd.prog 15 #[.int .i64 n] W fun e w' => TPost W (⟨[], 0⟩, 1) e w' from by have h := New_ n W hT; rw [e1] at h; exact h))
    rw [e2]
    clear hn e1 e2
    have HB1 := below_alloc (Below.refl w.heap.size w) (.cells #[.int .i64 0, .slice none 0 0, .int .i64 0, .int .u64 0, .int .u64 0, .int .i64 0, .slice none 0 0] 28)
    have HZ1 := QB.new w 0 none 0 0 0 0 0 0 none 0 0
    go_enter Tryd.func5, Tryd.ntmps5
    go_upto_region 1 with (fail)
    generalize w.alloc (.cells #[.int .i64 0, .slice none 0 0, .int .i64 0, .int .u64 0, .int .u64 0, .int .i64 0, .slice none 0 0] 28) = W1 at HB1 HZ1 ⊢
    have HZ := Aside0.mk HZ1
    have HB := Aside0.mk HB1
    have HT1 := Aside0.mk (HT.out.below HB1)
    clear HB1 HZ1
    have HNW := Aside0.mk (HNX.out W1 HT1.out)
    go_upto_region 2 with (go_at_call 15; refine HNW.out.mono ?_; rintro e w2 hp; obtain ⟨v2, rfl, hR, hb⟩ := hp.out; obtain ⟨A2, c2, hv2, hlc2, hC2⟩ := Kd.R_reads hR; subst hv2; have HZ2 := Aside0.mk (HZ.out.below hb); have HB2 := Aside0.mk (below_step HB.out hb); clear hp hR hb hC2 hlc2)
    have hb := below_alloc (Below.refl w2.heap.size w2) (.cells #[.int .i64 0, .slice A2 0 c2] 25)
    have HZ3 := Aside0.mk (HZ2.out.below hb)
    have HB3 := Aside0.mk (below_step HB2.out hb)
    clear hb
    generalize w2.alloc (.cells #[.int .i64 0, .slice A2 0 c2] 25) = W3 at HZ3 HB3 ⊢
    have z0 := HZ3.out.c0
    have f0 := HZ3.out.frozen 0
    have z1 := HZ3.out.c1
    have f1 := HZ3.out.frozen 1
    have z2 := HZ3.out.c2
    have f2 := HZ3.out.frozen 2
    have z3 := HZ3.out.c3
    have f3 := HZ3.out.frozen 3
    have z4 := HZ3.out.c4
    have f4 := HZ3.out.frozen 4
    have z5 := HZ3.out.c5
    have f5 := HZ3.out.frozen 5
    have z6 := HZ3.out.c6
    have f6 := HZ3.out.frozen 6
    go_wp2
    refine bodyPost_ret (Tm.results_ct (cs := #[.int .i64 0, .slice none 0 0, .int .i64 0, .int .u64 0, .int .u64 0, .int .i64 0, .slice none 0 0]) rfl _ _ w.heap.size 28 (0, 0) _ rfl (set7_out HZ3.out.out rfl _ _ _ _ _ _ _) Tryd.underlying28 rfl (by kernel_rfl)) rfl ?_
    have HBE := set7_below HB3.out (g := w.heap.size) (Nat.le_refl _) (.int .i64 0) (.slice none 0 0) (.int .i64 0) (.int .u64 0) (.int .u64 0) (.int .i64 0) (.slice none 0 0)
    exact ⟨_, rfl, _, _, _, _, rfl, QIn.zero S _ (fun k hk => Nat.lt_of_lt_of_le (HS.out k hk) HBE.size), HBE⟩
  · have hn2 : 0 ≤ n ∧ n ≤ 64 := by omega
    obtain ⟨m, rfl⟩ : ∃ m : Nat, n = (m : Int) := ⟨n.toNat, by omega⟩
    have hlen := (new_RT hn2).2.1
    rw [Int.toNat_natCast] at hlen
    have e1 := (new_RT hn2).2.2
    have e2 : newQ (m : Int) mn = (⟨(newA (m : Int)).1, -1, 0, mn, 0, List.replicate (m : Int).toNat 0⟩, 0) := if_neg hn
    have HNX := Aside0.mk (fun (W : World) (hT : Emp W) => (show Calls Tryd.prog 15 #[.int .i64 (m : Int)] W fun e w' => TPost W ((newA (m : Int)).1, 0) e w' from by have h := New_ (m : Int) W hT; rw [e1] at h; exact h))
    rw [e2]
    have HM := Aside0.mk (show m ≤ 64 by omega)
    generalize (newA (m : Int)).1 = t at hlen HNX ⊢
    obtain ⟨ns1, rt1⟩ := t
    rw [Int.toNat_natCast]
    obtain ⟨zs, hzs⟩ : ∃ zs : List Int, zs = List.replicate m 0 := ⟨_, rfl⟩
    rw [← hzs]
    have HZS := Aside0.mk hzs
    have HL1 := Aside0.mk (show ns1.length = m from hlen)
    clear hn hn2 e1 e2 hlen hzs
    have HB1 := below_alloc (Below.refl w.heap.size w) (.cells #[.int .i64 0, .slice none 0 0, .int .i64 0, .int .u64 0, .int .u64 0, .int .i64 0, .slice none 0 0] 28)
    have HZ1 := QB.new w 0 none 0 0 0 0 0 0 none 0 0
    go_enter Tryd.func5, Tryd.ntmps5
    go_upto_region 1 with (fail)
    generalize w.alloc (.cells #[.int .i64 0, .slice none 0 0, .int .i64 0, .int .u64 0, .int .u64 0, .int .i64 0, .slice none 0 0] 28) = W1 at HB1 HZ1 ⊢
    have HZ := Aside0.mk HZ1
    have HB := Aside0.mk HB1
    have HT1 := Aside0.mk (HT.out.below HB1)
    clear HB1 HZ1
    have HNW := Aside0.mk (HNX.out W1 HT1.out)
    go_upto_region 4 with (go_at_call 15; refine HNW.out.mono ?_; rintro e w2 hp; obtain ⟨v2, rfl, hR, hb⟩ := hp.out; obtain ⟨A1, c1, hv2, hlc2, hC2⟩ := Kd.R_reads hR; subst hv2; have HRT := Aside0.mk hR; have HB12 := Aside0.mk hb; have HZ2 := Aside0.mk (HZ.out.below hb); have HB2 := Aside0.mk (below_step HB.out hb); clear hp hR hb hC2 hlc2)
    have HTL := Aside0.mk HZ2.out.lt
    have hb := below_alloc (Below.refl w2.heap.size w2) (.cells #[.int .i64 rt1, .slice A1 ns1.length c1] 25)
    have HTX := Aside0.mk (blk_new w2 (.cells #[.int .i64 rt1, .slice A1 ns1.length c1] 25))
    have HZ3 := Aside0.mk (HZ2.out.below hb)
    have HB3 := Aside0.mk (below_step HB2.out hb)
    have HR3 := Aside0.mk (Kd.R_below HRT.out hb)
    have HSZ := Aside0.mk (Nat.le_trans HB12.out.size hb.size)
    clear hb HRT HZ2 HB2
    generalize w2.alloc (.cells #[.int .i64 rt1, .slice A1 ns1.length c1] 25) = W3 at HZ3 HB3 HR3 HTX HSZ ⊢
    generalize w2.heap.size = tb at HTX HTL ⊢
    replace HR3 : Aside0 (kn.R 74 W3 W1.heap.size (fun _ => True) (.slice A1 ns1.length c1) ns1) := HR3
    have SB := Aside0.mk (show KN rt1 A1 ns1 c1 w W1 tb W3 from ⟨HZ3.out, HTX.out, HB3.out, HR3.out, HSZ.out⟩)
    clear HZ3 HTX HB3 HR3
    replace SB := Aside0.mk SB.out.drew
    refine start_ (n := 7) (S := fun w' => w'.cell? ⟨tb, 0, none⟩ = some (.int .i64 rt1) ∧ w'.cell? ⟨tb, 1, none⟩ = some (.slice A1 ns1.length c1)) (ds := []) #[false, false, false, false, false, false, false] (by kernel_rfl) rfl rfl ⟨(blk_cell SB.out.t 0).trans rfl, (blk_cell SB.out.t 1).trans rfl⟩ (fun hHeld => ?_)
    generalize World.drew _ = W4 at SB hHeld ⊢
    refine take_ (i := 0) (N := some 17) (v := ?_) (a' := ?_) #[true, false, false, false, false, false, false] rfl rfl (by kernel_rfl) (fun _ _ _ h => h) (Or.inl ⟨by rfl, ?_⟩) hHeld ?_ ?_
    rotate_left
    · rintro w' ⟨s0, s1⟩
      go_simp
      with_reducible rfl
    rotate_left
    · (simp only [Act.put, List.setIfInBounds_toArray, List.set_cons_zero, List.set_cons_succ, i64_w, i32_w]; rfl)
    refine pure_ (i := 1) (N := some 18) (v := ?_) (a' := ?_) #[true, true, false, false, false, false, false] rfl rfl (by kernel_rfl) (fun _ _ _ h => h) (Or.inl ⟨by rfl, ?_⟩) ?_ ?_
    rotate_left
    · intro w'
      go_simp
      with_reducible rfl
    rotate_left
    · (simp only [Act.put, List.setIfInBounds_toArray, List.set_cons_zero, List.set_cons_succ, i64_w, i32_w]; rfl)
    refine pure_ (i := 2) (N := some 19) (v := ?_) (a' := ?_) #[true, true, true, false, false, false, false] rfl rfl (by kernel_rfl) (fun _ _ _ h => h) (Or.inl ⟨by rfl, ?_⟩) ?_ ?_
    rotate_left
    · intro w'
      go_simp
      with_reducible rfl
    rotate_left
    · (simp only [Act.put, List.setIfInBounds_toArray, List.set_cons_zero, List.set_cons_succ, i64_w, i32_w]; rfl)
    refine one_ (i := 3) (N := some 20) #[true, true, true, true, false, false, false] rfl rfl (by kernel_rfl) (by decide) (fun K hK => ?_)
    refine Kd.R_make_step ki _ 3 (by rfl) (N := 20) rfl 26 _ _ rfl (m : Int) rfl rfl Tryd.underlying26 (.int .i64 0) 8 info3 rfl (by decide) (by omega) 0 (ok := fun _ => True) (okp := fun _ => True) rfl (fun _ hk => hk) trivial (Int.natCast_nonneg m) (by rw [Int.toNat_natCast]; have := HM.out; omega) (Below.refl _ _) (Nat.le_refl _) ?_
    intro v9 w5 ho9 hb hg_ hnew_
    clear hg_ hnew_
    rw [Int.toNat_natCast, ← HZS.out] at ho9
    obtain ⟨B1, d1, hv9⟩ := Kd.R_slice ho9
    subst hv9
    have HWR := Aside0.mk (Kd.R_lower ho9 SB.out.s)
    replace SB := Aside0.mk (SB.out.step hb)
    clear hb ho9
    refine hK.out _ _ ⟨(blk_cell SB.out.t 0).trans rfl, (blk_cell SB.out.t 1).trans rfl⟩ (fun hHeld => ?_)
    clear hK K
    refine norm_ (a' := ?_) ?_ ?_
    rotate_left
    · (show Act.put _ (some 20) _ = _; (simp only [Act.put, List.setIfInBounds_toArray, List.set_cons_zero, List.set_cons_succ, i64_w, i32_w]; rfl))
    refine pure_ (i := 4) (N := some 21) (v := ?_) (a' := ?_) #[true, true, true, true, true, false, false] rfl rfl (by kernel_rfl) (fun _ _ _ h => h) (Or.inl ⟨by rfl, ?_⟩) ?_ ?_
    rotate_left
    · intro w'
      go_simp
      with_reducible rfl
    rotate_left
    · (simp only [Act.put, List.setIfInBounds_toArray, List.set_cons_zero, List.set_cons_succ, i64_w, i32_w]; rfl)
    have z0 := SB.out.z.c0
    have f0 := SB.out.z.frozen 0
    have z1 := SB.out.z.c1
    have f1 := SB.out.z.frozen 1
    have z2 := SB.out.z.c2
    have f2 := SB.out.z.frozen 2
    have z3 := SB.out.z.c3
    have f3 := SB.out.z.frozen 3
    have z4 := SB.out.z.c4
    have f4 := SB.out.z.frozen 4
    have z5 := SB.out.z.c5
    have f5 := SB.out.z.frozen 5
    have z6 := SB.out.z.c6
    have f6 := SB.out.z.frozen 6
    refine one_ (i := 5) (N := none) #[true, true, true, true, true, true, false] rfl rfl (by kernel_rfl) (by decide) (fun K hK => ?_)
    refine skip_ (w1 := ?_) (by rfl) rfl ?_ ?_
    rotate_left
    · go_simp
      rfl
    refine hK.out _ _ ⟨(blk_cell ((set7_other (k := tb) (g := w.heap.size) (by have := HTL.out; omega) _ _ _ _ _ _ _).trans SB.out.t) 0).trans rfl, (blk_cell ((set7_other (k := tb) (g := w.heap.size) (by have := HTL.out; omega) _ _ _ _ _ _ _).trans SB.out.t) 1).trans rfl⟩ (fun hHeld => ?_)
    clear hK K
    refine pure_ (i := 6) (N := some 5) (v := ?_) (a' := ?_) #[true, true, true, true, true, true, true] rfl rfl (by kernel_rfl) (fun _ _ _ h => h) (Or.inl ⟨by rfl, ?_⟩) ?_ ?_
    rotate_left
    · intro w'
      go_simp
      with_reducible rfl
    rotate_left
    · (simp only [Act.put, List.setIfInBounds_toArray, List.set_cons_zero, List.set_cons_succ, i64_w, i32_w]; rfl)
    refine done_ (by kernel_rfl) ?_
    go_wp2
    refine bodyPost_ret (Tm.results_ct (cs := #[.int .i64 rt1, .slice A1 ns1.length c1, .int .i64 (-1), .int .u64 0, .int .u64 mn, .int .i64 0, .slice B1 zs.length d1]) rfl _ _ w.heap.size 28 (0, 0) _ rfl (set7_out SB.out.z.out rfl _ _ _ _ _ _ _) Tryd.underlying28 rfl (by kernel_rfl)) rfl ?_
    have HBE := set7_below SB.out.b (g := w.heap.size) (Nat.le_refl _) (.int .i64 rt1) (.slice A1 ns1.length c1) (.int .i64 (-1)) (.int .u64 0) (.int .u64 mn) (.int .i64 0) (.slice B1 zs.length d1)
    have hq := SB.out.fin S (mn := mn) HS.out HZ.out.lt HWR.out (by have := HM.out; have := HL1.out; omega) (by rw [HZS.out, List.length_replicate]; have := HM.out; omega)
    exact ⟨_, rfl, _, _, _, _, rfl, hq, HBE⟩
end Go.Proofs.YtnkhnnojdlgfjaaDoor.Qw
