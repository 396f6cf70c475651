/- Parts of the proof, joined: Q3. -/
import Derived.Test.YtnkhnnojdlgfjaaDoorUF30
import Derived.Test.YtnkhnnojdlgfjaaDoorUF32
namespace Go.Proofs.YtnkhnnojdlgfjaaDoor.Qw
open Go.RowKit Go Go.Proofs Go.Proofs.YtnkhnnojdlgfjaaDoor Go.Proofs.YtnkhnnojdlgfjaaDoor.Tr Go.Proofs.YtnkhnnojdlgfjaaDoor.Tk Go.Proofs.YtnkhnnojdlgfjaaDoor.Tm Go.Proofs.YtnkhnnojdlgfjaaDoor.Qu Go.Proofs.YtnkhnnojdlgfjaaDoorW.PrintWords Go.Proofs.YtnkhnnojdlgfjaaDoorW.PrintLast Go.Proofs.YtnkhnnojdlgfjaaDoorW.PrintMore
set_option linter.unusedVariables false
set_option linter.unusedSimpArgs false
structure CurOk (q : Q) : Prop where mk ::
  out : q.cur = -1 ∨ 0 ≤ q.cur ∧ inA q.t q.cur = false
def rowK (q : Q) : List K := if q.cur = -1 then walkA q.t else walkA q.t ++ [(q.v, q.cur)]
theorem keys_uniq {q : Q} (hr : rightA q.t q.mn = true) (hc : CurOk q) {l : List K} (hp : l.Perm (rowK q)) (hs : Ky.Srd (cvf q.mn) l 0 l.length) : l = keysA q := by
  obtain ⟨a, ha, hS⟩ := right_RT hr
  have hj : J q.mn q.t.ns.length q.t (keysOf q.t a.ids) := ⟨⟨a, ha, rfl⟩, hS, rfl⟩
  have hSK : SS q.mn (keysA q) := by
    rw [keys_eq hj]
    by_cases c : q.cur = -1
    · rw [if_pos c]; exact hS
    · rw [if_neg c]
      have h0 := hc.out.resolve_left c
      exact ins_SS hS (noCur hj h0.1 h0.2)
  have hpk : (rowK q).Perm (keysA q) := by
    unfold rowK
    rw [keys_eq hj, hj.walk]
    by_cases c : q.cur = -1
    · rw [if_pos c, if_pos c]
    · rw [if_neg c, if_neg c]
      exact (List.perm_append_comm.trans (List.Perm.refl _)).trans (ins_perm q.mn (q.v, q.cur) _).symm
  have hpl := hp.trans hpk
  have hnd := nd_perm hpl.symm hSK.nd
  refine sorted_perm (mn := q.mn) ⟨pw_strict (List.pairwise_iff_getElem.2 fun i j hi hj hij => ?_) hnd, hnd⟩ hSK hpl
  have := hs i j (Nat.zero_le _) (by omega) hj
  unfold Ky.le at this
  rwa [Ky.gt_of l i hi, Ky.gt_of l j hj] at this
theorem ordS (mn : Int) : Ky.Ord (cvf mn) := ⟨(ord mn).asym, (ord mn).trans⟩
theorem cmpS (mn : Int) : Srt.Cmp26 mn (cvf mn) := ⟨(cmp26 mn).out⟩
theorem sort_ {q : Q} (hr : rightA q.t q.mn = true) (hc : CurOk q) (A0 : Option Addr) (c0 : Nat) (w : World) (h : kp.C w A0 (rowK q).length (rowK q)) (hl : (rowK q).length ≤ 1000000) :
    Calls Tryd.prog 59 #[.int .u64 q.mn, .slice A0 (rowK q).length c0] w fun e w' => KPost w (keysA q) e w' := by
  refine (Srt.keySort (ordS q.mn) (cmpS q.mn) A0 c0 (rowK q) w h hl).mono ?_
  rintro e w' ⟨v0, l', rfl, hR, hp, hs, hb⟩
  obtain rfl := keys_uniq hr hc hp (by rw [hp.length_eq]; exact hs)
  exact ⟨v0, rfl, hR, hb⟩
theorem row_len {q : Q} (hr : rightA q.t q.mn = true) : (rowK q).length ≤ 65 ∧ (walkA q.t).length ≤ 64 := by
  obtain ⟨a, ha, hS⟩ := right_RT hr
  have hj : J q.mn q.t.ns.length q.t (keysOf q.t a.ids) := ⟨⟨a, ha, rfl⟩, hS, rfl⟩
  have h1 := J.small hj
  have h2 := J.le hj
  unfold rowK
  rw [hj.walk]
  split
  · omega
  · rw [List.length_append]
    simp only [List.length_cons, List.length_nil]
    omega
theorem keys_len {q : Q} (hr : rightA q.t q.mn = true) (hc : CurOk q) : (keysA q).length ≤ 65 := by
  obtain ⟨a, ha, hS⟩ := right_RT hr
  have hj : J q.mn q.t.ns.length q.t (keysOf q.t a.ids) := ⟨⟨a, ha, rfl⟩, hS, rfl⟩
  have h1 := J.small hj
  have h2 := J.le hj
  rw [keys_eq hj]
  split
  · omega
  · rw [(ins_perm q.mn (q.v, q.cur) _).length_eq, List.length_cons]
    omega
section
variable {S : Nat → Prop} {A B : Option Addr} {c d : Nat} {w w' : World} {q : Q}
set_option maxHeartbeats 8000000 in
set_option maxRecDepth 100000 in
theorem keys_ (h : QIn S A c B d w q) (hr : rightA q.t q.mn = true) (hc : CurOk q) (hT : Emp w) : Calls Tryd.prog 32 #[.agg (qc A c B d q)] w fun e w' => KPost w (keysA q) e w' := by
  have HQ := Aside0.mk h
  have HT := Aside0.mk hT
  have HR := Aside0.mk hr
  have HC := Aside0.mk hc
  have HL := Aside0.mk (row_len hr)
  have HW := Aside0.mk (show rowK q = if q.cur = -1 then walkA q.t else walkA q.t ++ [(q.v, q.cur)] from rfl)
  have HSO := Aside0.mk (fun (A0 : Option Addr) (c0 n : Nat) (w : World) (hn : (rowK q).length = n) (h : kp.C w A0 (rowK q).length (rowK q)) => (show Calls Tryd.prog 59 #[.int .u64 q.mn, .slice A0 n c0] w fun e w' => KPost w (keysA q) e w' by subst hn; exact sort_ hr hc A0 c0 w h (by have := (row_len hr).1; omega)))
  generalize keysA q = K1 at HSO ⊢
  generalize rowK q = R1 at HSO HW HL
  clear h hT hr hc HR HC
  obtain ⟨⟨ns, rt⟩, cur, v, mn, load, ws⟩ := q
  show Calls Tryd.prog 32 #[.agg #[.int .i64 rt, .slice A ns.length c, .int .i64 cur, .int .u64 v, .int .u64 mn, .int .i64 load, .slice B ws.length d]] w _
  go_enter Tryd.func32, Tryd.ntmps32
  go_upto_region 1 with (fail)
  have HX := Aside0.mk (QB.new w rt A ns.length c cur v mn load B ws.length d)
  have HB := Aside0.mk (below_alloc (Below.refl w.heap.size w) (.cells #[.int .i64 rt, .slice A ns.length c, .int .i64 cur, .int .u64 v, .int .u64 mn, .int .i64 load, .slice B ws.length d] 28))
  generalize w.alloc (.cells #[.int .i64 rt, .slice A ns.length c, .int .i64 cur, .int .u64 v, .int .u64 mn, .int .i64 load, .slice B ws.length d] 28) = W1 at HX HB ⊢
  have a0 := HX.out.c0
  have a1 := HX.out.c1
  have HQ1 := Aside0.mk (HQ.out.below HB.out)
  have HT1 := Aside0.mk (HT.out.below HB.out)
  go_upto_region 2 with (go_at_call 58; refine (Walk_ (t := ⟨ns, rt⟩) A c HQ1.out.trC HQ1.out.tl HT1.out).mono ?_; rintro e w2 ⟨v1, rfl, hR, hb⟩; obtain ⟨A2, c2, hv2, hlc2, hC2⟩ := Kd.R_reads hR; subst hv2; have HC2 := Aside0.mk hC2; have HRR := Aside0.mk hR; have HX2 := Aside0.mk (HX.out.below hb); have HB2 := Aside0.mk (below_step HB.out hb); have HB12 := Aside0.mk hb; clear hR hb hC2 hlc2)
  clear a0 a1
  have a2 := HX2.out.c2
  have a3 := HX2.out.c3
  have a4 := HX2.out.c4
  have HWL := Aside0.mk HL.out.2
  replace HW : Aside0 (R1 = if cur = -1 then walkA ⟨ns, rt⟩ else walkA ⟨ns, rt⟩ ++ [(v, cur)]) := HW
  replace HWL : Aside0 ((walkA ⟨ns, rt⟩).length ≤ 64) := HWL
  replace HRR : Aside0 (kp.R 47 w2 W1.heap.size (fun _ => True) (.slice A2 (walkA ⟨ns, rt⟩).length c2) (walkA ⟨ns, rt⟩)) := HRR
  replace HC2 : Aside0 (kp.C w2 A2 (walkA ⟨ns, rt⟩).length (walkA ⟨ns, rt⟩)) := HC2
  generalize walkA ⟨ns, rt⟩ = L1 at HW HWL HRR HC2 ⊢
  have HWB := Aside0.mk (show w.heap.size ≤ W1.heap.size from HB.out.size)
  by_cases b : cur = -1
  · have HE := Aside0.mk (HW.out.trans (if_pos b))
    have b1 : (cur != -1) = false := by simpa using b
    clear b
    go_wp2_with (go_at_call 59; refine (HSO.out A2 c2 L1.length _ (by rw [HE.out]) (by rw [HE.out]; exact HC2.out)).mono ?_; rintro e w3 ⟨v3, rfl, hR3, hb3⟩; have HR3 := Aside0.mk hR3; have HB3 := Aside0.mk (below_step HB2.out hb3); have HZ3 := Aside0.mk (HB2.out.size); clear hR3 hb3)
    go_ret
    exact ⟨_, rfl, Kd.R_lower HR3.out HZ3.out, HB3.out⟩
  · have HE := Aside0.mk (HW.out.trans (if_neg b))
    have b1 : (cur != -1) = true := by simpa using b
    clear b
    have hbd : W1.heap.size ≤ w2.heap.size := HB12.out.size
    go_upto_region 4 with (at_builtin; refine Kd.R_append kp (w0 := W1) W1.heap.size rfl (.tmp 10) (.tmp 16) 44 47 (.agg #[(.int .u64 0), (.int .i64 0)]) 16 rfl Tryd.underlying44 info26 rfl (show 0 < kp.sz by show 0 < 2; omega) (by omega) _ L1 (v, cur) [.int .u64 v, .int .i64 cur] (fun _ => True) (fun _ => False) rfl rfl (kp_mkM _ _ _ _) (fun _ hk => hk.elim) (fun _ _ => trivial) HRR.out HB12.out hbd (by have := HWL.out; omega) ?_; intro v2 w3 hR3 hB3 hg3 hat3; have HR3 := Aside0.mk hR3; have HB3 := Aside0.mk hB3; clear hR3 hB3 hg3 hat3)
    obtain ⟨A3, c3, hv3, hlc3, hC3⟩ := Kd.R_reads HR3.out
    subst hv3
    have HC3 := Aside0.mk hC3
    have HX3 := Aside0.mk (HX.out.below HB3.out)
    have HB4 := Aside0.mk (below_step HB.out HB3.out)
    have hw4 := HB4.out.size
    clear hC3 hlc3 a2 a3 a4
    have a4 := HX3.out.c4
    obtain ⟨n3, hn3⟩ : ∃ n3, n3 = (L1 ++ [(v, cur)]).length := ⟨_, rfl⟩
    rw [← hn3] at HC3 ⊢
    have HN3 := Aside0.mk hn3
    clear hn3
    go_wp2_with (go_at_call 59; refine (HSO.out A3 c3 n3 _ (by rw [HE.out, HN3.out]) (by rw [HE.out, ← HN3.out]; exact HC3.out)).mono ?_; rintro e w4 ⟨v3, rfl, hR4, hb4⟩; have HR4 := Aside0.mk hR4; have HB5 := Aside0.mk (below_step HB4.out hb4); clear hR4 hb4)
    go_ret
    exact ⟨_, rfl, Kd.R_lower HR4.out hw4, HB5.out⟩
set_option maxHeartbeats 8000000 in
set_option maxRecDepth 100000 in
theorem later_ (a b : Int) (w : World) : Calls Tryd.prog 67 #[.int .u64 a, .int .u64 b] w fun e w' => e = .returned (.int .u64 (laterA a b)) ∧ Below w.heap.size w w' := by
  refine (TW.turn_Later.calls a b (laterA a b) w ?_).mono ?_
  · unfold TW.turn_Later.f TW.turn_Before.f TW.turn_choose_uint64.f laterA beforeA
    by_cases h : IntKind.u64.wrap (b - a) = 0
    · rw [if_pos h, h]; simp
    · rw [if_neg h, bne_iff_ne.2 h]; simp; split <;> rfl
  · rintro e w' ⟨rfl, hb⟩
    exact ⟨rfl, hb.below⟩
theorem clamp_ (x lo hi : Int) (w : World) : Calls Tryd.prog 28 #[.int .i64 x, .int .i64 lo, .int .i64 hi] w fun e w' => e = .returned (.int .i64 (clampA x lo hi)) ∧ Below w.heap.size w w' := by
  refine (TW.turn_Clamp.calls x lo hi (clampA x lo hi) w ?_).mono ?_
  · unfold TW.turn_Clamp.f TW.turn_between_int.f clampA
    repeat' split
    all_goals first | rfl | omega
  · rintro e w' ⟨rfl, hb⟩
    exact ⟨rfl, hb.below⟩
theorem lag_ (v mn : Int) (w : World) : Calls Tryd.prog 46 #[.int .u64 v, .int .u64 mn] w fun e w' => e = .returned (.int .i64 (lagf mn v)) ∧ Below w.heap.size w w' := by
  refine (TW.turn_Lag.calls v mn (lagf mn v) w rfl).mono ?_
  rintro e w' ⟨rfl, hb⟩
  exact ⟨rfl, hb.below⟩
theorem at_ (mn lag : Int) (w : World) : Calls Tryd.prog 27 #[.int .u64 mn, .int .i64 lag] w fun e w' => e = .returned (.int .u64 (atA mn lag)) ∧ Below w.heap.size w w' := by
  refine (TW.turn_At.calls mn lag (atA mn lag) w rfl).mono ?_
  rintro e w' ⟨rfl, hb⟩
  exact ⟨rfl, hb.below⟩
end
end Go.Proofs.YtnkhnnojdlgfjaaDoor.Qw
