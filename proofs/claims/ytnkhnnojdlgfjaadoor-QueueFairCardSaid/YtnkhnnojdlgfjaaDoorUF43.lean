/- Parts of the proof, joined: Q12. -/
import Derived.Test.YtnkhnnojdlgfjaaDoorUF41
import Derived.Test.YtnkhnnojdlgfjaaDoorUF42
namespace Go.Proofs.YtnkhnnojdlgfjaaDoor.Qw
open Go.RowKit Go Go.Proofs Go.Proofs.YtnkhnnojdlgfjaaDoor Go.Proofs.YtnkhnnojdlgfjaaDoor.Tr Go.Proofs.YtnkhnnojdlgfjaaDoor.Tk Go.Proofs.YtnkhnnojdlgfjaaDoor.Tm Go.Proofs.YtnkhnnojdlgfjaaDoor.Qu Go.Proofs.YtnkhnnojdlgfjaaDoorW.PrintWords Go.Proofs.YtnkhnnojdlgfjaaDoorW.PrintLast Go.Proofs.YtnkhnnojdlgfjaaDoorW.PrintMore
set_option linter.unusedVariables false
set_option linter.unusedSimpArgs false
variable {S : Nat → Prop} {A B : Option Addr} {c d : Nat} {w w' : World} {q : Q}
def tickE (q : Q) (x : Int) : Int := if rightQ q = true then (if (if decide (x < 0 ∨ 1099511627776 < x) = true then (1 : Int) else 0) = 0 then (if (q.cur == -1) = true then 8 else 0) else (if decide (x < 0 ∨ 1099511627776 < x) = true then 1 else 0)) else 4
theorem tick_no {q : Q} {x : Int} (h : tickE q x ≠ 0) : tickA q x = (q0, false, tickE q x) := by
  revert h
  unfold tickA tickE
  cases rightQ q with
  | false => exact fun _ => rfl
  | true =>
    by_cases c : x < 0 ∨ 1099511627776 < x
    · exact fun _ => by rw [if_neg (by simp), if_pos c, if_pos rfl, decide_eq_true c]; rfl
    · by_cases c2 : q.cur = -1
      · exact fun _ => by rw [if_neg (by simp), if_neg c, if_pos c2, if_pos rfl, decide_eq_false c, c2]; rfl
      · intro h
        rw [if_pos rfl, decide_eq_false c, beq_eq_false_iff_ne.2 c2] at h
        exact absurd rfl h
theorem tick_yes {q : Q} {x : Int} (h : tickE q x = 0) : rightQ q = true ∧ (0 ≤ x ∧ x ≤ 1099511627776) ∧ q.cur ≠ -1 := by
  unfold tickE at h
  cases hr : rightQ q with
  | false => rw [hr] at h; simp at h
  | true =>
    refine ⟨rfl, ?_⟩
    rw [hr, if_pos rfl] at h
    by_cases c : x < 0 ∨ 1099511627776 < x
    · rw [decide_eq_true c] at h; simp at h
    · refine ⟨by omega, fun c2 => ?_⟩
      rw [decide_eq_false c, beq_iff_eq.2 c2] at h
      simp at h
set_option maxHeartbeats 8000000 in
set_option maxRecDepth 100000 in
theorem idle2_ {cur : Int} {g : Nat} {W : World} (a2 : W.cell? ⟨g, 2, none⟩ = some (.int .i64 cur)) : Calls Tryd.prog 68 #[.pointer (some ⟨g, 0, none⟩)] W fun e w' => e = .returned (.bool (cur == -1)) ∧ Below W.heap.size W w' := by
  have HB := Aside0.mk (Below.refl W.heap.size W)
  go_enter Tryd.func68, Tryd.ntmps68
  go_wp2
  go_ret
  exact ⟨rfl, HB.out⟩
theorem tickFirst_ {n z : Nat} {W : World} {L : List (Nat × Value)} (h : KB S n z A c B d q w W L) (x : Int) (g1 gi : Nat) (c1 : W.cell? ⟨g1, 0, none⟩ = some (.int .i64 x)) (ci : W.cell? ⟨gi, 2, none⟩ = some (.int .i64 q.cur)) (hb eb hb2 eb2 gl : Nat)
    (e1 : W.cell? ⟨eb, 0, none⟩ = some (.int .i64 1)) (h1 : W.cell? ⟨hb, 0, none⟩ = some (.func (.func 37) #[] #[.pointer (some ⟨g1, 0, none⟩)]))
    (e12 : W.cell? ⟨eb2, 0, none⟩ = some (.int .i64 8)) (h12 : W.cell? ⟨hb2, 0, none⟩ = some (.func (.func 68) #[] #[.pointer (some ⟨gi, 0, none⟩)]))
    (hL : W.heap[gl]? = some (.cells #[ifV hb eb, ifV hb2 eb2] 55 (0, 0))) :
    Calls Tryd.prog 20 #[.agg (qc A c B d q), .slice (some ⟨gl, 0, none⟩) 2 2] W fun e w' => e = .returned (.int .i64 (tickE q x)) ∧ Below W.heap.size W w' := by
  refine first2_ h.q.unbox h.t hb eb hb2 eb2 _ _ gl hL (fun hr W' hW => ?_) (fun hr hz W' hW => ?_)
  · exact if1_37 _ hb eb 1 _ W' (pw_cell_below hW h1) (pw_cell_below hW e1) (tick1_ x (pw_cell_below hW c1))
  · exact if1_68 _ hb2 eb2 8 _ W' (pw_cell_below hW h12) (pw_cell_below hW e12) (idle2_ (pw_cell_below hW ci))
structure TickT (q : Q) (x wt nv v1 : Int) (q' : Q) (isk more : Bool) : Prop where mk ::
  cu : 0 ≤ q.cur ∧ q.cur < (q.ws.length : Int)
  w : wt = q.ws.getD q.cur.toNat 0 ∧ 1 ≤ wt ∧ wt ≤ 88761
  n : nv = deltaA x wt ∧ 0 ≤ nv ∧ nv ≤ 281474976710656
  lg : lagf q.mn q.v ≤ 1125899906842624
  st : v1 = stepA q.v q.mn nv
  ra : rightA q.t q.mn = true
  co : CurOk { q with v := v1 }
  up : q' = upA { q with v := v1 }
  is : isk = decide (0 < (walkA q'.t).length)
  mo : more = (isk && decide (cvf q'.mn ((walkA q'.t).getD 0 (0, 0)) (q'.v, q'.cur) < 0))
  tk : tickA q x = (q', more, 0)
theorem tick_T {q : Q} {x : Int} (h : tickE q x = 0) : ∃ wt nv v1 q' is more, TickT q x wt nv v1 q' is more := by
  obtain ⟨hr, hx, hc⟩ := tick_yes h
  obtain ⟨L, hj⟩ := right_QJ hr
  have h1 := hj.c1
  have h2 := hj.c2
  have h3 := hj.len
  have hw := weighed_iff.1 (hj.weight (id := q.cur) (by omega) h2 (hj.hereCur hc))
  have hd := delta_in hx.1 hw.1
  have hn := cur_near hj hc
  obtain ⟨v, e1, e2, e3, e4, e5, e6, e7⟩ := tick_QJ hj hc hx.1 hx.2
  obtain ⟨r1, r2⟩ := ran_QJ hj hc e2
  refine ⟨_, _, v, upA { q with v := v }, _, _, ⟨⟨by omega, by omega⟩, ⟨rfl, hw⟩, ⟨rfl, hd⟩, hn.2, e1, hj.tr.right, (right_cur r1.right).2, rfl, rfl, rfl, ?_⟩⟩
  unfold tickA
  rw [if_neg (by rw [hr]; simp), if_neg (by omega), if_neg hc, ← e1]
  rfl
set_option maxHeartbeats 32000000 in
set_option maxRecDepth 100000 in
theorem Tick_ (h : QIn S A c B d w q) (hT : Emp w) (x : Int) (r : Q × Bool × Int) (hf : tickA q x = r) : Calls Tryd.prog 13 #[.agg (qc A c B d q), .int .i64 x] w fun e w' => ∃ u, e = .returned (.tuple #[u, .bool r.2.1, .int .i64 r.2.2]) ∧ QPost S w r.1 u w' := by
  have HQ := Aside0.mk h
  have HT := Aside0.mk hT
  have HN := Aside0.mk (fun h : tickE q x ≠ 0 => hf.symm.trans (tick_no h))
  have HY := Aside0.mk (fun h : tickE q x = 0 => tick_T h)
  have HX0 := Aside0.mk (fun h : tickE q x = 0 => (tick_yes h).2.1)
  have HF := Aside0.mk hf
  have HFI := Aside0.mk (fun {n z : Nat} {W : World} {L : List (Nat × Value)} (h : KB S n z A c B d q w W L) => tickFirst_ h x)
  have HUPx := Aside0.mk (fun (v1 : Int) (hr : rightA q.t q.mn = true) (hc : CurOk { q with v := v1 }) (S : Nat → Prop) (W : World) (h : QIn S A c B d W { q with v := v1 }) (hT : Emp W) => up_ h hr hc hT)
  generalize tickE q x = EE at HN HY HX0 HFI
  clear h hT hf
  obtain ⟨⟨⟨ns7, rt7⟩, cur7, v7, mn7, load7, ws7⟩, mr, er⟩ := r
  obtain ⟨⟨ns, rt⟩, cur, v, mn, load, ws⟩ := q
  replace HFI := Aside0.mk (fun {n z : Nat} {W : World} {L : List (Nat × Value)} (h : KB S n z A c B d ⟨⟨ns, rt⟩, cur, v, mn, load, ws⟩ w W L) => HFI.out h)
  show Calls Tryd.prog 13 #[.agg #[.int .i64 rt, .slice A ns.length c, .int .i64 cur, .int .u64 v, .int .u64 mn, .int .i64 load, .slice B ws.length d], .int .i64 x] w _
  go_enter Tryd.func13, Tryd.ntmps13
  go_upto_region 1 with (fail)
  have HXx := (QB.new w rt A ns.length c cur v mn load B ws.length d).below (below_alloc (below_alloc (Below.refl _ _) (.cells #[.int .i64 x] 3)) (.cells #[.int .i64 0, .slice none 0 0, .int .i64 0, .int .u64 0, .int .u64 0, .int .i64 0, .slice none 0 0] 28))
  have HZz := QB.new ((w.alloc (.cells #[.int .i64 rt, .slice A ns.length c, .int .i64 cur, .int .u64 v, .int .u64 mn, .int .i64 load, .slice B ws.length d] 28)).alloc (.cells #[.int .i64 x] 3)) 0 none 0 0 0 0 0 0 none 0 0
  have HOo0 := (blk_cell (blk_below (blk_new (w.alloc (.cells #[.int .i64 rt, .slice A ns.length c, .int .i64 cur, .int .u64 v, .int .u64 mn, .int .i64 load, .slice B ws.length d] 28)) (.cells #[.int .i64 x] 3)) (below_alloc (Below.refl _ _) (.cells #[.int .i64 0, .slice none 0 0, .int .i64 0, .int .u64 0, .int .u64 0, .int .i64 0, .slice none 0 0] 28))) 0).trans rfl
  have HBb : Below w.heap.size w (((w.alloc (.cells #[.int .i64 rt, .slice A ns.length c, .int .i64 cur, .int .u64 v, .int .u64 mn, .int .i64 load, .slice B ws.length d] 28)).alloc (.cells #[.int .i64 x] 3)).alloc (.cells #[.int .i64 0, .slice none 0 0, .int .i64 0, .int .u64 0, .int .u64 0, .int .i64 0, .slice none 0 0] 28)) := (below_alloc (below_alloc (below_alloc (Below.refl w.heap.size w) (.cells #[.int .i64 rt, .slice A ns.length c, .int .i64 cur, .int .u64 v, .int .u64 mn, .int .i64 load, .slice B ws.length d] 28)) (.cells #[.int .i64 x] 3)) (.cells #[.int .i64 0, .slice none 0 0, .int .i64 0, .int .u64 0, .int .u64 0, .int .i64 0, .slice none 0 0] 28))
  simp only [World.size_alloc] at HZz HOo0
  generalize ((w.alloc (.cells #[.int .i64 rt, .slice A ns.length c, .int .i64 cur, .int .u64 v, .int .u64 mn, .int .i64 load, .slice B ws.length d] 28)).alloc (.cells #[.int .i64 x] 3)).alloc (.cells #[.int .i64 0, .slice none 0 0, .int .i64 0, .int .u64 0, .int .u64 0, .int .i64 0, .slice none 0 0] 28) = W1 at HXx HZz HBb HOo0 ⊢
  have SB := Aside0.mk (show KB S 3 (w.heap.size + 1 + 1) A c B d ⟨⟨ns, rt⟩, cur, v, mn, load, ws⟩ w W1 [(w.heap.size + 1, .int .i64 x)] from ⟨HXx, HZz, HBb, HQ.out.boxes (n := 3) HBb (by have := HZz.lt; omega), HT.out.below HBb, fun p hp => by
    simp only [List.mem_cons, List.not_mem_nil, or_false] at hp
    subst hp
    exact HOo0⟩)
  clear HXx HZz HBb HOo0
  have a0 := SB.out.x.c0
  have a1 := SB.out.x.c1
  have a2 := SB.out.x.c2
  have a3 := SB.out.x.c3
  have a4 := SB.out.x.c4
  have a5 := SB.out.x.c5
  have a6 := SB.out.x.c6
  go_cut [7] (fun s10 wx => s10 = .int .i64 EE ∧ Aside0 (KB S 3 (w.heap.size + 1 + 1) A c B d ⟨⟨ns, rt⟩, cur, v, mn, load, ws⟩ w wx [(w.heap.size + 1, .int .i64 x)]))
  case first =>
    go_region_held3 (fun w' => w'.cell? ⟨w.heap.size, 0, none⟩ = some (.int .i64 rt) ∧ w'.cell? ⟨w.heap.size, 1, none⟩ = some (.slice A ns.length c) ∧ w'.cell? ⟨w.heap.size, 2, none⟩ = some (.int .i64 cur) ∧ w'.cell? ⟨w.heap.size, 3, none⟩ = some (.int .u64 v) ∧ w'.cell? ⟨w.heap.size, 4, none⟩ = some (.int .u64 mn) ∧ w'.cell? ⟨w.heap.size, 5, none⟩ = some (.int .i64 load) ∧ w'.cell? ⟨w.heap.size, 6, none⟩ = some (.slice B ws.length d)) (first | exact ⟨a0, a1, a2, a3, a4, a5, a6⟩ | exact ⟨(SB.out.step (below_alloc (Below.refl _ _) _)).x.c0, (SB.out.step (below_alloc (Below.refl _ _) _)).x.c1, (SB.out.step (below_alloc (Below.refl _ _) _)).x.c2, (SB.out.step (below_alloc (Below.refl _ _) _)).x.c3, (SB.out.step (below_alloc (Below.refl _ _) _)).x.c4, (SB.out.step (below_alloc (Below.refl _ _) _)).x.c5, (SB.out.step (below_alloc (Below.refl _ _) _)).x.c6⟩) (first
      | (go_at_call_of 21 (Value.int IntKind.i64 1); refine (if_ 1 37 _ _).mono ?_; rintro e wq1 ⟨rfl, hc1, hc2, hB⟩; (first | replace SB := Aside0.mk (((SB.out.step hB).more hc1).more hc2) | replace SB := Aside0.mk (((SB.out.drew.step hB).more hc1).more hc2)); clear hc1 hc2 hB; replace a0 := SB.out.x.c0; replace a1 := SB.out.x.c1; replace a2 := SB.out.x.c2; replace a3 := SB.out.x.c3; replace a4 := SB.out.x.c4; replace a5 := SB.out.x.c5; replace a6 := SB.out.x.c6)
      | (go_at_call 38; refine (idle_ (ns := ns) (rt := rt) (A := A) (c := c) (cur := cur) (v := v) (mn := mn) (load := load) (B := B) (ws := ws) (d := d) _).mono ?_; rintro e wq2 ⟨ih, ie, rfl, hc1, hc2, hqb, hB⟩; replace SB := Aside0.mk (((SB.out.step hB).more hc1).more hc2); have HIB := Aside0.mk hqb.c2; clear hc1 hc2 hqb hB; replace a0 := SB.out.x.c0; replace a1 := SB.out.x.c1; replace a2 := SB.out.x.c2; replace a3 := SB.out.x.c3; replace a4 := SB.out.x.c4; replace a5 := SB.out.x.c5; replace a6 := SB.out.x.c6)
      | (go_at_call 20; refine (HFI.out (SB.out.step (below_alloc (Below.refl _ _) _)) (w.heap.size + 1) wq1.heap.size ((SB.out.step (below_alloc (Below.refl _ _) _)).l (w.heap.size + 1, .int .i64 x) (by simp)) (pw_cell_below (below_alloc (Below.refl _ _) _) HIB.out) (W1.heap.size + 1) W1.heap.size ih ie wq2.heap.size ((SB.out.step (below_alloc (Below.refl _ _) _)).l (W1.heap.size, .int .i64 1) (by simp)) ((SB.out.step (below_alloc (Below.refl _ _) _)).l (W1.heap.size + 1, _) (by simp)) ((SB.out.step (below_alloc (Below.refl _ _) _)).l (ie, .int .i64 8) (by simp)) ((SB.out.step (below_alloc (Below.refl _ _) _)).l (ih, _) (by simp)) (blk_new _ _)).mono ?_; rintro e wq3 ⟨rfl, hB⟩; replace SB := Aside0.mk ((SB.out.step (below_alloc (Below.refl _ _) _)).step hB); clear hB; replace a0 := SB.out.x.c0; replace a1 := SB.out.x.c1; replace a2 := SB.out.x.c2; replace a3 := SB.out.x.c3; replace a4 := SB.out.x.c4; replace a5 := SB.out.x.c5; replace a6 := SB.out.x.c6))
    all_goals (
      go_wp2_with fail
      go_meet
      exact ⟨rfl, ⟨SB.out.sub (by simp)⟩⟩)
  obtain ⟨rfl, SB2⟩ := hcut
  clear SB a0 a1 a2 a3 a4 a5 a6
  have SB := SB2
  clear SB2
  generalize wc = W2 at SB ⊢
  by_cases b : EE = 0
  · obtain ⟨wt, nv, v1, q', is, more, hp⟩ := HY.out b
    have hx0 := HX0.out b
    have hqw := HF.out.symm.trans hp.tk
    simp only [Prod.mk.injEq] at hqw
    obtain ⟨rfl, rfl, rfl⟩ := hqw
    have HCU := Aside0.mk (show 0 ≤ cur ∧ cur < (ws.length : Int) from hp.cu)
    have HWT := Aside0.mk (show ws.getD cur.toNat 0 = wt from hp.w.1.symm)
    have HDL := Aside0.mk (fun W => (show Calls Tryd.prog 39 #[.int .i64 x, .int .i64 wt] W fun e w' => e = .returned (.tuple #[.int .i64 nv, .int .i64 0]) ∧ Below W.heap.size W w' from by rw [hp.n.1]; exact TW.delta_ x wt hx0.1 hx0.2 hp.w.2.1 hp.w.2.2 W))
    have HSP := Aside0.mk (fun W => (show Calls Tryd.prog 40 #[.int .u64 v, .int .u64 mn, .int .i64 nv] W fun e w' => e = .returned (.int .u64 v1) ∧ Below W.heap.size W w' from by rw [hp.st]; exact TW.step_ v mn nv hp.n.2.1 hp.n.2.2 hp.lg W))
    have HUP := Aside0.mk (fun (S : Nat → Prop) (W : World) (h : QIn S A c B d W ⟨⟨ns, rt⟩, cur, v1, mn, load, ws⟩) (hT : Emp W) => (show Calls Tryd.prog 36 #[.agg #[.int .i64 rt, .slice A ns.length c, .int .i64 cur, .int .u64 v1, .int .u64 mn, .int .i64 load, .slice B ws.length d]] W fun e w' => ∃ u, e = .returned u ∧ QPost S W ⟨⟨ns7, rt7⟩, cur7, v7, mn7, load7, ws7⟩ u w' from by
      have hu := hp.up
      rw [hu]
      exact HUPx.out v1 hp.ra hp.co S W h hT))
    have HIS := Aside0.mk (show is = decide (0 < (walkA ⟨ns7, rt7⟩).length) from hp.is)
    have HMO := Aside0.mk (show mr = (is && decide (cvf mn7 ((walkA ⟨ns7, rt7⟩).getD 0 (0, 0)) (v7, cur7) < 0)) from hp.mo)
    subst b
    clear HF HN HY HX0 HFI HUPx hp hx0
    have a1 := SB.out.x.c2
    have a6 := SB.out.x.c6
    have cd := SB.out.l (w.heap.size + 1, .int .i64 x) (by simp)
    have hc0 := HCU.out.1
    have hc1 := HCU.out.2
    obtain ⟨ck, rfl⟩ : ∃ k : Nat, cur = (k : Int) := ⟨cur.toNat, by omega⟩
    obtain ⟨ad, e1, x0⟩ := int_at SB.out.q.wrC ck (by show ck < ws.length; omega)
    replace e1 : B = some ad := e1
    subst e1
    rw [Int.toNat_natCast] at HWT
    replace x0 : W2.cell? (ad.add ck) = some (.int .i64 wt) := by rw [← HWT.out]; exact x0
    go_upto_region 4 with (fail)
    clear cd a1 a6
    replace SB := Aside0.mk SB.out.drew
    replace x0 : W2.drew.cell? (ad.add ck) = some (.int .i64 wt) := x0
    refine start_ (n := 13) (S := fun w' => w'.cell? ⟨w.heap.size + 1, 0, none⟩ = some (.int .i64 x) ∧ w'.cell? ⟨w.heap.size, 6, none⟩ = some (.slice (some ad) ws.length d) ∧ w'.cell? ⟨w.heap.size, 2, none⟩ = some (.int .i64 (ck : Int)) ∧ w'.cell? (ad.add ck) = some (.int .i64 wt)) (ds := []) #[false, false, false, false, false, false, false, false, false, false, false, false, false] (by kernel_rfl) rfl rfl ⟨SB.out.l (w.heap.size + 1, .int .i64 x) (by simp), SB.out.x.c6, SB.out.x.c2, x0⟩ (fun hHeld => ?_)
    generalize World.drew _ = W3 at SB x0 hHeld ⊢
    refine take_ (i := 0) (N := some 24) (v := ?_) (a' := ?_) #[true, false, false, false, false, false, false, false, false, false, false, false, false] rfl rfl (by kernel_rfl) (fun _ _ _ h => h) (Or.inl ⟨by rfl, ?_⟩) hHeld ?_ ?_
    rotate_left
    · rintro w' ⟨s0, s1, s2, s3⟩
      go_simp
      with_reducible rfl
    rotate_left
    · (simp only [Act.put, List.setIfInBounds_toArray, List.set_cons_zero, List.set_cons_succ, i64_w, i32_w]; rfl)
    refine pure_ (i := 1) (N := some 25) (v := ?_) (a' := ?_) #[true, true, false, false, false, false, false, false, false, false, false, false, false] rfl rfl (by kernel_rfl) (fun _ _ _ h => h) (Or.inl ⟨by rfl, ?_⟩) ?_ ?_
    rotate_left
    · intro w'
      go_simp
      with_reducible rfl
    rotate_left
    · (simp only [Act.put, List.setIfInBounds_toArray, List.set_cons_zero, List.set_cons_succ, i64_w, i32_w]; rfl)
    refine take_ (i := 2) (N := some 26) (v := ?_) (a' := ?_) #[true, true, true, false, false, false, false, false, false, false, false, false, false] rfl rfl (by kernel_rfl) (fun _ _ _ h => h) (Or.inl ⟨by rfl, ?_⟩) hHeld ?_ ?_
    rotate_left
    · rintro w' ⟨s0, s1, s2, s3⟩
      go_simp
      with_reducible rfl
    rotate_left
    · (simp only [Act.put, List.setIfInBounds_toArray, List.set_cons_zero, List.set_cons_succ, i64_w, i32_w]; rfl)
    refine pure_ (i := 3) (N := some 27) (v := ?_) (a' := ?_) #[true, true, true, true, false, false, false, false, false, false, false, false, false] rfl rfl (by kernel_rfl) (fun _ _ _ h => h) (Or.inl ⟨by rfl, ?_⟩) ?_ ?_
    rotate_left
    · intro w'
      go_simp
      with_reducible rfl
    rotate_left
    · (simp only [Act.put, List.setIfInBounds_toArray, List.set_cons_zero, List.set_cons_succ, i64_w, i32_w]; rfl)
    refine take_ (i := 4) (N := some 28) (v := ?_) (a' := ?_) #[true, true, true, true, true, false, false, false, false, false, false, false, false] rfl rfl (by kernel_rfl) (fun _ _ _ h => h) (Or.inl ⟨by rfl, ?_⟩) hHeld ?_ ?_
    rotate_left
    · rintro w' ⟨s0, s1, s2, s3⟩
      go_simp
      with_reducible rfl
    rotate_left
    · (simp only [Act.put, List.setIfInBounds_toArray, List.set_cons_zero, List.set_cons_succ, i64_w, i32_w]; rfl)
    refine pure_ (i := 5) (N := some 29) (v := ?_) (a' := ?_) #[true, true, true, true, true, true, false, false, false, false, false, false, false] rfl rfl (by kernel_rfl) (fun _ _ _ h => h) (Or.inl ⟨by rfl, ?_⟩) ?_ ?_
    rotate_left
    · intro w'
      go_simp
      with_reducible rfl
    rotate_left
    · (simp only [Act.put, List.setIfInBounds_toArray, List.set_cons_zero, List.set_cons_succ, i64_w, i32_w]; rfl)
    refine take_ (i := 6) (N := some 30) (v := ?_) (a' := ?_) #[true, true, true, true, true, true, true, false, false, false, false, false, false] rfl rfl (by kernel_rfl) (fun _ _ _ h => h) (Or.inl ⟨by rfl, ?_⟩) hHeld ?_ ?_
    rotate_left
    · rintro w' ⟨s0, s1, s2, s3⟩
      go_simp
      with_reducible rfl
    rotate_left
    · (simp only [Act.put, List.setIfInBounds_toArray, List.set_cons_zero, List.set_cons_succ, i64_w, i32_w]; rfl)
    refine one_ (i := 7) (N := some 31) #[true, true, true, true, true, true, true, true, false, false, false, false, false] rfl rfl (by kernel_rfl) (by decide) (fun K hK => ?_)
    refine goes_ Tryd.func39 (by kernel_rfl) rfl #[.int .i64 x, .int .i64 wt] (by rfl) rfl rfl (by (try simp only [List.map_toArray, List.map_cons, List.map_nil]); first | done | rfl) ?_
    refine (HDL.out _).mono ?_
    rintro e wq ⟨rfl, hB⟩
    refine ⟨_, rfl, ?_⟩
    replace SB := Aside0.mk (SB.out.step hB)
    replace x0 := pw_cell_below hB x0
    clear hB
    refine hK.out _ _ ⟨SB.out.l (w.heap.size + 1, .int .i64 x) (by simp), SB.out.x.c6, SB.out.x.c2, x0⟩ (fun hHeld => ?_)
    clear hK K
    refine norm_ (a' := ?_) ?_ ?_
    rotate_left
    · (show Act.put _ (some 31) _ = _; (simp only [Act.put, List.setIfInBounds_toArray, List.set_cons_zero, List.set_cons_succ, i64_w, i32_w]; rfl))
    refine pure_ (i := 8) (N := some 23) (v := ?_) (a' := ?_) #[true, true, true, true, true, true, true, true, true, false, false, false, false] rfl rfl (by kernel_rfl) (fun _ _ _ h => h) (Or.inl ⟨by rfl, ?_⟩) ?_ ?_
    rotate_left
    · intro w'
      go_simp
      with_reducible rfl
    rotate_left
    · (simp only [Act.put, List.setIfInBounds_toArray, List.set_cons_zero, List.set_cons_succ, i64_w, i32_w]; rfl)
    refine pure_ (i := 9) (N := some 32) (v := ?_) (a' := ?_) #[true, true, true, true, true, true, true, true, true, true, false, false, false] rfl rfl (by kernel_rfl) (fun _ _ _ h => h) (Or.inl ⟨by rfl, ?_⟩) ?_ ?_
    rotate_left
    · intro w'
      go_simp
      with_reducible rfl
    rotate_left
    · (simp only [Act.put, List.setIfInBounds_toArray, List.set_cons_zero, List.set_cons_succ, i64_w, i32_w]; rfl)
    refine pure_ (i := 10) (N := some 33) (v := ?_) (a' := ?_) #[true, true, true, true, true, true, true, true, true, true, true, false, false] rfl rfl (by kernel_rfl) (fun _ _ _ h => h) (Or.inl ⟨by rfl, ?_⟩) ?_ ?_
    rotate_left
    · intro w'
      go_simp
      with_reducible rfl
    rotate_left
    · (simp only [Act.put, List.setIfInBounds_toArray, List.set_cons_zero, List.set_cons_succ, i64_w, i32_w]; rfl)
    refine pure_ (i := 11) (N := some 8) (v := ?_) (a' := ?_) #[true, true, true, true, true, true, true, true, true, true, true, true, false] rfl rfl (by kernel_rfl) (fun _ _ _ h => h) (Or.inl ⟨by rfl, ?_⟩) ?_ ?_
    rotate_left
    · intro w'
      go_simp
      with_reducible rfl
    rotate_left
    · (simp only [Act.put, List.setIfInBounds_toArray, List.set_cons_zero, List.set_cons_succ, i64_w, i32_w]; rfl)
    refine pure_ (i := 12) (N := some 9) (v := ?_) (a' := ?_) #[true, true, true, true, true, true, true, true, true, true, true, true, true] rfl rfl (by kernel_rfl) (fun _ _ _ h => h) (Or.inl ⟨by rfl, ?_⟩) ?_ ?_
    rotate_left
    · intro w'
      go_simp
      with_reducible rfl
    rotate_left
    · (simp only [Act.put, List.setIfInBounds_toArray, List.set_cons_zero, List.set_cons_succ, i64_w, i32_w]; rfl)
    refine done_ (by kernel_rfl) ?_
    have a3 := SB.out.x.c3
    have a4 := SB.out.x.c4
    clear x0
    go_upto_region 6 with (go_at_call 40; refine (HSP.out _).mono ?_; rintro e wq5 ⟨rfl, hB⟩; replace SB := Aside0.mk (SB.out.step hB); clear hB; replace a3 := SB.out.x.c3; have f3 := SB.out.x.frozen 3)
    have HX5 := SB.out.x.st3 v1
    have HZ5 := SB.out.z.far (k := w.heap.size) (by omega) 3 (.int .u64 v1)
    have HB5 := Below.setCell SB.out.b (p := ⟨w.heap.size, 3, none⟩) (Nat.le_refl _) (.int .u64 v1)
    have HQ5 := (SB.out.q.put w.heap.size 3 (by omega) (by omega) (.int .u64 v1)).fields (q' := ⟨⟨ns, rt⟩, (ck : Int), v1, mn, load, ws⟩) rfl rfl
    clear a3 a4 f3 SB hHeld
    generalize wq5.setCell ⟨w.heap.size, 3, none⟩ (.int .u64 v1) = W5 at HX5 HZ5 HB5 HQ5 ⊢
    have SB := Aside0.mk (show KB S 3 (w.heap.size + 1 + 1) A c (some ad) d ⟨⟨ns, rt⟩, (ck : Int), v1, mn, load, ws⟩ w W5 [] from ⟨HX5, HZ5, HB5, HQ5, HT.out.below HB5, fun p hp => by cases hp⟩)
    clear HX5 HZ5 HB5 HQ5
    have a0 := SB.out.x.c0
    have a1 := SB.out.x.c1
    have a2 := SB.out.x.c2
    have a3 := SB.out.x.c3
    have a4 := SB.out.x.c4
    have a5 := SB.out.x.c5
    have a6 := SB.out.x.c6
    go_upto_region 7 with (go_at_call 36; refine (HUP.out _ _ SB.out.q SB.out.t).mono ?_; rintro e w6 ⟨u, rfl, hp⟩; obtain ⟨A7, c7, B7, d7, rfl, hq7, hb7⟩ := hp.out; have HQ7 := Aside0.mk hq7; replace SB := Aside0.mk (SB.out.step hb7); clear hp hq7 hb7; clear a0 a1 a2 a3 a4 a5 a6; have a0 := SB.out.x.c0; have a1 := SB.out.x.c1; have a2 := SB.out.x.c2; have a3 := SB.out.x.c3; have a4 := SB.out.x.c4; have a5 := SB.out.x.c5; have a6 := SB.out.x.c6; have f0 := SB.out.x.frozen 0; have f1 := SB.out.x.frozen 1; have f2 := SB.out.x.frozen 2; have f3 := SB.out.x.frozen 3; have f4 := SB.out.x.frozen 4; have f5 := SB.out.x.frozen 5; have f6 := SB.out.x.frozen 6)
    have SB2 := Aside0.mk (show KB S 3 (w.heap.size + 1 + 1) A7 c7 B7 d7 ⟨⟨ns7, rt7⟩, cur7, v7, mn7, load7, ws7⟩ w (((((((w6.setCell ⟨w.heap.size, 0, none⟩ (.int .i64 rt7)).setCell ⟨w.heap.size, 1, none⟩ (.slice A7 ns7.length c7)).setCell ⟨w.heap.size, 2, none⟩ (.int .i64 cur7)).setCell ⟨w.heap.size, 3, none⟩ (.int .u64 v7)).setCell ⟨w.heap.size, 4, none⟩ (.int .u64 mn7)).setCell ⟨w.heap.size, 5, none⟩ (.int .i64 load7)).setCell ⟨w.heap.size, 6, none⟩ (.slice B7 ws7.length d7)) [] from SB.out.write HT.out HQ7.out (by omega) (by omega))
    clear a0 a1 a2 a3 a4 a5 a6 f0 f1 f2 f3 f4 f5 f6 SB HQ7
    have SB := SB2
    clear SB2
    generalize ((((((w6.setCell ⟨w.heap.size, 0, none⟩ (.int .i64 rt7)).setCell ⟨w.heap.size, 1, none⟩ (.slice A7 ns7.length c7)).setCell ⟨w.heap.size, 2, none⟩ (.int .i64 cur7)).setCell ⟨w.heap.size, 3, none⟩ (.int .u64 v7)).setCell ⟨w.heap.size, 4, none⟩ (.int .u64 mn7)).setCell ⟨w.heap.size, 5, none⟩ (.int .i64 load7)).setCell ⟨w.heap.size, 6, none⟩ (.slice B7 ws7.length d7) = W7 at SB ⊢
    have HFR := Aside0.mk (fun (W : World) (h : kn.C W A7 ns7.length ns7) (hl : ns7.length ≤ 1000000) (hT : Emp W) => (show Calls Tryd.prog 34 #[.agg #[.int .i64 rt7, .slice A7 ns7.length c7]] W fun e w' => e = .returned (.tuple #[.agg #[.int .u64 ((walkA ⟨ns7, rt7⟩).getD 0 (0, 0)).1, .int .i64 ((walkA ⟨ns7, rt7⟩).getD 0 (0, 0)).2], .bool is]) ∧ Below W.heap.size W w' from by
      rw [HIS.out]
      exact First_ (t := ⟨ns7, rt7⟩) (w := W) A7 c7 h hl hT))
    generalize (walkA ⟨ns7, rt7⟩).getD 0 (0, 0) = kk at HFR HMO
    obtain ⟨k1, k2⟩ := kk
    clear HIS
    have a0 := SB.out.x.c0
    have a1 := SB.out.x.c1
    go_upto_region 8 with (go_at_call 34; refine (HFR.out _ SB.out.q.trC SB.out.q.tl SB.out.t).mono ?_; rintro e w8 ⟨rfl, hb⟩; replace SB := Aside0.mk (SB.out.step hb); clear hb; clear a0 a1)
    have HKL := Aside0.mk SB.out.z.lt
    have hb := below_alloc (Below.refl w8.heap.size w8) (.cells #[.int .u64 k1, .int .i64 k2] 47)
    have HKX := Aside0.mk (blk_new w8 (.cells #[.int .u64 k1, .int .i64 k2] 47))
    replace SB := Aside0.mk (SB.out.step hb)
    clear hb HFR
    generalize w8.alloc (.cells #[.int .u64 k1, .int .i64 k2] 47) = W9 at SB HKX ⊢
    generalize w8.heap.size = kb at HKX HKL ⊢
    cases is with
    | true =>
      obtain rfl : mr = decide (cvf mn7 (k1, k2) (v7, cur7) < 0) := HMO.out.trans (Bool.true_and _)
      replace SB := Aside0.mk SB.out.drew
      replace HKX := Aside0.mk (blk_drew HKX.out)
      refine start_ (n := 17) (S := fun w' => w'.cell? ⟨w.heap.size, 0, none⟩ = some (.int .i64 rt7) ∧ w'.cell? ⟨w.heap.size, 1, none⟩ = some (.slice A7 ns7.length c7) ∧ w'.cell? ⟨w.heap.size, 2, none⟩ = some (.int .i64 cur7) ∧ w'.cell? ⟨w.heap.size, 3, none⟩ = some (.int .u64 v7) ∧ w'.cell? ⟨w.heap.size, 4, none⟩ = some (.int .u64 mn7) ∧ w'.cell? ⟨w.heap.size, 5, none⟩ = some (.int .i64 load7) ∧ w'.cell? ⟨w.heap.size, 6, none⟩ = some (.slice B7 ws7.length d7) ∧ w'.cell? ⟨kb, 0, none⟩ = some (.int .u64 k1) ∧ w'.cell? ⟨kb, 1, none⟩ = some (.int .i64 k2)) (ds := []) #[false, false, false, false, false, false, false, false, false, false, false, false, false, false, false, false, false] (by kernel_rfl) rfl rfl ⟨SB.out.x.c0, SB.out.x.c1, SB.out.x.c2, SB.out.x.c3, SB.out.x.c4, SB.out.x.c5, SB.out.x.c6, (blk_cell HKX.out 0).trans rfl, (blk_cell HKX.out 1).trans rfl⟩ (fun hHeld => ?_)
      generalize World.drew _ = W10 at SB HKX hHeld ⊢
      refine take_ (i := 0) (N := some 49) (v := ?_) (a' := ?_) #[true, false, false, false, false, false, false, false, false, false, false, false, false, false, false, false, false] rfl rfl (by kernel_rfl) (fun _ _ _ h => h) (Or.inl ⟨by rfl, ?_⟩) hHeld ?_ ?_
      rotate_left
      · rintro w' ⟨s0, s1, s2, s3, s4, s5, s6, s7, s8⟩
        go_simp
        with_reducible rfl
      rotate_left
      · (simp only [Act.put, List.setIfInBounds_toArray, List.set_cons_zero, List.set_cons_succ, i64_w, i32_w]; rfl)
      refine pure_ (i := 1) (N := some 50) (v := ?_) (a' := ?_) #[true, true, false, false, false, false, false, false, false, false, false, false, false, false, false, false, false] rfl rfl (by kernel_rfl) (fun _ _ _ h => h) (Or.inl ⟨by rfl, ?_⟩) ?_ ?_
      rotate_left
      · intro w'
        go_simp
        with_reducible rfl
      rotate_left
      · (simp only [Act.put, List.setIfInBounds_toArray, List.set_cons_zero, List.set_cons_succ, i64_w, i32_w]; rfl)
      refine pure_ (i := 2) (N := some 51) (v := ?_) (a' := ?_) #[true, true, true, false, false, false, false, false, false, false, false, false, false, false, false, false, false] rfl rfl (by kernel_rfl) (fun _ _ _ h => h) (Or.inl ⟨by rfl, ?_⟩) ?_ ?_
      rotate_left
      · intro w'
        go_simp
        with_reducible rfl
      rotate_left
      · (simp only [Act.put, List.setIfInBounds_toArray, List.set_cons_zero, List.set_cons_succ, i64_w, i32_w]; rfl)
      refine pure_ (i := 3) (N := some 52) (v := ?_) (a' := ?_) #[true, true, true, true, false, false, false, false, false, false, false, false, false, false, false, false, false] rfl rfl (by kernel_rfl) (fun _ _ _ h => h) (Or.inl ⟨by rfl, ?_⟩) ?_ ?_
      rotate_left
      · intro w'
        go_simp
        with_reducible rfl
      rotate_left
      · (simp only [Act.put, List.setIfInBounds_toArray, List.set_cons_zero, List.set_cons_succ, i64_w, i32_w]; rfl)
      refine take_ (i := 4) (N := some 53) (v := ?_) (a' := ?_) #[true, true, true, true, true, false, false, false, false, false, false, false, false, false, false, false, false] rfl rfl (by kernel_rfl) (fun _ _ _ h => h) (Or.inl ⟨by rfl, ?_⟩) hHeld ?_ ?_
      rotate_left
      · rintro w' ⟨s0, s1, s2, s3, s4, s5, s6, s7, s8⟩
        go_simp
        with_reducible rfl
      rotate_left
      · (simp only [Act.put, List.setIfInBounds_toArray, List.set_cons_zero, List.set_cons_succ, i64_w, i32_w]; rfl)
      refine take_ (i := 5) (N := some 54) (v := ?_) (a' := ?_) #[true, true, true, true, true, true, false, false, false, false, false, false, false, false, false, false, false] rfl rfl (by kernel_rfl) (fun _ _ _ h => h) (Or.inl ⟨by rfl, ?_⟩) hHeld ?_ ?_
      rotate_left
      · rintro w' ⟨s0, s1, s2, s3, s4, s5, s6, s7, s8⟩
        go_simp
        with_reducible rfl
      rotate_left
      · (simp only [Act.put, List.setIfInBounds_toArray, List.set_cons_zero, List.set_cons_succ, i64_w, i32_w]; rfl)
      refine pure_ (i := 6) (N := some 55) (v := ?_) (a' := ?_) #[true, true, true, true, true, true, true, false, false, false, false, false, false, false, false, false, false] rfl rfl (by kernel_rfl) (fun _ _ _ h => h) (Or.inl ⟨by rfl, ?_⟩) ?_ ?_
      rotate_left
      · intro w'
        go_simp
        with_reducible rfl
      rotate_left
      · (simp only [Act.put, List.setIfInBounds_toArray, List.set_cons_zero, List.set_cons_succ, i64_w, i32_w]; rfl)
      refine take_ (i := 7) (N := some 56) (v := ?_) (a' := ?_) #[true, true, true, true, true, true, true, true, false, false, false, false, false, false, false, false, false] rfl rfl (by kernel_rfl) (fun _ _ _ h => h) (Or.inl ⟨by rfl, ?_⟩) hHeld ?_ ?_
      rotate_left
      · rintro w' ⟨s0, s1, s2, s3, s4, s5, s6, s7, s8⟩
        go_simp
        with_reducible rfl
      rotate_left
      · (simp only [Act.put, List.setIfInBounds_toArray, List.set_cons_zero, List.set_cons_succ, i64_w, i32_w]; rfl)
      refine pure_ (i := 8) (N := some 57) (v := ?_) (a' := ?_) #[true, true, true, true, true, true, true, true, true, false, false, false, false, false, false, false, false] rfl rfl (by kernel_rfl) (fun _ _ _ h => h) (Or.inl ⟨by rfl, ?_⟩) ?_ ?_
      rotate_left
      · intro w'
        go_simp
        with_reducible rfl
      rotate_left
      · (simp only [Act.put, List.setIfInBounds_toArray, List.set_cons_zero, List.set_cons_succ, i64_w, i32_w]; rfl)
      refine take_ (i := 9) (N := some 58) (v := ?_) (a' := ?_) #[true, true, true, true, true, true, true, true, true, true, false, false, false, false, false, false, false] rfl rfl (by kernel_rfl) (fun _ _ _ h => h) (Or.inl ⟨by rfl, ?_⟩) hHeld ?_ ?_
      rotate_left
      · rintro w' ⟨s0, s1, s2, s3, s4, s5, s6, s7, s8⟩
        go_simp
        with_reducible rfl
      rotate_left
      · (simp only [Act.put, List.setIfInBounds_toArray, List.set_cons_zero, List.set_cons_succ, i64_w, i32_w]; rfl)
      refine pure_ (i := 10) (N := some 59) (v := ?_) (a' := ?_) #[true, true, true, true, true, true, true, true, true, true, true, false, false, false, false, false, false] rfl rfl (by kernel_rfl) (fun _ _ _ h => h) (Or.inl ⟨by rfl, ?_⟩) ?_ ?_
      rotate_left
      · intro w'
        go_simp
        with_reducible rfl
      rotate_left
      · (simp only [Act.put, List.setIfInBounds_toArray, List.set_cons_zero, List.set_cons_succ, i64_w, i32_w]; rfl)
      refine pure_ (i := 13) (N := some 62) (v := ?_) (a' := ?_) #[true, true, true, true, true, true, true, true, true, true, true, false, false, true, false, false, false] rfl rfl (by kernel_rfl) (fun _ _ _ h => h) (Or.inl ⟨by rfl, ?_⟩) ?_ ?_
      rotate_left
      · intro w'
        go_simp
        with_reducible rfl
      rotate_left
      · (simp only [Act.put, List.setIfInBounds_toArray, List.set_cons_zero, List.set_cons_succ, i64_w, i32_w]; rfl)
      refine one_ (i := 11) (N := some 60) #[true, true, true, true, true, true, true, true, true, true, true, true, false, true, false, false, false] rfl rfl (by kernel_rfl) (by decide) (fun K hK => ?_)
      refine goes_ Tryd.func41 (by kernel_rfl) rfl #[.int .u64 mn7, .agg #[.int .u64 k1, .int .i64 k2], .agg #[.int .u64 v7, .int .i64 cur7]] (by rfl) rfl rfl (by (try simp only [List.map_toArray, List.map_cons, List.map_nil]); first | done | rfl) ?_
      refine (Tk.keyLess (cmp26 mn7) (k1, k2) (v7, cur7) _).mono ?_
      rintro e wq ⟨rfl, hB⟩
      refine ⟨_, rfl, ?_⟩
      replace SB := Aside0.mk (SB.out.step hB)
      replace HKX := Aside0.mk (blk_below HKX.out hB)
      clear hB
      refine hK.out _ _ ⟨SB.out.x.c0, SB.out.x.c1, SB.out.x.c2, SB.out.x.c3, SB.out.x.c4, SB.out.x.c5, SB.out.x.c6, (blk_cell HKX.out 0).trans rfl, (blk_cell HKX.out 1).trans rfl⟩ (fun hHeld => ?_)
      clear hK K
      refine norm_ (a' := ?_) ?_ ?_
      rotate_left
      · (show Act.put _ (some 60) _ = _; (simp only [Act.put, List.setIfInBounds_toArray, List.set_cons_zero, List.set_cons_succ, i64_w, i32_w]; rfl))
      refine pure_ (i := 12) (N := some 61) (v := ?_) (a' := ?_) #[true, true, true, true, true, true, true, true, true, true, true, true, true, true, false, false, false] rfl rfl (by kernel_rfl) (fun _ _ _ h => h) (Or.inl ⟨by rfl, ?_⟩) ?_ ?_
      rotate_left
      · intro w'
        go_simp
        with_reducible rfl
      rotate_left
      · (simp only [Act.put, List.setIfInBounds_toArray, List.set_cons_zero, List.set_cons_succ, i64_w, i32_w]; rfl)
      have z0 := SB.out.z.c0
      have f0 := SB.out.z.frozen 0
      have z1 := SB.out.z.c1
      have f1 := SB.out.z.frozen 1
      have z2 := SB.out.z.c2
      have f2 := SB.out.z.frozen 2
      have z3 := SB.out.z.c3
      have f3 := SB.out.z.frozen 3
      have z4 := SB.out.z.c4
      have f4 := SB.out.z.frozen 4
      have z5 := SB.out.z.c5
      have f5 := SB.out.z.frozen 5
      have z6 := SB.out.z.c6
      have f6 := SB.out.z.frozen 6
      refine one_ (i := 14) (N := none) #[true, true, true, true, true, true, true, true, true, true, true, true, true, true, true, false, false] rfl rfl (by kernel_rfl) (by decide) (fun K hK => ?_)
      refine skip_ (w1 := ?_) (by rfl) rfl ?_ ?_
      rotate_left
      · go_simp
        rfl
      refine hK.out _ _ ⟨(SB.out.x.far7 (k := w.heap.size + 1 + 1) (by omega) _ _ _ _ _ _ _).c0, (SB.out.x.far7 (k := w.heap.size + 1 + 1) (by omega) _ _ _ _ _ _ _).c1, (SB.out.x.far7 (k := w.heap.size + 1 + 1) (by omega) _ _ _ _ _ _ _).c2, (SB.out.x.far7 (k := w.heap.size + 1 + 1) (by omega) _ _ _ _ _ _ _).c3, (SB.out.x.far7 (k := w.heap.size + 1 + 1) (by omega) _ _ _ _ _ _ _).c4, (SB.out.x.far7 (k := w.heap.size + 1 + 1) (by omega) _ _ _ _ _ _ _).c5, (SB.out.x.far7 (k := w.heap.size + 1 + 1) (by omega) _ _ _ _ _ _ _).c6, (blk_cell ((set7_other (k := kb) (g := w.heap.size + 1 + 1) (by have := HKL.out; omega) _ _ _ _ _ _ _).trans HKX.out) 0).trans rfl, (blk_cell ((set7_other (k := kb) (g := w.heap.size + 1 + 1) (by have := HKL.out; omega) _ _ _ _ _ _ _).trans HKX.out) 1).trans rfl⟩ (fun hHeld => ?_)
      clear hK K
      refine pure_ (i := 15) (N := some 5) (v := ?_) (a' := ?_) #[true, true, true, true, true, true, true, true, true, true, true, true, true, true, true, true, false] rfl rfl (by kernel_rfl) (fun _ _ _ h => h) (Or.inl ⟨by rfl, ?_⟩) ?_ ?_
      rotate_left
      · intro w'
        go_simp
        with_reducible rfl
      rotate_left
      · (simp only [Act.put, List.setIfInBounds_toArray, List.set_cons_zero, List.set_cons_succ, i64_w, i32_w]; rfl)
      refine pure_ (i := 16) (N := some 6) (v := ?_) (a' := ?_) #[true, true, true, true, true, true, true, true, true, true, true, true, true, true, true, true, true] rfl rfl (by kernel_rfl) (fun _ _ _ h => h) (Or.inl ⟨by rfl, ?_⟩) ?_ ?_
      rotate_left
      · intro w'
        go_simp
        with_reducible rfl
      rotate_left
      · (simp only [Act.put, List.setIfInBounds_toArray, List.set_cons_zero, List.set_cons_succ, i64_w, i32_w]; rfl)
      refine done_ (by kernel_rfl) ?_
      go_wp2
      refine bodyPost_ret (Go.Proofs.YtnkhnnojdlgfjaaDoorW.PrintWords.results_ctt (cs := #[.int .i64 rt7, .slice A7 ns7.length c7, .int .i64 cur7, .int .u64 v7, .int .u64 mn7, .int .i64 load7, .slice B7 ws7.length d7]) rfl _ _ (w.heap.size + 1 + 1) 28 (0, 0) _ rfl (set7_out SB.out.z.out rfl _ _ _ _ _ _ _) Tryd.underlying28 rfl (by kernel_rfl)) rfl ?_
      have HBE := set7_below SB.out.b (g := w.heap.size + 1 + 1) (by omega) (.int .i64 rt7) (.slice A7 ns7.length c7) (.int .i64 cur7) (.int .u64 v7) (.int .u64 mn7) (.int .i64 load7) (.slice B7 ws7.length d7)
      exact ⟨_, rfl, _, _, _, _, rfl, (SB.out.q.put7 (w.heap.size + 1 + 1) (by omega) (by omega) _ _ _ _ _ _ _).unbox, HBE⟩
    | false =>
      obtain rfl : mr = false := HMO.out
      replace SB := Aside0.mk SB.out.drew
      replace HKX := Aside0.mk (blk_drew HKX.out)
      refine start_ (n := 17) (S := fun w' => w'.cell? ⟨w.heap.size, 0, none⟩ = some (.int .i64 rt7) ∧ w'.cell? ⟨w.heap.size, 1, none⟩ = some (.slice A7 ns7.length c7) ∧ w'.cell? ⟨w.heap.size, 2, none⟩ = some (.int .i64 cur7) ∧ w'.cell? ⟨w.heap.size, 3, none⟩ = some (.int .u64 v7) ∧ w'.cell? ⟨w.heap.size, 4, none⟩ = some (.int .u64 mn7) ∧ w'.cell? ⟨w.heap.size, 5, none⟩ = some (.int .i64 load7) ∧ w'.cell? ⟨w.heap.size, 6, none⟩ = some (.slice B7 ws7.length d7) ∧ w'.cell? ⟨kb, 0, none⟩ = some (.int .u64 k1) ∧ w'.cell? ⟨kb, 1, none⟩ = some (.int .i64 k2)) (ds := []) #[false, false, false, false, false, false, false, false, false, false, false, false, false, false, false, false, false] (by kernel_rfl) rfl rfl ⟨SB.out.x.c0, SB.out.x.c1, SB.out.x.c2, SB.out.x.c3, SB.out.x.c4, SB.out.x.c5, SB.out.x.c6, (blk_cell HKX.out 0).trans rfl, (blk_cell HKX.out 1).trans rfl⟩ (fun hHeld => ?_)
      generalize World.drew _ = W10 at SB HKX hHeld ⊢
      refine take_ (i := 0) (N := some 49) (v := ?_) (a' := ?_) #[true, false, false, false, false, false, false, false, false, false, false, false, false, false, false, false, false] rfl rfl (by kernel_rfl) (fun _ _ _ h => h) (Or.inl ⟨by rfl, ?_⟩) hHeld ?_ ?_
      rotate_left
      · rintro w' ⟨s0, s1, s2, s3, s4, s5, s6, s7, s8⟩
        go_simp
        with_reducible rfl
      rotate_left
      · (simp only [Act.put, List.setIfInBounds_toArray, List.set_cons_zero, List.set_cons_succ, i64_w, i32_w]; rfl)
      refine pure_ (i := 1) (N := some 50) (v := ?_) (a' := ?_) #[true, true, false, false, false, false, false, false, false, false, false, false, false, false, false, false, false] rfl rfl (by kernel_rfl) (fun _ _ _ h => h) (Or.inl ⟨by rfl, ?_⟩) ?_ ?_
      rotate_left
      · intro w'
        go_simp
        with_reducible rfl
      rotate_left
      · (simp only [Act.put, List.setIfInBounds_toArray, List.set_cons_zero, List.set_cons_succ, i64_w, i32_w]; rfl)
      refine pure_ (i := 2) (N := some 51) (v := ?_) (a' := ?_) #[true, true, true, false, false, false, false, false, false, false, false, false, false, false, false, false, false] rfl rfl (by kernel_rfl) (fun _ _ _ h => h) (Or.inl ⟨by rfl, ?_⟩) ?_ ?_
      rotate_left
      · intro w'
        go_simp
        with_reducible rfl
      rotate_left
      · (simp only [Act.put, List.setIfInBounds_toArray, List.set_cons_zero, List.set_cons_succ, i64_w, i32_w]; rfl)
      refine pure_ (i := 3) (N := some 52) (v := undef) (a' := ?_) #[true, true, true, true, false, false, false, false, false, false, false, false, false, false, false, false, false] rfl rfl (by kernel_rfl) (fun _ _ _ h => h) (Or.inr ⟨by rfl, rfl⟩) ?_ ?_
      rotate_left
      · (simp only [Act.put, List.setIfInBounds_toArray, List.set_cons_zero, List.set_cons_succ, i64_w, i32_w]; rfl)
      refine take_ (i := 4) (N := some 53) (v := undef) (a' := ?_) #[true, true, true, true, true, false, false, false, false, false, false, false, false, false, false, false, false] rfl rfl (by kernel_rfl) (fun _ _ _ h => h) (Or.inr ⟨by rfl, rfl⟩) hHeld ?_ ?_
      rotate_left
      · (simp only [Act.put, List.setIfInBounds_toArray, List.set_cons_zero, List.set_cons_succ, i64_w, i32_w]; rfl)
      refine take_ (i := 5) (N := some 54) (v := undef) (a' := ?_) #[true, true, true, true, true, true, false, false, false, false, false, false, false, false, false, false, false] rfl rfl (by kernel_rfl) (fun _ _ _ h => h) (Or.inr ⟨by rfl, rfl⟩) hHeld ?_ ?_
      rotate_left
      · (simp only [Act.put, List.setIfInBounds_toArray, List.set_cons_zero, List.set_cons_succ, i64_w, i32_w]; rfl)
      refine pure_ (i := 6) (N := some 55) (v := undef) (a' := ?_) #[true, true, true, true, true, true, true, false, false, false, false, false, false, false, false, false, false] rfl rfl (by kernel_rfl) (fun _ _ _ h => h) (Or.inr ⟨by rfl, rfl⟩) ?_ ?_
      rotate_left
      · (simp only [Act.put, List.setIfInBounds_toArray, List.set_cons_zero, List.set_cons_succ, i64_w, i32_w]; rfl)
      refine take_ (i := 7) (N := some 56) (v := undef) (a' := ?_) #[true, true, true, true, true, true, true, true, false, false, false, false, false, false, false, false, false] rfl rfl (by kernel_rfl) (fun _ _ _ h => h) (Or.inr ⟨by rfl, rfl⟩) hHeld ?_ ?_
      rotate_left
      · (simp only [Act.put, List.setIfInBounds_toArray, List.set_cons_zero, List.set_cons_succ, i64_w, i32_w]; rfl)
      refine pure_ (i := 8) (N := some 57) (v := undef) (a' := ?_) #[true, true, true, true, true, true, true, true, true, false, false, false, false, false, false, false, false] rfl rfl (by kernel_rfl) (fun _ _ _ h => h) (Or.inr ⟨by rfl, rfl⟩) ?_ ?_
      rotate_left
      · (simp only [Act.put, List.setIfInBounds_toArray, List.set_cons_zero, List.set_cons_succ, i64_w, i32_w]; rfl)
      refine take_ (i := 9) (N := some 58) (v := undef) (a' := ?_) #[true, true, true, true, true, true, true, true, true, true, false, false, false, false, false, false, false] rfl rfl (by kernel_rfl) (fun _ _ _ h => h) (Or.inr ⟨by rfl, rfl⟩) hHeld ?_ ?_
      rotate_left
      · (simp only [Act.put, List.setIfInBounds_toArray, List.set_cons_zero, List.set_cons_succ, i64_w, i32_w]; rfl)
      refine pure_ (i := 10) (N := some 59) (v := undef) (a' := ?_) #[true, true, true, true, true, true, true, true, true, true, true, false, false, false, false, false, false] rfl rfl (by kernel_rfl) (fun _ _ _ h => h) (Or.inr ⟨by rfl, rfl⟩) ?_ ?_
      rotate_left
      · (simp only [Act.put, List.setIfInBounds_toArray, List.set_cons_zero, List.set_cons_succ, i64_w, i32_w]; rfl)
      refine pure_ (i := 13) (N := some 62) (v := ?_) (a' := ?_) #[true, true, true, true, true, true, true, true, true, true, true, false, false, true, false, false, false] rfl rfl (by kernel_rfl) (fun _ _ _ h => h) (Or.inl ⟨by rfl, ?_⟩) ?_ ?_
      rotate_left
      · intro w'
        go_simp
        with_reducible rfl
      rotate_left
      · (simp only [Act.put, List.setIfInBounds_toArray, List.set_cons_zero, List.set_cons_succ, i64_w, i32_w]; rfl)
      refine pure_ (i := 11) (N := some 60) (v := undef) (a' := ?_) #[true, true, true, true, true, true, true, true, true, true, true, true, false, true, false, false, false] rfl rfl (by kernel_rfl) (fun _ _ _ h => h) (Or.inr ⟨by rfl, rfl⟩) ?_ ?_
      rotate_left
      · (simp only [Act.put, List.setIfInBounds_toArray, List.set_cons_zero, List.set_cons_succ, i64_w, i32_w]; rfl)
      refine pure_ (i := 12) (N := some 61) (v := ?_) (a' := ?_) #[true, true, true, true, true, true, true, true, true, true, true, true, true, true, false, false, false] rfl rfl (by kernel_rfl) (fun _ _ _ h => h) (Or.inl ⟨by rfl, ?_⟩) ?_ ?_
      rotate_left
      · intro w'
        go_simp
        with_reducible rfl
      rotate_left
      · (simp only [Act.put, List.setIfInBounds_toArray, List.set_cons_zero, List.set_cons_succ, i64_w, i32_w]; rfl)
      have z0 := SB.out.z.c0
      have f0 := SB.out.z.frozen 0
      have z1 := SB.out.z.c1
      have f1 := SB.out.z.frozen 1
      have z2 := SB.out.z.c2
      have f2 := SB.out.z.frozen 2
      have z3 := SB.out.z.c3
      have f3 := SB.out.z.frozen 3
      have z4 := SB.out.z.c4
      have f4 := SB.out.z.frozen 4
      have z5 := SB.out.z.c5
      have f5 := SB.out.z.frozen 5
      have z6 := SB.out.z.c6
      have f6 := SB.out.z.frozen 6
      refine one_ (i := 14) (N := none) #[true, true, true, true, true, true, true, true, true, true, true, true, true, true, true, false, false] rfl rfl (by kernel_rfl) (by decide) (fun K hK => ?_)
      refine skip_ (w1 := ?_) (by rfl) rfl ?_ ?_
      rotate_left
      · go_simp
        rfl
      refine hK.out _ _ ⟨(SB.out.x.far7 (k := w.heap.size + 1 + 1) (by omega) _ _ _ _ _ _ _).c0, (SB.out.x.far7 (k := w.heap.size + 1 + 1) (by omega) _ _ _ _ _ _ _).c1, (SB.out.x.far7 (k := w.heap.size + 1 + 1) (by omega) _ _ _ _ _ _ _).c2, (SB.out.x.far7 (k := w.heap.size + 1 + 1) (by omega) _ _ _ _ _ _ _).c3, (SB.out.x.far7 (k := w.heap.size + 1 + 1) (by omega) _ _ _ _ _ _ _).c4, (SB.out.x.far7 (k := w.heap.size + 1 + 1) (by omega) _ _ _ _ _ _ _).c5, (SB.out.x.far7 (k := w.heap.size + 1 + 1) (by omega) _ _ _ _ _ _ _).c6, (blk_cell ((set7_other (k := kb) (g := w.heap.size + 1 + 1) (by have := HKL.out; omega) _ _ _ _ _ _ _).trans HKX.out) 0).trans rfl, (blk_cell ((set7_other (k := kb) (g := w.heap.size + 1 + 1) (by have := HKL.out; omega) _ _ _ _ _ _ _).trans HKX.out) 1).trans rfl⟩ (fun hHeld => ?_)
      clear hK K
      refine pure_ (i := 15) (N := some 5) (v := ?_) (a' := ?_) #[true, true, true, true, true, true, true, true, true, true, true, true, true, true, true, true, false] rfl rfl (by kernel_rfl) (fun _ _ _ h => h) (Or.inl ⟨by rfl, ?_⟩) ?_ ?_
      rotate_left
      · intro w'
        go_simp
        with_reducible rfl
      rotate_left
      · (simp only [Act.put, List.setIfInBounds_toArray, List.set_cons_zero, List.set_cons_succ, i64_w, i32_w]; rfl)
      refine pure_ (i := 16) (N := some 6) (v := ?_) (a' := ?_) #[true, true, true, true, true, true, true, true, true, true, true, true, true, true, true, true, true] rfl rfl (by kernel_rfl) (fun _ _ _ h => h) (Or.inl ⟨by rfl, ?_⟩) ?_ ?_
      rotate_left
      · intro w'
        go_simp
        with_reducible rfl
      rotate_left
      · (simp only [Act.put, List.setIfInBounds_toArray, List.set_cons_zero, List.set_cons_succ, i64_w, i32_w]; rfl)
      refine done_ (by kernel_rfl) ?_
      go_wp2
      refine bodyPost_ret (Go.Proofs.YtnkhnnojdlgfjaaDoorW.PrintWords.results_ctt (cs := #[.int .i64 rt7, .slice A7 ns7.length c7, .int .i64 cur7, .int .u64 v7, .int .u64 mn7, .int .i64 load7, .slice B7 ws7.length d7]) rfl _ _ (w.heap.size + 1 + 1) 28 (0, 0) _ rfl (set7_out SB.out.z.out rfl _ _ _ _ _ _ _) Tryd.underlying28 rfl (by kernel_rfl)) rfl ?_
      have HBE := set7_below SB.out.b (g := w.heap.size + 1 + 1) (by omega) (.int .i64 rt7) (.slice A7 ns7.length c7) (.int .i64 cur7) (.int .u64 v7) (.int .u64 mn7) (.int .i64 load7) (.slice B7 ws7.length d7)
      exact ⟨_, rfl, _, _, _, _, rfl, (SB.out.q.put7 (w.heap.size + 1 + 1) (by omega) (by omega) _ _ _ _ _ _ _).unbox, HBE⟩
  · have hn := HN.out b
    simp only [Prod.mk.injEq, q0, Q.mk.injEq, St.mk.injEq] at hn
    obtain ⟨⟨⟨rfl, rfl⟩, rfl, rfl, rfl, rfl, rfl⟩, rfl, rfl⟩ := hn
    have b1 : (er != 0) = true := by simpa using b
    clear HF HN HY HX0 HFI HUPx b
    have z0 := SB.out.z.c0
    have z1 := SB.out.z.c1
    have z2 := SB.out.z.c2
    have z3 := SB.out.z.c3
    have z4 := SB.out.z.c4
    have z5 := SB.out.z.c5
    have z6 := SB.out.z.c6
    have f0 := SB.out.z.frozen 0
    have f1 := SB.out.z.frozen 1
    have f2 := SB.out.z.frozen 2
    have f3 := SB.out.z.frozen 3
    have f4 := SB.out.z.frozen 4
    have f5 := SB.out.z.frozen 5
    have f6 := SB.out.z.frozen 6
    go_wp2
    refine bodyPost_ret (Go.Proofs.YtnkhnnojdlgfjaaDoorW.PrintWords.results_ctt (cs := #[.int .i64 0, .slice none 0 0, .int .i64 0, .int .u64 0, .int .u64 0, .int .i64 0, .slice none 0 0]) rfl _ _ (w.heap.size + 1 + 1) 28 (0, 0) _ rfl (set7_out SB.out.z.out rfl _ _ _ _ _ _ _) Tryd.underlying28 rfl (by kernel_rfl)) rfl ?_
    have HBE := set7_below SB.out.b (g := w.heap.size + 1 + 1) (by omega) (.int .i64 0) (.slice none 0 0) (.int .i64 0) (.int .u64 0) (.int .u64 0) (.int .i64 0) (.slice none 0 0)
    exact ⟨_, rfl, _, _, _, _, rfl, QIn.zero S _ (fun k hk => Nat.lt_of_lt_of_le (HQ.out.sl k hk) HBE.size), HBE⟩
end Go.Proofs.YtnkhnnojdlgfjaaDoor.Qw
