/- Parts of the proof, joined: Q11. -/
import Derived.Test.YtnkhnnojdlgfjaaDoorUF40
namespace Go.Proofs.YtnkhnnojdlgfjaaDoor.Qw
open Go.RowKit Go Go.Proofs Go.Proofs.YtnkhnnojdlgfjaaDoor Go.Proofs.YtnkhnnojdlgfjaaDoor.Tr Go.Proofs.YtnkhnnojdlgfjaaDoor.Tk Go.Proofs.YtnkhnnojdlgfjaaDoor.Tm Go.Proofs.YtnkhnnojdlgfjaaDoor.Qu Go.Proofs.YtnkhnnojdlgfjaaDoorW.PrintWords Go.Proofs.YtnkhnnojdlgfjaaDoorW.PrintLast Go.Proofs.YtnkhnnojdlgfjaaDoorW.PrintMore
set_option linter.unusedVariables false
set_option linter.unusedSimpArgs false
variable {S : Nat → Prop} {A B : Option Addr} {c d : Nat} {w w' : World} {q : Q}
theorem KB.write {n z : Nat} {W : World} (h : KB S n z A c B d q w W []) (hT : Emp w) {q' : Q} {A' B' : Option Addr} {c' d' : Nat} (hq : QIn (bx S w.heap.size n) A' c' B' d' W q') (hz : z ≠ w.heap.size) (hn : 0 < n) :
    KB S n z A' c' B' d' q' w (set7 W w.heap.size (.int .i64 q'.t.rt) (.slice A' q'.t.ns.length c') (.int .i64 q'.cur) (.int .u64 q'.v) (.int .u64 q'.mn) (.int .i64 q'.load) (.slice B' q'.ws.length d')) [] :=
  have hb := set7_below h.b (g := w.heap.size) (Nat.le_refl _) (.int .i64 q'.t.rt) (.slice A' q'.t.ns.length c') (.int .i64 q'.cur) (.int .u64 q'.v) (.int .u64 q'.mn) (.int .i64 q'.load) (.slice B' q'.ws.length d')
  ⟨⟨set7_out h.x.out rfl _ _ _ _ _ _ _⟩, h.z.far7 hz _ _ _ _ _ _ _, hb, hq.put7 w.heap.size (Nat.le_refl _) (by omega) _ _ _ _ _ _ _, hT.below hb, fun p hp => by cases hp⟩
def pickE (q : Q) : Int := if rightQ q = true then (if decide (keysA q = []) = true then 8 else 0) else 4
theorem pick_no {q : Q} (h : pickE q ≠ 0) : pickA q = some (q0, 0, pickE q) := by
  revert h
  unfold pickA pickE
  cases rightQ q with
  | false => exact fun _ => rfl
  | true =>
    by_cases c : keysA q = []
    · exact fun _ => by rw [if_neg (by simp), if_pos c, if_pos rfl, if_pos (decide_eq_true c)]
    · exact fun h => absurd (by rw [if_pos rfl, if_neg (by rw [decide_eq_false c]; simp)]) h
theorem pick_yes {q : Q} (h : pickE q = 0) : rightQ q = true ∧ ∃ k R, keysA q = k :: R := by
  unfold pickE at h
  cases hr : rightQ q with
  | false => rw [hr] at h; simp at h
  | true =>
    refine ⟨rfl, ?_⟩
    cases hk : keysA q with
    | nil => rw [hr, hk] at h; simp at h
    | cons k R => exact ⟨k, R, rfl⟩
theorem pickFirst_ {n z : Nat} {W : World} {L : List (Nat × Value)} (h : KB S n z A c B d q w W L) (hb eb gl : Nat)
    (e1 : W.cell? ⟨eb, 0, none⟩ = some (.int .i64 8)) (h1 : W.cell? ⟨hb, 0, none⟩ = some (.func (.func 31) #[] #[.pointer (some ⟨w.heap.size, 0, none⟩)]))
    (hL : W.heap[gl]? = some (.cells #[ifV hb eb] 55 (0, 0))) :
    Calls Tryd.prog 20 #[.agg (qc A c B d q), .slice (some ⟨gl, 0, none⟩) 1 1] W fun e w' => e = .returned (.int .i64 (pickE q)) ∧ Below W.heap.size W w' := by
  refine first1_ h.q.unbox h.t hb eb _ gl hL (fun hr W' hW => ?_)
  have hs := h.step hW
  exact if1_31 _ hb eb 8 _ W' (pw_cell_below hW h1) (pw_cell_below hW e1) (pick1_ (ns := q.t.ns) (rt := q.t.rt) hs.x hs.q hs.t hr)
structure PickT (q : Q) (k : K) (t1 t2 : St) (q' : Q) : Prop where mk ::
  bk : backA q = some { q with t := t1, cur := -1, v := 0 }
  wk : (walkA t1).getD 0 (0, 0) = k ∧ decide (0 < (walkA t1).length) = true
  l1 : t1.ns.length = q.t.ns.length
  de : delF t1 q.mn k.2 = some (t2, 0)
  l2 : t2.ns.length = q.t.ns.length
  ra : rightA t2 q.mn = true
  cu : CurOk { q with t := t2, cur := k.2, v := k.1 }
  up : q' = upA { q with t := t2, cur := k.2, v := k.1 }
theorem pick_T {q : Q} (h : pickE q = 0) : ∃ k t1 t2 q', PickT q k t1 t2 q' ∧ pickA q = some (q', k.2, 0) := by
  obtain ⟨hr, k, R, hK⟩ := pick_yes h
  obtain ⟨L, hj⟩ := right_QJ hr
  obtain ⟨q', e1, _, _, _, _, _, _, _, _, t1, t2, b1, b2, d1, d2, d3, d4⟩ := pick_QJ hj hK
  refine ⟨k, t1, t2, q', ⟨b1, ?_, b2.len, d1, d2.len, d2.right, (right_cur d3.right).2, d4⟩, e1⟩
  rw [b2.walk]
  exact ⟨rfl, rfl⟩
set_option maxHeartbeats 32000000 in
set_option maxRecDepth 100000 in
theorem Pick_ (h : QIn S A c B d w q) (hT : Emp w) (r : Q × Int × Int) (hf : pickA q = some r) : Calls Tryd.prog 12 #[.agg (qc A c B d q)] w fun e w' => ∃ u, e = .returned (.tuple #[u, .int .i64 r.2.1, .int .i64 r.2.2]) ∧ QPost S w r.1 u w' := by
  have HQ := Aside0.mk h
  have HT := Aside0.mk hT
  have HN := Aside0.mk (fun h : pickE q ≠ 0 => Option.some.inj (hf.symm.trans (pick_no h)))
  have HY := Aside0.mk (fun h : pickE q = 0 => pick_T h)
  have HG := Aside0.mk (fun h : pickE q = 0 => (pick_yes h).1)
  have HF := Aside0.mk hf
  have HFI := Aside0.mk (fun {n z : Nat} {W : World} {L : List (Nat × Value)} (h : KB S n z A c B d q w W L) => pickFirst_ h)
  have HBA := Aside0.mk (fun (hr : rightQ q = true) (x : Q) (hf : backA q = some x) (S : Nat → Prop) (W : World) (h : QIn S A c B d W q) (hT : Emp W) => back_ h hT hr x hf)
  generalize pickE q = EE at HN HY HG HFI
  clear h hT hf
  obtain ⟨⟨⟨ns7, rt7⟩, cur7, v7, mn7, load7, ws7⟩, ir, er⟩ := r
  obtain ⟨⟨ns, rt⟩, cur, v, mn, load, ws⟩ := q
  replace HFI := Aside0.mk (fun {n z : Nat} {W : World} {L : List (Nat × Value)} (h : KB S n z A c B d ⟨⟨ns, rt⟩, cur, v, mn, load, ws⟩ w W L) => HFI.out h)
  show Calls Tryd.prog 12 #[.agg #[.int .i64 rt, .slice A ns.length c, .int .i64 cur, .int .u64 v, .int .u64 mn, .int .i64 load, .slice B ws.length d]] w _
  go_enter Tryd.func12, Tryd.ntmps12
  go_upto_region 1 with (fail)
  have HXx := (QB.new w rt A ns.length c cur v mn load B ws.length d).below (below_alloc (Below.refl _ _) (.cells #[.int .i64 0, .slice none 0 0, .int .i64 0, .int .u64 0, .int .u64 0, .int .i64 0, .slice none 0 0] 28))
  have HZz := QB.new (w.alloc (.cells #[.int .i64 rt, .slice A ns.length c, .int .i64 cur, .int .u64 v, .int .u64 mn, .int .i64 load, .slice B ws.length d] 28)) 0 none 0 0 0 0 0 0 none 0 0
  have HBb : Below w.heap.size w ((w.alloc (.cells #[.int .i64 rt, .slice A ns.length c, .int .i64 cur, .int .u64 v, .int .u64 mn, .int .i64 load, .slice B ws.length d] 28)).alloc (.cells #[.int .i64 0, .slice none 0 0, .int .i64 0, .int .u64 0, .int .u64 0, .int .i64 0, .slice none 0 0] 28)) := (below_alloc (below_alloc (Below.refl w.heap.size w) (.cells #[.int .i64 rt, .slice A ns.length c, .int .i64 cur, .int .u64 v, .int .u64 mn, .int .i64 load, .slice B ws.length d] 28)) (.cells #[.int .i64 0, .slice none 0 0, .int .i64 0, .int .u64 0, .int .u64 0, .int .i64 0, .slice none 0 0] 28))
  simp only [World.size_alloc] at HZz
  generalize (w.alloc (.cells #[.int .i64 rt, .slice A ns.length c, .int .i64 cur, .int .u64 v, .int .u64 mn, .int .i64 load, .slice B ws.length d] 28)).alloc (.cells #[.int .i64 0, .slice none 0 0, .int .i64 0, .int .u64 0, .int .u64 0, .int .i64 0, .slice none 0 0] 28) = W1 at HXx HZz HBb ⊢
  have SB := Aside0.mk (show KB S 2 (w.heap.size + 1) A c B d ⟨⟨ns, rt⟩, cur, v, mn, load, ws⟩ w W1 [] from ⟨HXx, HZz, HBb, HQ.out.boxes (n := 2) HBb (by have := HZz.lt; omega), HT.out.below HBb, fun p hp => by cases hp⟩)
  clear HXx HZz HBb
  have a0 := SB.out.x.c0
  have a1 := SB.out.x.c1
  have a2 := SB.out.x.c2
  have a3 := SB.out.x.c3
  have a4 := SB.out.x.c4
  have a5 := SB.out.x.c5
  have a6 := SB.out.x.c6
  go_cut [5] (fun s10 wx => s10 = .int .i64 EE ∧ Aside0 (KB S 2 (w.heap.size + 1) A c B d ⟨⟨ns, rt⟩, cur, v, mn, load, ws⟩ w wx []))
  case first =>
    go_region_held3 (fun w' => w'.cell? ⟨w.heap.size, 0, none⟩ = some (.int .i64 rt) ∧ w'.cell? ⟨w.heap.size, 1, none⟩ = some (.slice A ns.length c) ∧ w'.cell? ⟨w.heap.size, 2, none⟩ = some (.int .i64 cur) ∧ w'.cell? ⟨w.heap.size, 3, none⟩ = some (.int .u64 v) ∧ w'.cell? ⟨w.heap.size, 4, none⟩ = some (.int .u64 mn) ∧ w'.cell? ⟨w.heap.size, 5, none⟩ = some (.int .i64 load) ∧ w'.cell? ⟨w.heap.size, 6, none⟩ = some (.slice B ws.length d)) (first | exact ⟨a0, a1, a2, a3, a4, a5, a6⟩ | exact ⟨(SB.out.step (below_alloc (Below.refl _ _) _)).x.c0, (SB.out.step (below_alloc (Below.refl _ _) _)).x.c1, (SB.out.step (below_alloc (Below.refl _ _) _)).x.c2, (SB.out.step (below_alloc (Below.refl _ _) _)).x.c3, (SB.out.step (below_alloc (Below.refl _ _) _)).x.c4, (SB.out.step (below_alloc (Below.refl _ _) _)).x.c5, (SB.out.step (below_alloc (Below.refl _ _) _)).x.c6⟩) (first
      | (go_at_call_of 21 (Value.int IntKind.i64 8); refine (if_ 8 31 _ _).mono ?_; rintro e wq1 ⟨rfl, hc1, hc2, hB⟩; (first | replace SB := Aside0.mk (((SB.out.step hB).more hc1).more hc2) | replace SB := Aside0.mk (((SB.out.drew.step hB).more hc1).more hc2)); clear hc1 hc2 hB; replace a0 := SB.out.x.c0; replace a1 := SB.out.x.c1; replace a2 := SB.out.x.c2; replace a3 := SB.out.x.c3; replace a4 := SB.out.x.c4; replace a5 := SB.out.x.c5; replace a6 := SB.out.x.c6)
      | (go_at_call 20; refine (HFI.out (SB.out.step (below_alloc (Below.refl _ _) _)) (W1.heap.size + 1) W1.heap.size wq1.heap.size ((SB.out.step (below_alloc (Below.refl _ _) _)).l (W1.heap.size, .int .i64 8) (by simp)) ((SB.out.step (below_alloc (Below.refl _ _) _)).l (W1.heap.size + 1, _) (by simp)) (blk_new _ _)).mono ?_; rintro e wq3 ⟨rfl, hB⟩; replace SB := Aside0.mk ((SB.out.step (below_alloc (Below.refl _ _) _)).step hB); clear hB; replace a0 := SB.out.x.c0; replace a1 := SB.out.x.c1; replace a2 := SB.out.x.c2; replace a3 := SB.out.x.c3; replace a4 := SB.out.x.c4; replace a5 := SB.out.x.c5; replace a6 := SB.out.x.c6))
    all_goals (
      go_wp2_with fail
      go_meet
      exact ⟨rfl, ⟨SB.out.sub (by simp)⟩⟩)
  obtain ⟨rfl, SB2⟩ := hcut
  clear SB a0 a1 a2 a3 a4 a5 a6
  have SB := SB2
  clear SB2
  generalize wc = W2 at SB ⊢
  by_cases b : EE = 0
  · obtain ⟨k, t1, t2, q', hp, hpk⟩ := HY.out b
    have hqw := Option.some.inj (HF.out.symm.trans hpk)
    simp only [Prod.mk.injEq] at hqw
    obtain ⟨rfl, rfl, rfl⟩ := hqw
    have hr := HG.out b
    obtain ⟨k1, k2⟩ := k
    obtain ⟨ns1, rt1⟩ := t1
    obtain ⟨ns2, rt2⟩ := t2
    have HBK := Aside0.mk (fun (S : Nat → Prop) (W : World) (h : QIn S A c B d W ⟨⟨ns, rt⟩, cur, v, mn, load, ws⟩) (hT : Emp W) => (show Calls Tryd.prog 33 #[.agg #[.int .i64 rt, .slice A ns.length c, .int .i64 cur, .int .u64 v, .int .u64 mn, .int .i64 load, .slice B ws.length d]] W fun e w' => ∃ u, e = .returned u ∧ QPost S W ⟨⟨ns1, rt1⟩, -1, 0, mn, load, ws⟩ u w' from HBA.out hr _ hp.bk S W h hT))
    have HWK := Aside0.mk (show (walkA ⟨ns1, rt1⟩).getD 0 (0, 0) = (k1, k2) ∧ decide (0 < (walkA ⟨ns1, rt1⟩).length) = true from hp.wk)
    have HL1 := Aside0.mk (show ns1.length = ns.length from hp.l1)
    have HDE := Aside0.mk (show delF ⟨ns1, rt1⟩ mn k2 = some (⟨ns2, rt2⟩, 0) from hp.de)
    have HL2 := Aside0.mk (show ns2.length = ns.length from hp.l2)
    have HUP := Aside0.mk (fun (A : Option Addr) (c : Nat) (B : Option Addr) (d : Nat) (S : Nat → Prop) (W : World) (h : QIn S A c B d W ⟨⟨ns2, rt2⟩, k2, k1, mn, load, ws⟩) (hT : Emp W) => (show Calls Tryd.prog 36 #[.agg #[.int .i64 rt2, .slice A ns2.length c, .int .i64 k2, .int .u64 k1, .int .u64 mn, .int .i64 load, .slice B ws.length d]] W fun e w' => ∃ u, e = .returned u ∧ QPost S W ⟨⟨ns7, rt7⟩, cur7, v7, mn7, load7, ws7⟩ u w' from by rw [show (⟨⟨ns7, rt7⟩, cur7, v7, mn7, load7, ws7⟩ : Q) = upA ⟨⟨ns2, rt2⟩, k2, k1, mn, load, ws⟩ from hp.up]; exact up_ h hp.ra hp.cu hT))
    subst b
    clear HF HN HY HG HFI HBA hp hpk hr
    have a0 := SB.out.x.c0
    have a1 := SB.out.x.c1
    have a2 := SB.out.x.c2
    have a3 := SB.out.x.c3
    have a4 := SB.out.x.c4
    have a5 := SB.out.x.c5
    have a6 := SB.out.x.c6
    go_upto_region 5 with (go_at_call 33; refine (HBK.out _ _ SB.out.q SB.out.t).mono ?_; rintro e w3 ⟨u, rfl, hp⟩; obtain ⟨A1, c1, B1, d1, rfl, hq1, hb1⟩ := hp.out; have HQ1 := Aside0.mk hq1; replace SB := Aside0.mk (SB.out.step hb1); clear hp hq1 hb1; clear a0 a1 a2 a3 a4 a5 a6; have a0 := SB.out.x.c0; have a1 := SB.out.x.c1; have a2 := SB.out.x.c2; have a3 := SB.out.x.c3; have a4 := SB.out.x.c4; have a5 := SB.out.x.c5; have a6 := SB.out.x.c6; have f0 := SB.out.x.frozen 0; have f1 := SB.out.x.frozen 1; have f2 := SB.out.x.frozen 2; have f3 := SB.out.x.frozen 3; have f4 := SB.out.x.frozen 4; have f5 := SB.out.x.frozen 5; have f6 := SB.out.x.frozen 6)
    have SB2 := Aside0.mk (show KB S 2 (w.heap.size + 1) A1 c1 B1 d1 ⟨⟨ns1, rt1⟩, -1, 0, mn, load, ws⟩ w (((((((w3.setCell ⟨w.heap.size, 0, none⟩ (.int .i64 rt1)).setCell ⟨w.heap.size, 1, none⟩ (.slice A1 ns1.length c1)).setCell ⟨w.heap.size, 2, none⟩ (.int .i64 (-1))).setCell ⟨w.heap.size, 3, none⟩ (.int .u64 0)).setCell ⟨w.heap.size, 4, none⟩ (.int .u64 mn)).setCell ⟨w.heap.size, 5, none⟩ (.int .i64 load)).setCell ⟨w.heap.size, 6, none⟩ (.slice B1 ws.length d1)) [] from SB.out.write HT.out HQ1.out (by omega) (by omega))
    clear a0 a1 a2 a3 a4 a5 a6 f0 f1 f2 f3 f4 f5 f6 SB HQ1
    have SB := SB2
    clear SB2
    generalize ((((((w3.setCell ⟨w.heap.size, 0, none⟩ (.int .i64 rt1)).setCell ⟨w.heap.size, 1, none⟩ (.slice A1 ns1.length c1)).setCell ⟨w.heap.size, 2, none⟩ (.int .i64 (-1))).setCell ⟨w.heap.size, 3, none⟩ (.int .u64 0)).setCell ⟨w.heap.size, 4, none⟩ (.int .u64 mn)).setCell ⟨w.heap.size, 5, none⟩ (.int .i64 load)).setCell ⟨w.heap.size, 6, none⟩ (.slice B1 ws.length d1) = W4 at SB ⊢
    have a0 := SB.out.x.c0
    have a1 := SB.out.x.c1
    have HFR := Aside0.mk (fun (W : World) (h : kn.C W A1 ns1.length ns1) (hl : ns1.length ≤ 1000000) (hT : Emp W) => (show Calls Tryd.prog 34 #[.agg #[.int .i64 rt1, .slice A1 ns1.length c1]] W fun e w' => e = .returned (.tuple #[.agg #[.int .u64 k1, .int .i64 k2], .bool true]) ∧ Below W.heap.size W w' from by
      have h1 := First_ (t := ⟨ns1, rt1⟩) (w := W) A1 c1 h hl hT
      rw [HWK.out.1, HWK.out.2] at h1
      exact h1))
    go_upto_region 6 with (go_at_call 34; refine (HFR.out _ SB.out.q.trC SB.out.q.tl SB.out.t).mono ?_; rintro e w5 ⟨rfl, hb⟩; replace SB := Aside0.mk (SB.out.step hb); clear hb; clear a0 a1)
    have HKL := Aside0.mk SB.out.x.lt
    have HKZ := Aside0.mk (SB.out.z.lt)
    have hb := below_alloc (Below.refl w5.heap.size w5) (.cells #[.int .u64 k1, .int .i64 k2] 47)
    have HKX := Aside0.mk (blk_new w5 (.cells #[.int .u64 k1, .int .i64 k2] 47))
    replace SB := Aside0.mk (SB.out.step hb)
    clear hb HFR
    generalize w5.alloc (.cells #[.int .u64 k1, .int .i64 k2] 47) = W6 at SB HKX ⊢
    generalize w5.heap.size = kb at HKX HKL HKZ ⊢
    have a0 := SB.out.x.c0
    have a1 := SB.out.x.c1
    have a4 := SB.out.x.c4
    have e1 := (show W6.cell? ⟨kb, 1, none⟩ = some (.int .i64 k2) from (blk_cell HKX.out 1).trans rfl)
    go_upto_region 7 with (go_at_call 35; refine (Delete_ (t := ⟨ns1, rt1⟩) A1 c1 mn k2 (⟨ns2, rt2⟩, 0) SB.out.q.trC SB.out.q.tl SB.out.t HDE.out).mono ?_; rintro e w7 hp; obtain ⟨v2, rfl, hR, hb⟩ := hp.out; obtain ⟨A2, c2, hv2, hlc2, hC2⟩ := Kd.R_reads hR; subst hv2; have HQ2 := Aside0.mk ((SB.out.q.below hb).tree (t' := ⟨ns2, rt2⟩) (w0 := W6) hR SB.out.q.sl (by have h1 := HL1.out; have h2 := HL2.out; have h3 := HQ.out.tl; have e : (⟨⟨ns, rt⟩, cur, v, mn, load, ws⟩ : Q).t.ns.length = ns.length := rfl; have e2 : (⟨ns2, rt2⟩ : St).ns.length = ns2.length := rfl; omega)); replace SB := Aside0.mk (SB.out.step hb); replace HKX := Aside0.mk (blk_below HKX.out hb); clear hp hR hb hC2 hlc2 a0 a1 a4 e1)
    have HTL := Aside0.mk SB.out.x.lt
    have hb := below_alloc (Below.refl w7.heap.size w7) (.cells #[.int .i64 rt2, .slice A2 ns2.length c2] 25)
    have HTX := Aside0.mk (blk_new w7 (.cells #[.int .i64 rt2, .slice A2 ns2.length c2] 25))
    replace SB := Aside0.mk (SB.out.step hb)
    replace HKX := Aside0.mk (blk_below HKX.out hb)
    replace HQ2 := Aside0.mk (HQ2.out.below hb)
    clear hb
    generalize w7.alloc (.cells #[.int .i64 rt2, .slice A2 ns2.length c2] 25) = W8 at SB HKX HTX HQ2 ⊢
    generalize w7.heap.size = tb at HTX HTL ⊢
    have n1 : ¬ kb = w.heap.size := by have := HKL.out; omega
    have n2 : ¬ w.heap.size = kb := by have := HKL.out; omega
    have n3 : ¬ tb = w.heap.size := by have := HTL.out; omega
    have n4 : ¬ w.heap.size = tb := by have := HTL.out; omega
    have e0 := (show W8.cell? ⟨kb, 0, none⟩ = some (.int .u64 k1) from (blk_cell HKX.out 0).trans rfl)
    have e1 := (show W8.cell? ⟨kb, 1, none⟩ = some (.int .i64 k2) from (blk_cell HKX.out 1).trans rfl)
    have t0 := (show W8.cell? ⟨tb, 0, none⟩ = some (.int .i64 rt2) from (blk_cell HTX.out 0).trans rfl)
    have t1 := (show W8.cell? ⟨tb, 1, none⟩ = some (.slice A2 ns2.length c2) from (blk_cell HTX.out 1).trans rfl)
    have a0 := SB.out.x.c0
    have a1 := SB.out.x.c1
    have a2 := SB.out.x.c2
    have a3 := SB.out.x.c3
    have f0 := SB.out.x.frozen 0
    have f1 := SB.out.x.frozen 1
    have f2 := SB.out.x.frozen 2
    have f3 := SB.out.x.frozen 3
    go_region
    have HX9 := (((SB.out.x.st01 rt2 A2 ns2.length c2).st2 k2).st3 k1).moved (W' := ((((W8.setCell ⟨w.heap.size, 0, none⟩ (.int .i64 rt2)).setCell ⟨w.heap.size, 1, none⟩ (.slice A2 ns2.length c2)).setCell ⟨w.heap.size, 2, none⟩ (.int .i64 k2)).setCell ⟨w.heap.size, 3, none⟩ (.int .u64 k1)).drew) rfl
    have HZ9 := ((((SB.out.z.far (k := w.heap.size) (by omega) 0 (.int .i64 rt2)).far (k := w.heap.size) (by omega) 1 (.slice A2 ns2.length c2)).far (k := w.heap.size) (by omega) 2 (.int .i64 k2)).far (k := w.heap.size) (by omega) 3 (.int .u64 k1)).moved (W' := ((((W8.setCell ⟨w.heap.size, 0, none⟩ (.int .i64 rt2)).setCell ⟨w.heap.size, 1, none⟩ (.slice A2 ns2.length c2)).setCell ⟨w.heap.size, 2, none⟩ (.int .i64 k2)).setCell ⟨w.heap.size, 3, none⟩ (.int .u64 k1)).drew) rfl
    have HB9 := Below.drew (Below.setCell (Below.setCell (Below.setCell (Below.setCell SB.out.b (p := ⟨w.heap.size, 0, none⟩) (Nat.le_refl _) (.int .i64 rt2)) (p := ⟨w.heap.size, 1, none⟩) (Nat.le_refl _) (.slice A2 ns2.length c2)) (p := ⟨w.heap.size, 2, none⟩) (Nat.le_refl _) (.int .i64 k2)) (p := ⟨w.heap.size, 3, none⟩) (Nat.le_refl _) (.int .u64 k1))
    have HQ9 := (((((HQ2.out.put w.heap.size 0 (by omega) (by omega) (.int .i64 rt2)).put w.heap.size 1 (by omega) (by omega) (.slice A2 ns2.length c2)).put w.heap.size 2 (by omega) (by omega) (.int .i64 k2)).put w.heap.size 3 (by omega) (by omega) (.int .u64 k1)).below (Below.drew (Below.refl _ _))).fields (q' := ⟨⟨ns2, rt2⟩, k2, k1, mn, load, ws⟩) rfl rfl
    have HK9 := blk_drew (blk_far (blk_far (blk_far (blk_far HKX.out (p := ⟨w.heap.size, 0, none⟩) n1 (.int .i64 rt2)) (p := ⟨w.heap.size, 1, none⟩) n1 (.slice A2 ns2.length c2)) (p := ⟨w.heap.size, 2, none⟩) n1 (.int .i64 k2)) (p := ⟨w.heap.size, 3, none⟩) n1 (.int .u64 k1))
    clear a0 a1 a2 a3 f0 f1 f2 f3 t0 t1 e0 e1 n1 n2 n3 n4 HTX HTL HKX HQ2 SB
    generalize ((((W8.setCell ⟨w.heap.size, 0, none⟩ (.int .i64 rt2)).setCell ⟨w.heap.size, 1, none⟩ (.slice A2 ns2.length c2)).setCell ⟨w.heap.size, 2, none⟩ (.int .i64 k2)).setCell ⟨w.heap.size, 3, none⟩ (.int .u64 k1)).drew = W9 at HX9 HZ9 HB9 HQ9 HK9 ⊢
    have SB := Aside0.mk (show KB S 2 (w.heap.size + 1) A2 c2 B1 d1 ⟨⟨ns2, rt2⟩, k2, k1, mn, load, ws⟩ w W9 [(kb, .int .u64 k1)] from ⟨HX9, HZ9, HB9, HQ9, HT.out.below HB9, fun p hp => by
      simp only [List.mem_cons, List.not_mem_nil, or_false] at hp
      subst hp
      exact (blk_cell HK9 0).trans rfl⟩)
    have HKX := Aside0.mk HK9
    have HK1 := Aside0.mk HKZ.out
    clear HX9 HZ9 HB9 HQ9 HK9
    have a0 := SB.out.x.c0
    have a1 := SB.out.x.c1
    have a2 := SB.out.x.c2
    have a3 := SB.out.x.c3
    have a4 := SB.out.x.c4
    have a5 := SB.out.x.c5
    have a6 := SB.out.x.c6
    have z0 := SB.out.z.c0
    have z1 := SB.out.z.c1
    have z2 := SB.out.z.c2
    have z3 := SB.out.z.c3
    have z4 := SB.out.z.c4
    have z5 := SB.out.z.c5
    have z6 := SB.out.z.c6
    have f0 := SB.out.z.frozen 0
    have f1 := SB.out.z.frozen 1
    have f2 := SB.out.z.frozen 2
    have f3 := SB.out.z.frozen 3
    have f4 := SB.out.z.frozen 4
    have f5 := SB.out.z.frozen 5
    have f6 := SB.out.z.frozen 6
    have k1c := (show _ = some (Value.int .i64 k2) from (blk_cell HKX.out 1).trans rfl)
    go_upto_region 8 with (fail)
    clear a0 a1 a2 a3 a4 a5 a6 z0 z1 z2 z3 z4 z5 z6 f0 f1 f2 f3 f4 f5 f6 k1c
    replace SB := Aside0.mk SB.out.drew
    replace HKX := Aside0.mk (blk_drew HKX.out)
    refine start_ (n := 8) (S := fun w' => w'.cell? ⟨w.heap.size, 0, none⟩ = some (.int .i64 rt2) ∧ w'.cell? ⟨w.heap.size, 1, none⟩ = some (.slice A2 ns2.length c2) ∧ w'.cell? ⟨w.heap.size, 2, none⟩ = some (.int .i64 k2) ∧ w'.cell? ⟨w.heap.size, 3, none⟩ = some (.int .u64 k1) ∧ w'.cell? ⟨w.heap.size, 4, none⟩ = some (.int .u64 mn) ∧ w'.cell? ⟨w.heap.size, 5, none⟩ = some (.int .i64 load) ∧ w'.cell? ⟨w.heap.size, 6, none⟩ = some (.slice B1 ws.length d1) ∧ w'.cell? ⟨kb, 1, none⟩ = some (.int .i64 k2)) (ds := []) #[false, false, false, false, false, false, false, false] (by kernel_rfl) rfl rfl ⟨SB.out.x.c0, SB.out.x.c1, SB.out.x.c2, SB.out.x.c3, SB.out.x.c4, SB.out.x.c5, SB.out.x.c6, (blk_cell HKX.out 1).trans rfl⟩ (fun hHeld => ?_)
    generalize World.drew _ = W10 at SB HKX hHeld ⊢
    refine take_ (i := 0) (N := some 45) (v := ?_) (a' := ?_) #[true, false, false, false, false, false, false, false] rfl rfl (by kernel_rfl) (fun _ _ _ h => h) (Or.inl ⟨by rfl, ?_⟩) hHeld ?_ ?_
    rotate_left
    · rintro w' ⟨s0, s1, s2, s3, s4, s5, s6, s7⟩
      go_simp
      with_reducible rfl
    rotate_left
    · (simp only [Act.put, List.setIfInBounds_toArray, List.set_cons_zero, List.set_cons_succ, i64_w, i32_w]; rfl)
    refine pure_ (i := 2) (N := some 47) (v := ?_) (a' := ?_) #[true, false, true, false, false, false, false, false] rfl rfl (by kernel_rfl) (fun _ _ _ h => h) (Or.inl ⟨by rfl, ?_⟩) ?_ ?_
    rotate_left
    · intro w'
      go_simp
      with_reducible rfl
    rotate_left
    · (simp only [Act.put, List.setIfInBounds_toArray, List.set_cons_zero, List.set_cons_succ, i64_w, i32_w]; rfl)
    refine take_ (i := 3) (N := some 48) (v := ?_) (a' := ?_) #[true, false, true, true, false, false, false, false] rfl rfl (by kernel_rfl) (fun _ _ _ h => h) (Or.inl ⟨by rfl, ?_⟩) hHeld ?_ ?_
    rotate_left
    · rintro w' ⟨s0, s1, s2, s3, s4, s5, s6, s7⟩
      go_simp
      with_reducible rfl
    rotate_left
    · (simp only [Act.put, List.setIfInBounds_toArray, List.set_cons_zero, List.set_cons_succ, i64_w, i32_w]; rfl)
    refine pure_ (i := 4) (N := some 49) (v := ?_) (a' := ?_) #[true, false, true, true, true, false, false, false] rfl rfl (by kernel_rfl) (fun _ _ _ h => h) (Or.inl ⟨by rfl, ?_⟩) ?_ ?_
    rotate_left
    · intro w'
      go_simp
      with_reducible rfl
    rotate_left
    · (simp only [Act.put, List.setIfInBounds_toArray, List.set_cons_zero, List.set_cons_succ, i64_w, i32_w]; rfl)
    refine one_ (i := 1) (N := some 46) #[true, true, true, true, true, false, false, false] rfl rfl (by kernel_rfl) (by decide) (fun K hK => ?_)
    refine goes_ Tryd.func36 (by kernel_rfl) rfl #[.agg #[.int .i64 rt2, .slice A2 ns2.length c2, .int .i64 k2, .int .u64 k1, .int .u64 mn, .int .i64 load, .slice B1 ws.length d1]] (by rfl) rfl rfl (by (try simp only [List.map_toArray, List.map_cons, List.map_nil]); first | done | rfl) ?_
    refine (HUP.out A2 c2 B1 d1 _ _ SB.out.q SB.out.t).mono ?_
    rintro e wq ⟨u, rfl, hp⟩
    obtain ⟨A7, c7, B7, d7, rfl, hq7, hb7⟩ := hp.out
    refine ⟨_, rfl, ?_⟩
    replace SB := Aside0.mk (SB.out.step hb7)
    replace HKX := Aside0.mk (blk_below HKX.out hb7)
    have HQ7 := Aside0.mk hq7
    clear hp hq7 hb7
    refine hK.out _ _ ⟨SB.out.x.c0, SB.out.x.c1, SB.out.x.c2, SB.out.x.c3, SB.out.x.c4, SB.out.x.c5, SB.out.x.c6, (blk_cell HKX.out 1).trans rfl⟩ (fun hHeld => ?_)
    clear hK K
    refine norm_ (a' := ?_) ?_ ?_
    rotate_left
    · (show Act.put _ (some 46) _ = _; (simp only [Act.put, List.setIfInBounds_toArray, List.set_cons_zero, List.set_cons_succ, i64_w, i32_w]; rfl))
    have z0 := SB.out.z.c0
    have f0 := SB.out.z.frozen 0
    have z1 := SB.out.z.c1
    have f1 := SB.out.z.frozen 1
    have z2 := SB.out.z.c2
    have f2 := SB.out.z.frozen 2
    have z3 := SB.out.z.c3
    have f3 := SB.out.z.frozen 3
    have z4 := SB.out.z.c4
    have f4 := SB.out.z.frozen 4
    have z5 := SB.out.z.c5
    have f5 := SB.out.z.frozen 5
    have z6 := SB.out.z.c6
    have f6 := SB.out.z.frozen 6
    refine one_ (i := 5) (N := none) #[true, true, true, true, true, true, false, false] rfl rfl (by kernel_rfl) (by decide) (fun K hK => ?_)
    refine skip_ (w1 := ?_) (by rfl) rfl ?_ ?_
    rotate_left
    · go_simp
      rfl
    refine hK.out _ _ ⟨(SB.out.x.far7 (k := w.heap.size + 1) (by omega) _ _ _ _ _ _ _).c0, (SB.out.x.far7 (k := w.heap.size + 1) (by omega) _ _ _ _ _ _ _).c1, (SB.out.x.far7 (k := w.heap.size + 1) (by omega) _ _ _ _ _ _ _).c2, (SB.out.x.far7 (k := w.heap.size + 1) (by omega) _ _ _ _ _ _ _).c3, (SB.out.x.far7 (k := w.heap.size + 1) (by omega) _ _ _ _ _ _ _).c4, (SB.out.x.far7 (k := w.heap.size + 1) (by omega) _ _ _ _ _ _ _).c5, (SB.out.x.far7 (k := w.heap.size + 1) (by omega) _ _ _ _ _ _ _).c6, (blk_cell ((set7_other (k := kb) (g := w.heap.size + 1) (by have := HKL.out; have := HK1.out; omega) _ _ _ _ _ _ _).trans HKX.out) 1).trans rfl⟩ (fun hHeld => ?_)
    clear hK K
    refine pure_ (i := 6) (N := some 3) (v := ?_) (a' := ?_) #[true, true, true, true, true, true, true, false] rfl rfl (by kernel_rfl) (fun _ _ _ h => h) (Or.inl ⟨by rfl, ?_⟩) ?_ ?_
    rotate_left
    · intro w'
      go_simp
      with_reducible rfl
    rotate_left
    · (simp only [Act.put, List.setIfInBounds_toArray, List.set_cons_zero, List.set_cons_succ, i64_w, i32_w]; rfl)
    refine pure_ (i := 7) (N := some 4) (v := ?_) (a' := ?_) #[true, true, true, true, true, true, true, true] rfl rfl (by kernel_rfl) (fun _ _ _ h => h) (Or.inl ⟨by rfl, ?_⟩) ?_ ?_
    rotate_left
    · intro w'
      go_simp
      with_reducible rfl
    rotate_left
    · (simp only [Act.put, List.setIfInBounds_toArray, List.set_cons_zero, List.set_cons_succ, i64_w, i32_w]; rfl)
    refine done_ (by kernel_rfl) ?_
    all_goals (
      go_wp2
      refine bodyPost_ret (Go.Proofs.YtnkhnnojdlgfjaaDoorW.PrintWords.results_ctt (cs := #[.int .i64 rt7, .slice A7 ns7.length c7, .int .i64 cur7, .int .u64 v7, .int .u64 mn7, .int .i64 load7, .slice B7 ws7.length d7]) rfl _ _ (w.heap.size + 1) 28 (0, 0) _ rfl (set7_out SB.out.z.out rfl _ _ _ _ _ _ _) Tryd.underlying28 rfl (by kernel_rfl)) rfl ?_
      have HBE := set7_below SB.out.b (g := w.heap.size + 1) (by omega) (.int .i64 rt7) (.slice A7 ns7.length c7) (.int .i64 cur7) (.int .u64 v7) (.int .u64 mn7) (.int .i64 load7) (.slice B7 ws7.length d7)
      exact ⟨_, rfl, _, _, _, _, rfl, (HQ7.out.put7 (w.heap.size + 1) (by omega) (by omega) _ _ _ _ _ _ _).unbox, HBE⟩)
  · have hn := HN.out b
    simp only [Prod.mk.injEq, q0, Q.mk.injEq, St.mk.injEq] at hn
    obtain ⟨⟨⟨rfl, rfl⟩, rfl, rfl, rfl, rfl, rfl⟩, rfl, rfl⟩ := hn
    have b1 : (er != 0) = true := by simpa using b
    clear HF HN HY HG HFI HBA b
    have z0 := SB.out.z.c0
    have z1 := SB.out.z.c1
    have z2 := SB.out.z.c2
    have z3 := SB.out.z.c3
    have z4 := SB.out.z.c4
    have z5 := SB.out.z.c5
    have z6 := SB.out.z.c6
    have f0 := SB.out.z.frozen 0
    have f1 := SB.out.z.frozen 1
    have f2 := SB.out.z.frozen 2
    have f3 := SB.out.z.frozen 3
    have f4 := SB.out.z.frozen 4
    have f5 := SB.out.z.frozen 5
    have f6 := SB.out.z.frozen 6
    go_wp2
    refine bodyPost_ret (Go.Proofs.YtnkhnnojdlgfjaaDoorW.PrintWords.results_ctt (cs := #[.int .i64 0, .slice none 0 0, .int .i64 0, .int .u64 0, .int .u64 0, .int .i64 0, .slice none 0 0]) rfl _ _ (w.heap.size + 1) 28 (0, 0) _ rfl (set7_out SB.out.z.out rfl _ _ _ _ _ _ _) Tryd.underlying28 rfl (by kernel_rfl)) rfl ?_
    have HBE := set7_below SB.out.b (g := w.heap.size + 1) (by omega) (.int .i64 0) (.slice none 0 0) (.int .i64 0) (.int .u64 0) (.int .u64 0) (.int .i64 0) (.slice none 0 0)
    exact ⟨_, rfl, _, _, _, _, rfl, QIn.zero S _ (fun k hk => Nat.lt_of_lt_of_le (HQ.out.sl k hk) HBE.size), HBE⟩
end Go.Proofs.YtnkhnnojdlgfjaaDoor.Qw
