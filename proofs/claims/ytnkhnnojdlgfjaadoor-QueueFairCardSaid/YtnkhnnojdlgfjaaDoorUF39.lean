/- Parts of the proof, joined: Q9. -/
import Derived.Test.YtnkhnnojdlgfjaaDoorUF38
namespace Go.Proofs.YtnkhnnojdlgfjaaDoor.Qw
open Go.RowKit Go Go.Proofs Go.Proofs.YtnkhnnojdlgfjaaDoor Go.Proofs.YtnkhnnojdlgfjaaDoor.Tr Go.Proofs.YtnkhnnojdlgfjaaDoor.Tk Go.Proofs.YtnkhnnojdlgfjaaDoor.Tm Go.Proofs.YtnkhnnojdlgfjaaDoor.Qu Go.Proofs.YtnkhnnojdlgfjaaDoorW.PrintWords Go.Proofs.YtnkhnnojdlgfjaaDoorW.PrintLast Go.Proofs.YtnkhnnojdlgfjaaDoorW.PrintMore
set_option linter.unusedVariables false
set_option linter.unusedSimpArgs false
variable {S : Nat → Prop} {A B : Option Addr} {c d : Nat} {w w' : World} {q : Q}
def enterE (q : Q) (id x : Int) : Int := if rightQ q = true then (if (if (!(knownA q id && weighedA x)) = true then (1 : Int) else 0) = 0 then (if hereA q id = true then 9 else 0) else (if (!(knownA q id && weighedA x)) = true then 1 else 0)) else 4
theorem enter_no {q : Q} {id x lag : Int} (h : enterE q id x ≠ 0) : enterA q id x lag = some (q0, enterE q id x) := by
  revert h
  unfold enterA enterE
  cases rightQ q with
  | false => exact fun _ => rfl
  | true =>
    cases (knownA q id && weighedA x) with
    | false => exact fun _ => rfl
    | true =>
      cases hereA q id with
      | true => exact fun _ => rfl
      | false => exact fun h => absurd rfl h
theorem enter_yes {q : Q} {id x : Int} (h : enterE q id x = 0) : rightQ q = true ∧ knownA q id = true ∧ weighedA x = true ∧ hereA q id = false := by
  unfold enterE at h
  cases hr : rightQ q with
  | false => rw [hr] at h; simp at h
  | true =>
    cases hk : knownA q id with
    | false => rw [hr, hk] at h; simp at h
    | true =>
      cases hw : weighedA x with
      | false => rw [hr, hk, hw] at h; simp at h
      | true =>
        cases hh : hereA q id with
        | true => rw [hr, hk, hw, hh] at h; simp at h
        | false => exact ⟨rfl, rfl, rfl, rfl⟩
theorem here_rng {q : Q} {id : Int} (hr : rightQ q = true) (hk : knownA q id = true) : 0 ≤ id ∧ id < (q.t.ns.length : Int) ∧ id < (q.ws.length : Int) := by
  obtain ⟨L, hj⟩ := right_QJ hr
  have h1 := hj.known.1 hk
  have h2 := hj.len
  exact ⟨h1.1, h1.2, by omega⟩
theorem enterFirst_ {n z : Nat} {W : World} {L : List (Nat × Value)} (h : KB S n z A c B d q w W L) (id x : Int) (g1 g2 : Nat) (c1 : W.cell? ⟨g1, 0, none⟩ = some (.int .i64 id)) (c2 : W.cell? ⟨g2, 0, none⟩ = some (.int .i64 x)) (hb eb hb2 eb2 gl : Nat)
    (e1 : W.cell? ⟨eb, 0, none⟩ = some (.int .i64 1)) (h1 : W.cell? ⟨hb, 0, none⟩ = some (.func (.func 22) #[] #[.pointer (some ⟨w.heap.size, 0, none⟩), .pointer (some ⟨g1, 0, none⟩), .pointer (some ⟨g2, 0, none⟩)]))
    (e12 : W.cell? ⟨eb2, 0, none⟩ = some (.int .i64 9)) (h12 : W.cell? ⟨hb2, 0, none⟩ = some (.func (.func 25) #[] #[.pointer (some ⟨w.heap.size, 0, none⟩), .pointer (some ⟨g1, 0, none⟩)]))
    (hL : W.heap[gl]? = some (.cells #[ifV hb eb, ifV hb2 eb2] 55 (0, 0))) :
    Calls Tryd.prog 20 #[.agg (qc A c B d q), .slice (some ⟨gl, 0, none⟩) 2 2] W fun e w' => e = .returned (.int .i64 (enterE q id x)) ∧ Below W.heap.size W w' := by
  refine first2_ h.q.unbox h.t hb eb hb2 eb2 _ _ gl hL (fun hr W' hW => ?_) (fun hr hz W' hW => ?_)
  · have hs := h.step hW
    exact if1_22 _ hb eb 1 _ W' (pw_cell_below hW h1) (pw_cell_below hW e1) (enter1_ (ns := q.t.ns) (rt := q.t.rt) hs.x hs.q id x g1 g2 (pw_cell_below hW c1) (pw_cell_below hW c2))
  · have hs := h.step hW
    have hk : knownA q id = true := by
      cases hk : knownA q id with
      | true => rfl
      | false => rw [hk] at hz; simp at hz
    have hg := here_rng hr hk
    exact if1_25 _ hb2 eb2 9 _ W' (pw_cell_below hW h12) (pw_cell_below hW e12) (enter2_ (ns := q.t.ns) (rt := q.t.rt) hs.x hs.q id g1 (pw_cell_below hW c1) hg.1 hg.2.1)
theorem enter_ins {q : Q} {id x : Int} (lag : Int) (h : enterE q id x = 0) : ∃ t', insA q.t q.mn (atA q.mn (clampA lag (-1048576) 1125899906842624), id) = some (t', 0) ∧ t'.ns.length = q.t.ns.length ∧ enterA q id x lag = some (weighA { q with t := t' } id x, 0) := by
  obtain ⟨hr, hk, hw, hh⟩ := enter_yes h
  obtain ⟨L, hj⟩ := right_QJ hr
  have hg := here_rng hr hk
  rcases ins_J (k := (atA q.mn (clampA lag (-1048576) 1125899906842624), id)) hj.tr hg.1 hg.2.1 with ⟨t', e1, e2, e3⟩ | ⟨r, e1, e2, y, hy, e⟩
  · refine ⟨t', e1, e2.len, ?_⟩
    unfold enterA
    rw [if_neg (by rw [hr]; simp), if_neg (by rw [hk, hw]; simp), if_neg (by rw [hh]; simp), e1]
    rfl
  · have := (hj.here hg.1).2 (Or.inr ⟨y, hy, e⟩)
    rw [hh] at this
    cases this
set_option maxHeartbeats 32000000 in
set_option maxRecDepth 100000 in
theorem Enter_ (h : QIn S A c B d w q) (hT : Emp w) (id x lag : Int) (r : Q × Int) (hf : enterA q id x lag = some r) : Calls Tryd.prog 11 #[.agg (qc A c B d q), .int .i64 id, .int .i64 x, .int .i64 lag] w fun e w' => ∃ u, e = .returned (.tuple #[u, .int .i64 r.2]) ∧ QPost S w r.1 u w' := by
  have HQ := Aside0.mk h
  have HT := Aside0.mk hT
  have HN := Aside0.mk (fun h : enterE q id x ≠ 0 => Option.some.inj (hf.symm.trans (enter_no h)))
  have HY := Aside0.mk (fun h : enterE q id x = 0 => enter_ins lag h)
  have HG := Aside0.mk (fun h : enterE q id x = 0 => here_rng (enter_yes h).1 (enter_yes h).2.1)
  have HF := Aside0.mk hf
  have HFI := Aside0.mk (fun {n z : Nat} {W : World} {L : List (Nat × Value)} (h : KB S n z A c B d q w W L) => enterFirst_ h id x)
  generalize enterE q id x = EE at HN HY HG HFI
  clear h hT hf
  obtain ⟨⟨⟨ns7, rt7⟩, cur7, v7, mn7, load7, ws7⟩, er⟩ := r
  obtain ⟨⟨ns, rt⟩, cur, v, mn, load, ws⟩ := q
  replace HFI := Aside0.mk (fun {n z : Nat} {W : World} {L : List (Nat × Value)} (h : KB S n z A c B d ⟨⟨ns, rt⟩, cur, v, mn, load, ws⟩ w W L) => HFI.out h)
  show Calls Tryd.prog 11 #[.agg #[.int .i64 rt, .slice A ns.length c, .int .i64 cur, .int .u64 v, .int .u64 mn, .int .i64 load, .slice B ws.length d], .int .i64 id, .int .i64 x, .int .i64 lag] w _
  go_enter Tryd.func11, Tryd.ntmps11
  go_upto_region 1 with (fail)
  have HXx := (QB.new w rt A ns.length c cur v mn load B ws.length d).below (below_alloc (below_alloc (below_alloc (Below.refl _ _) (.cells #[.int .i64 id] 3)) (.cells #[.int .i64 x] 3)) (.cells #[.int .i64 0, .slice none 0 0, .int .i64 0, .int .u64 0, .int .u64 0, .int .i64 0, .slice none 0 0] 28))
  have HZz := QB.new (((w.alloc (.cells #[.int .i64 rt, .slice A ns.length c, .int .i64 cur, .int .u64 v, .int .u64 mn, .int .i64 load, .slice B ws.length d] 28)).alloc (.cells #[.int .i64 id] 3)).alloc (.cells #[.int .i64 x] 3)) 0 none 0 0 0 0 0 0 none 0 0
  have HOo0 := (blk_cell (blk_below (blk_new (w.alloc (.cells #[.int .i64 rt, .slice A ns.length c, .int .i64 cur, .int .u64 v, .int .u64 mn, .int .i64 load, .slice B ws.length d] 28)) (.cells #[.int .i64 id] 3)) (below_alloc (below_alloc (Below.refl _ _) (.cells #[.int .i64 x] 3)) (.cells #[.int .i64 0, .slice none 0 0, .int .i64 0, .int .u64 0, .int .u64 0, .int .i64 0, .slice none 0 0] 28))) 0).trans rfl
  have HOo1 := (blk_cell (blk_below (blk_new ((w.alloc (.cells #[.int .i64 rt, .slice A ns.length c, .int .i64 cur, .int .u64 v, .int .u64 mn, .int .i64 load, .slice B ws.length d] 28)).alloc (.cells #[.int .i64 id] 3)) (.cells #[.int .i64 x] 3)) (below_alloc (Below.refl _ _) (.cells #[.int .i64 0, .slice none 0 0, .int .i64 0, .int .u64 0, .int .u64 0, .int .i64 0, .slice none 0 0] 28))) 0).trans rfl
  have HBb : Below w.heap.size w ((((w.alloc (.cells #[.int .i64 rt, .slice A ns.length c, .int .i64 cur, .int .u64 v, .int .u64 mn, .int .i64 load, .slice B ws.length d] 28)).alloc (.cells #[.int .i64 id] 3)).alloc (.cells #[.int .i64 x] 3)).alloc (.cells #[.int .i64 0, .slice none 0 0, .int .i64 0, .int .u64 0, .int .u64 0, .int .i64 0, .slice none 0 0] 28)) := (below_alloc (below_alloc (below_alloc (below_alloc (Below.refl w.heap.size w) (.cells #[.int .i64 rt, .slice A ns.length c, .int .i64 cur, .int .u64 v, .int .u64 mn, .int .i64 load, .slice B ws.length d] 28)) (.cells #[.int .i64 id] 3)) (.cells #[.int .i64 x] 3)) (.cells #[.int .i64 0, .slice none 0 0, .int .i64 0, .int .u64 0, .int .u64 0, .int .i64 0, .slice none 0 0] 28))
  simp only [World.size_alloc] at HZz HOo0 HOo1
  generalize (((w.alloc (.cells #[.int .i64 rt, .slice A ns.length c, .int .i64 cur, .int .u64 v, .int .u64 mn, .int .i64 load, .slice B ws.length d] 28)).alloc (.cells #[.int .i64 id] 3)).alloc (.cells #[.int .i64 x] 3)).alloc (.cells #[.int .i64 0, .slice none 0 0, .int .i64 0, .int .u64 0, .int .u64 0, .int .i64 0, .slice none 0 0] 28) = W1 at HXx HZz HBb HOo0 HOo1 ⊢
  have SB := Aside0.mk (show KB S 4 (w.heap.size + 1 + 1 + 1) A c B d ⟨⟨ns, rt⟩, cur, v, mn, load, ws⟩ w W1 [(w.heap.size + 1, .int .i64 id), (w.heap.size + 1 + 1, .int .i64 x)] from ⟨HXx, HZz, HBb, HQ.out.boxes (n := 4) HBb (by have := HZz.lt; omega), HT.out.below HBb, fun p hp => by
    simp only [List.mem_cons, List.not_mem_nil, or_false] at hp
    rcases hp with rfl | rfl
    · exact HOo0
    · exact HOo1⟩)
  clear HXx HZz HBb HOo0 HOo1
  have a0 := SB.out.x.c0
  have a1 := SB.out.x.c1
  have a2 := SB.out.x.c2
  have a3 := SB.out.x.c3
  have a4 := SB.out.x.c4
  have a5 := SB.out.x.c5
  have a6 := SB.out.x.c6
  go_cut [10] (fun s10 wx => s10 = .int .i64 EE ∧ Aside0 (KB S 4 (w.heap.size + 1 + 1 + 1) A c B d ⟨⟨ns, rt⟩, cur, v, mn, load, ws⟩ w wx [(w.heap.size + 1, .int .i64 id), (w.heap.size + 1 + 1, .int .i64 x)]))
  case first =>
    go_region_held3 (fun w' => w'.cell? ⟨w.heap.size, 0, none⟩ = some (.int .i64 rt) ∧ w'.cell? ⟨w.heap.size, 1, none⟩ = some (.slice A ns.length c) ∧ w'.cell? ⟨w.heap.size, 2, none⟩ = some (.int .i64 cur) ∧ w'.cell? ⟨w.heap.size, 3, none⟩ = some (.int .u64 v) ∧ w'.cell? ⟨w.heap.size, 4, none⟩ = some (.int .u64 mn) ∧ w'.cell? ⟨w.heap.size, 5, none⟩ = some (.int .i64 load) ∧ w'.cell? ⟨w.heap.size, 6, none⟩ = some (.slice B ws.length d)) (first | exact ⟨a0, a1, a2, a3, a4, a5, a6⟩ | exact ⟨(SB.out.step (below_alloc (Below.refl _ _) _)).x.c0, (SB.out.step (below_alloc (Below.refl _ _) _)).x.c1, (SB.out.step (below_alloc (Below.refl _ _) _)).x.c2, (SB.out.step (below_alloc (Below.refl _ _) _)).x.c3, (SB.out.step (below_alloc (Below.refl _ _) _)).x.c4, (SB.out.step (below_alloc (Below.refl _ _) _)).x.c5, (SB.out.step (below_alloc (Below.refl _ _) _)).x.c6⟩) (first
      | (go_at_call_of 21 (Value.int IntKind.i64 1); refine (if_ 1 22 _ _).mono ?_; rintro e wq1 ⟨rfl, hc1, hc2, hB⟩; (first | replace SB := Aside0.mk (((SB.out.step hB).more hc1).more hc2) | replace SB := Aside0.mk (((SB.out.drew.step hB).more hc1).more hc2)); clear hc1 hc2 hB; replace a0 := SB.out.x.c0; replace a1 := SB.out.x.c1; replace a2 := SB.out.x.c2; replace a3 := SB.out.x.c3; replace a4 := SB.out.x.c4; replace a5 := SB.out.x.c5; replace a6 := SB.out.x.c6)
      | (go_at_call_of 21 (Value.int IntKind.i64 9); refine (if_ 9 25 _ _).mono ?_; rintro e wq2 ⟨rfl, hc1, hc2, hB⟩; (first | replace SB := Aside0.mk (((SB.out.step hB).more hc1).more hc2) | replace SB := Aside0.mk (((SB.out.drew.step hB).more hc1).more hc2)); clear hc1 hc2 hB; replace a0 := SB.out.x.c0; replace a1 := SB.out.x.c1; replace a2 := SB.out.x.c2; replace a3 := SB.out.x.c3; replace a4 := SB.out.x.c4; replace a5 := SB.out.x.c5; replace a6 := SB.out.x.c6)
      | (go_at_call 20; refine (HFI.out (SB.out.step (below_alloc (Below.refl _ _) _)) (w.heap.size + 1) (w.heap.size + 1 + 1) ((SB.out.step (below_alloc (Below.refl _ _) _)).l (w.heap.size + 1, .int .i64 id) (by simp)) ((SB.out.step (below_alloc (Below.refl _ _) _)).l (w.heap.size + 1 + 1, .int .i64 x) (by simp)) (W1.heap.size + 1) W1.heap.size (wq1.heap.size + 1) wq1.heap.size wq2.heap.size ((SB.out.step (below_alloc (Below.refl _ _) _)).l (W1.heap.size, .int .i64 1) (by simp)) ((SB.out.step (below_alloc (Below.refl _ _) _)).l (W1.heap.size + 1, _) (by simp)) ((SB.out.step (below_alloc (Below.refl _ _) _)).l (wq1.heap.size, .int .i64 9) (by simp)) ((SB.out.step (below_alloc (Below.refl _ _) _)).l (wq1.heap.size + 1, _) (by simp)) (blk_new _ _)).mono ?_; rintro e wq3 ⟨rfl, hB⟩; replace SB := Aside0.mk ((SB.out.step (below_alloc (Below.refl _ _) _)).step hB); clear hB; replace a0 := SB.out.x.c0; replace a1 := SB.out.x.c1; replace a2 := SB.out.x.c2; replace a3 := SB.out.x.c3; replace a4 := SB.out.x.c4; replace a5 := SB.out.x.c5; replace a6 := SB.out.x.c6))
    all_goals (
      go_wp2_with fail
      go_meet
      exact ⟨rfl, ⟨SB.out.sub (by simp)⟩⟩)
  obtain ⟨rfl, SB2⟩ := hcut
  clear SB a0 a1 a2 a3 a4 a5 a6
  have SB := SB2
  clear SB2
  generalize wc = W2 at SB ⊢
  by_cases b : EE = 0
  · obtain ⟨t', i1, i2, i3⟩ := HY.out b
    have hqw := Option.some.inj (HF.out.symm.trans i3)
    simp only [Prod.mk.injEq] at hqw
    obtain ⟨hqw, rfl⟩ := hqw
    have hg := HG.out b
    have HGG := Aside0.mk hg
    subst b
    have HI := Aside0.mk (show insA ⟨ns, rt⟩ mn (atA mn (clampA lag (-1048576) 1125899906842624), id) = some (t', 0) from i1)
    have HNL := Aside0.mk (show t'.ns.length = ns.length from i2)
    have HQW := Aside0.mk hqw
    clear i1 i2 i3 hg hqw HF HN HY HG HFI
    obtain ⟨ns', rt'⟩ := t'
    have HW := Aside0.mk (fun (A : Option Addr) (c : Nat) (S : Nat → Prop) (W : World) (h : QIn S A c B d W ⟨⟨ns', rt'⟩, cur, v, mn, load, ws⟩) => (show Calls Tryd.prog 30 #[.agg #[.int .i64 rt', .slice A ns'.length c, .int .i64 cur, .int .u64 v, .int .u64 mn, .int .i64 load, .slice B ws.length d], .int .i64 id, .int .i64 x] W fun e w' => ∃ u, e = .returned u ∧ QPost S W ⟨⟨ns7, rt7⟩, cur7, v7, mn7, load7, ws7⟩ u w' from by rw [HQW.out]; exact weigh_ id x h HGG.out.1 HGG.out.2.2))
    have a4 := SB.out.x.c4
    go_upto_region 4 with (fail)
    go_region_held3 (fun w' => w'.cell? ⟨w.heap.size, 4, none⟩ = some (.int .u64 mn)) (exact a4) (first
      | (go_at_call 28; refine (clamp_ lag (-1048576) 1125899906842624 _).mono ?_; rintro e wq4 ⟨rfl, hB⟩; (first | replace SB := Aside0.mk (SB.out.step hB) | replace SB := Aside0.mk (SB.out.drew.step hB)); clear hB; replace a4 := SB.out.x.c4)
      | (go_at_call 27; refine (at_ mn (clampA lag (-1048576) 1125899906842624) _).mono ?_; rintro e wq5 ⟨rfl, hB⟩; replace SB := Aside0.mk (SB.out.step hB); clear hB; replace a4 := SB.out.x.c4))
    generalize atA mn (clampA lag (-1048576) 1125899906842624) = av at HI ⊢
    have a0 := SB.out.x.c0
    have a1 := SB.out.x.c1
    have cid := SB.out.l (w.heap.size + 1, .int .i64 id) (by simp)
    have cx := SB.out.l (w.heap.size + 1 + 1, .int .i64 x) (by simp)
    have HCX := Aside0.mk cx
    clear cx
    go_upto_region 6 with (go_at_call 29; refine (Insert_ (t := ⟨ns, rt⟩) A c mn (av, id) (⟨ns', rt'⟩, 0) SB.out.q.trC SB.out.q.tl SB.out.t HI.out).mono ?_; rintro e w5 hp; obtain ⟨v2, rfl, hR, hb⟩ := hp.out; obtain ⟨A2, c2, hv2, hlc2, hC2⟩ := Kd.R_reads hR; subst hv2; have HQ5 := Aside0.mk ((SB.out.q.below hb).tree (t' := ⟨ns', rt'⟩) (w0 := wq5) hR SB.out.q.sl (by have h1 := HNL.out; have h2 := SB.out.q.tl; have e : (⟨⟨ns, rt⟩, cur, v, mn, load, ws⟩ : Q).t.ns.length = ns.length := rfl; have e2 : (⟨ns', rt'⟩ : St).ns.length = ns'.length := rfl; omega)); replace SB := Aside0.mk (SB.out.step hb); clear hp hR hb hC2 hlc2; replace a0 := SB.out.x.c0; replace a1 := SB.out.x.c1; have f0 := SB.out.x.frozen 0; have f1 := SB.out.x.frozen 1; replace cid := SB.out.l (w.heap.size + 1, .int .i64 id) (by simp); replace HCX := Aside0.mk (SB.out.l (w.heap.size + 1 + 1, .int .i64 x) (by simp)))
    have HX6 := Aside0.mk (SB.out.x.st01 rt' A2 ns'.length c2)
    have HZ6 := Aside0.mk ((SB.out.z.far (k := w.heap.size) (by omega) 0 (.int .i64 rt')).far (k := w.heap.size) (by omega) 1 (.slice A2 ns'.length c2))
    have HB6 := Aside0.mk (Below.setCell (Below.setCell SB.out.b (p := ⟨w.heap.size, 0, none⟩) (Nat.le_refl _) (.int .i64 rt')) (p := ⟨w.heap.size, 1, none⟩) (Nat.le_refl _) (.slice A2 ns'.length c2))
    have HQ6 := Aside0.mk ((HQ5.out.put w.heap.size 0 (by omega) (by omega) (.int .i64 rt')).put w.heap.size 1 (by omega) (by omega) (.slice A2 ns'.length c2))
    have cid6 := (World.cell?_setCell_other (w5.setCell ⟨w.heap.size, 0, none⟩ (.int .i64 rt')) ⟨w.heap.size, 1, none⟩ ⟨w.heap.size + 1, 0, none⟩ (.slice A2 ns'.length c2) (by simp)).trans ((World.cell?_setCell_other w5 ⟨w.heap.size, 0, none⟩ ⟨w.heap.size + 1, 0, none⟩ (.int .i64 rt') (by simp)).trans cid)
    have cx6 := (World.cell?_setCell_other (w5.setCell ⟨w.heap.size, 0, none⟩ (.int .i64 rt')) ⟨w.heap.size, 1, none⟩ ⟨w.heap.size + 1 + 1, 0, none⟩ (.slice A2 ns'.length c2) (by simp)).trans ((World.cell?_setCell_other w5 ⟨w.heap.size, 0, none⟩ ⟨w.heap.size + 1 + 1, 0, none⟩ (.int .i64 rt') (by simp)).trans HCX.out)
    clear a0 a1 a4 f0 f1 cid HCX SB HQ5
    generalize (w5.setCell ⟨w.heap.size, 0, none⟩ (.int .i64 rt')).setCell ⟨w.heap.size, 1, none⟩ (.slice A2 ns'.length c2) = w6 at HX6 HZ6 HB6 HQ6 cid6 cx6 ⊢
    have a0 := HX6.out.c0
    have a1 := HX6.out.c1
    have a2 := HX6.out.c2
    have a3 := HX6.out.c3
    have a4 := HX6.out.c4
    have a5 := HX6.out.c5
    have a6 := HX6.out.c6
    go_wp2_with (go_at_call 30; refine (HW.out A2 c2 _ _ HQ6.out).mono ?_; rintro e w7 ⟨u, rfl, hp⟩; obtain ⟨A7, c7, B7, d7, rfl, hq7, hb7⟩ := hp.out; have HQ7 := Aside0.mk hq7; have HZ7 := Aside0.mk (HZ6.out.below hb7); have HB7 := Aside0.mk (below_step HB6.out hb7); clear hp hq7 hb7; have z0 := HZ7.out.c0; have z1 := HZ7.out.c1; have z2 := HZ7.out.c2; have z3 := HZ7.out.c3; have z4 := HZ7.out.c4; have z5 := HZ7.out.c5; have z6 := HZ7.out.c6; have f0 := HZ7.out.frozen 0; have f1 := HZ7.out.frozen 1; have f2 := HZ7.out.frozen 2; have f3 := HZ7.out.frozen 3; have f4 := HZ7.out.frozen 4; have f5 := HZ7.out.frozen 5; have f6 := HZ7.out.frozen 6)
    refine bodyPost_ret (Tm.results_ct (cs := #[.int .i64 rt7, .slice A7 ns7.length c7, .int .i64 cur7, .int .u64 v7, .int .u64 mn7, .int .i64 load7, .slice B7 ws7.length d7]) rfl _ _ (w.heap.size + 1 + 1 + 1) 28 (0, 0) _ rfl (set7_out HZ7.out.out rfl _ _ _ _ _ _ _) Tryd.underlying28 rfl (by kernel_rfl)) rfl ?_
    have HBE := set7_below HB7.out (g := w.heap.size + 1 + 1 + 1) (by omega) (.int .i64 rt7) (.slice A7 ns7.length c7) (.int .i64 cur7) (.int .u64 v7) (.int .u64 mn7) (.int .i64 load7) (.slice B7 ws7.length d7)
    exact ⟨_, rfl, _, _, _, _, rfl, (HQ7.out.put7 (w.heap.size + 1 + 1 + 1) (by omega) (by omega) _ _ _ _ _ _ _).unbox, HBE⟩
  · have hn := HN.out b
    simp only [Prod.mk.injEq, q0, Q.mk.injEq, St.mk.injEq] at hn
    obtain ⟨⟨⟨rfl, rfl⟩, rfl, rfl, rfl, rfl, rfl⟩, rfl⟩ := hn
    have b1 : (er != 0) = true := by simpa using b
    clear HF HN HY HG HFI b
    have z0 := SB.out.z.c0
    have z1 := SB.out.z.c1
    have z2 := SB.out.z.c2
    have z3 := SB.out.z.c3
    have z4 := SB.out.z.c4
    have z5 := SB.out.z.c5
    have z6 := SB.out.z.c6
    have f0 := SB.out.z.frozen 0
    have f1 := SB.out.z.frozen 1
    have f2 := SB.out.z.frozen 2
    have f3 := SB.out.z.frozen 3
    have f4 := SB.out.z.frozen 4
    have f5 := SB.out.z.frozen 5
    have f6 := SB.out.z.frozen 6
    go_wp2
    refine bodyPost_ret (Tm.results_ct (cs := #[.int .i64 0, .slice none 0 0, .int .i64 0, .int .u64 0, .int .u64 0, .int .i64 0, .slice none 0 0]) rfl _ _ (w.heap.size + 1 + 1 + 1) 28 (0, 0) _ rfl (set7_out SB.out.z.out rfl _ _ _ _ _ _ _) Tryd.underlying28 rfl (by kernel_rfl)) rfl ?_
    have HBE := set7_below SB.out.b (g := w.heap.size + 1 + 1 + 1) (by omega) (.int .i64 0) (.slice none 0 0) (.int .i64 0) (.int .u64 0) (.int .u64 0) (.int .i64 0) (.slice none 0 0)
    exact ⟨_, rfl, _, _, _, _, rfl, QIn.zero S _ (fun k hk => Nat.lt_of_lt_of_le (HQ.out.sl k hk) HBE.size), HBE⟩
end Go.Proofs.YtnkhnnojdlgfjaaDoor.Qw
