/- Parts of the proof, joined: Q10. -/
import Derived.Test.YtnkhnnojdlgfjaaDoorUF39
namespace Go.Proofs.YtnkhnnojdlgfjaaDoor.Qw
open Go.RowKit Go Go.Proofs Go.Proofs.YtnkhnnojdlgfjaaDoor Go.Proofs.YtnkhnnojdlgfjaaDoor.Tr Go.Proofs.YtnkhnnojdlgfjaaDoor.Tk Go.Proofs.YtnkhnnojdlgfjaaDoor.Tm Go.Proofs.YtnkhnnojdlgfjaaDoor.Qu Go.Proofs.YtnkhnnojdlgfjaaDoorW.PrintWords Go.Proofs.YtnkhnnojdlgfjaaDoorW.PrintLast Go.Proofs.YtnkhnnojdlgfjaaDoorW.PrintMore
set_option linter.unusedVariables false
set_option linter.unusedSimpArgs false
variable {S : Nat → Prop} {A B : Option Addr} {c d : Nat} {w w' : World} {q : Q}
theorem QB.far7 {rt : Int} {nn m : Nat} {cur v mn load : Int} {W : World} {g k : Nat} (h : QB rt A nn c cur v mn load B m d W g) (hk : g ≠ k) (v0 v1 v2 v3 v4 v5 v6 : Value) : QB rt A nn c cur v mn load B m d (set7 W k v0 v1 v2 v3 v4 v5 v6) g := ⟨(set7_other hk _ _ _ _ _ _ _).trans h.out⟩
theorem cell_set7 {W : World} {a : Addr} {u : Value} (h : W.cell? a = some u) {k : Nat} (hk : a.block ≠ k) (v0 v1 v2 v3 v4 v5 v6 : Value) : (set7 W k v0 v1 v2 v3 v4 v5 v6).cell? a = some u := by
  have e := set7_other (W := W) hk v0 v1 v2 v3 v4 v5 v6
  unfold World.cell? at h ⊢
  rw [e]
  exact h
def leaveE (q : Q) (id : Int) : Int := if rightQ q = true then (if (if (!(knownA q id)) = true then (1 : Int) else 0) = 0 then (if (!(hereA q id)) = true then 8 else 0) else (if (!(knownA q id)) = true then 1 else 0)) else 4
theorem leave_no {q : Q} {id : Int} (h : leaveE q id ≠ 0) : leaveA q id = some (q0, 0, leaveE q id) := by
  revert h
  unfold leaveA leaveE
  cases rightQ q with
  | false => exact fun _ => rfl
  | true =>
    cases knownA q id with
    | false => exact fun _ => rfl
    | true =>
      cases hereA q id with
      | true => exact fun h => absurd rfl h
      | false => exact fun _ => rfl
theorem leave_yes {q : Q} {id : Int} (h : leaveE q id = 0) : rightQ q = true ∧ knownA q id = true ∧ hereA q id = true := by
  unfold leaveE at h
  cases hr : rightQ q with
  | false => rw [hr] at h; simp at h
  | true =>
    cases hk : knownA q id with
    | false => rw [hr, hk] at h; simp at h
    | true =>
      cases hh : hereA q id with
      | false => rw [hr, hk, hh] at h; simp at h
      | true => exact ⟨rfl, rfl, rfl⟩
theorem leave_cur {q : Q} {id : Int} (h : leaveE q id = 0) (e : id = q.cur) : leaveA q id = some (weighA { q with cur := -1, v := 0 } id 0, lagf q.mn q.v, 0) := by
  obtain ⟨hr, hk, hh⟩ := leave_yes h
  unfold leaveA
  rw [if_neg (by rw [hr]; simp), if_neg (by rw [hk]; simp), if_neg (by rw [hh]; simp), if_pos e]
theorem leave_tree {q : Q} {id : Int} (h : leaveE q id = 0) (e : id ≠ q.cur) : ∃ t', delF q.t q.mn id = some (t', 0) ∧ t'.ns.length = q.t.ns.length ∧ leaveA q id = some (weighA { q with t := t' } id 0, lagf q.mn (gn q.t id.toNat).v, 0) := by
  obtain ⟨hr, hk, hh⟩ := leave_yes h
  obtain ⟨L, hj⟩ := right_QJ hr
  have hg := here_rng hr hk
  have hin : ∃ x ∈ L, x.2 = id := ((hj.here hg.1).1 hh).resolve_left (fun c => e c.symm)
  rcases del_J (id := id) hj.tr hg.1 hg.2.1 with ⟨t', e1, e2, _⟩ | ⟨r, e1, e2, e3⟩
  · refine ⟨t', e1, e2.len, ?_⟩
    unfold leaveA
    rw [if_neg (by rw [hr]; simp), if_neg (by rw [hk]; simp), if_neg (by rw [hh]; simp), if_neg e, e1]
    rfl
  · obtain ⟨x, hx, hxe⟩ := hin
    exact absurd hxe (e3 x hx)
theorem leaveFirst_ {n z : Nat} {W : World} {L : List (Nat × Value)} (h : KB S n z A c B d q w W L) (id : Int) (g1 : Nat) (c1 : W.cell? ⟨g1, 0, none⟩ = some (.int .i64 id)) (hb eb hb2 eb2 gl : Nat)
    (e1 : W.cell? ⟨eb, 0, none⟩ = some (.int .i64 1)) (h1 : W.cell? ⟨hb, 0, none⟩ = some (.func (.func 44) #[] #[.pointer (some ⟨w.heap.size, 0, none⟩), .pointer (some ⟨g1, 0, none⟩)]))
    (e12 : W.cell? ⟨eb2, 0, none⟩ = some (.int .i64 8)) (h12 : W.cell? ⟨hb2, 0, none⟩ = some (.func (.func 45) #[] #[.pointer (some ⟨w.heap.size, 0, none⟩), .pointer (some ⟨g1, 0, none⟩)]))
    (hL : W.heap[gl]? = some (.cells #[ifV hb eb, ifV hb2 eb2] 55 (0, 0))) :
    Calls Tryd.prog 20 #[.agg (qc A c B d q), .slice (some ⟨gl, 0, none⟩) 2 2] W fun e w' => e = .returned (.int .i64 (leaveE q id)) ∧ Below W.heap.size W w' := by
  refine first2_ h.q.unbox h.t hb eb hb2 eb2 _ _ gl hL (fun hr W' hW => ?_) (fun hr hz W' hW => ?_)
  · have hs := h.step hW
    exact if1_44 _ hb eb 1 _ W' (pw_cell_below hW h1) (pw_cell_below hW e1) (leave1_ (ns := q.t.ns) (rt := q.t.rt) hs.x hs.q id g1 (pw_cell_below hW c1))
  · have hs := h.step hW
    have hk : knownA q id = true := by
      cases hk : knownA q id with
      | true => rfl
      | false => rw [hk] at hz; simp at hz
    have hg := here_rng hr hk
    exact if1_45 _ hb2 eb2 8 _ W' (pw_cell_below hW h12) (pw_cell_below hW e12) (leave2_ (ns := q.t.ns) (rt := q.t.rt) hs.x hs.q id g1 (pw_cell_below hW c1) hg.1 hg.2.1)
set_option maxHeartbeats 32000000 in
set_option maxRecDepth 100000 in
theorem Leave_ (h : QIn S A c B d w q) (hT : Emp w) (id : Int) (r : Q × Int × Int) (hf : leaveA q id = some r) : Calls Tryd.prog 17 #[.agg (qc A c B d q), .int .i64 id] w fun e w' => ∃ u, e = .returned (.tuple #[u, .int .i64 r.2.1, .int .i64 r.2.2]) ∧ QPost S w r.1 u w' := by
  have HQ := Aside0.mk h
  have HT := Aside0.mk hT
  have HN := Aside0.mk (fun h : leaveE q id ≠ 0 => Option.some.inj (hf.symm.trans (leave_no h)))
  have HC := Aside0.mk (fun (h : leaveE q id = 0) (e : id = q.cur) => Option.some.inj (hf.symm.trans (leave_cur h e)))
  have HD := Aside0.mk (fun (h : leaveE q id = 0) (e : id ≠ q.cur) => leave_tree h e)
  have HG := Aside0.mk (fun h : leaveE q id = 0 => here_rng (leave_yes h).1 (leave_yes h).2.1)
  have HF := Aside0.mk hf
  have HFI := Aside0.mk (fun {n z : Nat} {W : World} {L : List (Nat × Value)} (h : KB S n z A c B d q w W L) => leaveFirst_ h id)
  generalize leaveE q id = EE at HN HC HD HG HFI
  clear h hT hf
  obtain ⟨⟨⟨ns7, rt7⟩, cur7, v7, mn7, load7, ws7⟩, lr, er⟩ := r
  obtain ⟨⟨ns, rt⟩, cur, v, mn, load, ws⟩ := q
  replace HFI := Aside0.mk (fun {n z : Nat} {W : World} {L : List (Nat × Value)} (h : KB S n z A c B d ⟨⟨ns, rt⟩, cur, v, mn, load, ws⟩ w W L) => HFI.out h)
  show Calls Tryd.prog 17 #[.agg #[.int .i64 rt, .slice A ns.length c, .int .i64 cur, .int .u64 v, .int .u64 mn, .int .i64 load, .slice B ws.length d], .int .i64 id] w _
  go_enter Tryd.func17, Tryd.ntmps17
  go_upto_region 1 with (fail)
  have HXx := (QB.new w rt A ns.length c cur v mn load B ws.length d).below (below_alloc (below_alloc (Below.refl _ _) (.cells #[.int .i64 id] 3)) (.cells #[.int .i64 0, .slice none 0 0, .int .i64 0, .int .u64 0, .int .u64 0, .int .i64 0, .slice none 0 0] 28))
  have HZz := QB.new ((w.alloc (.cells #[.int .i64 rt, .slice A ns.length c, .int .i64 cur, .int .u64 v, .int .u64 mn, .int .i64 load, .slice B ws.length d] 28)).alloc (.cells #[.int .i64 id] 3)) 0 none 0 0 0 0 0 0 none 0 0
  have HOo0 := (blk_cell (blk_below (blk_new (w.alloc (.cells #[.int .i64 rt, .slice A ns.length c, .int .i64 cur, .int .u64 v, .int .u64 mn, .int .i64 load, .slice B ws.length d] 28)) (.cells #[.int .i64 id] 3)) (below_alloc (Below.refl _ _) (.cells #[.int .i64 0, .slice none 0 0, .int .i64 0, .int .u64 0, .int .u64 0, .int .i64 0, .slice none 0 0] 28))) 0).trans rfl
  have HBb : Below w.heap.size w (((w.alloc (.cells #[.int .i64 rt, .slice A ns.length c, .int .i64 cur, .int .u64 v, .int .u64 mn, .int .i64 load, .slice B ws.length d] 28)).alloc (.cells #[.int .i64 id] 3)).alloc (.cells #[.int .i64 0, .slice none 0 0, .int .i64 0, .int .u64 0, .int .u64 0, .int .i64 0, .slice none 0 0] 28)) := (below_alloc (below_alloc (below_alloc (Below.refl w.heap.size w) (.cells #[.int .i64 rt, .slice A ns.length c, .int .i64 cur, .int .u64 v, .int .u64 mn, .int .i64 load, .slice B ws.length d] 28)) (.cells #[.int .i64 id] 3)) (.cells #[.int .i64 0, .slice none 0 0, .int .i64 0, .int .u64 0, .int .u64 0, .int .i64 0, .slice none 0 0] 28))
  simp only [World.size_alloc] at HZz HOo0
  generalize ((w.alloc (.cells #[.int .i64 rt, .slice A ns.length c, .int .i64 cur, .int .u64 v, .int .u64 mn, .int .i64 load, .slice B ws.length d] 28)).alloc (.cells #[.int .i64 id] 3)).alloc (.cells #[.int .i64 0, .slice none 0 0, .int .i64 0, .int .u64 0, .int .u64 0, .int .i64 0, .slice none 0 0] 28) = W1 at HXx HZz HBb HOo0 ⊢
  have SB := Aside0.mk (show KB S 3 (w.heap.size + 1 + 1) A c B d ⟨⟨ns, rt⟩, cur, v, mn, load, ws⟩ w W1 [(w.heap.size + 1, .int .i64 id)] from ⟨HXx, HZz, HBb, HQ.out.boxes (n := 3) HBb (by have := HZz.lt; omega), HT.out.below HBb, fun p hp => by
    simp only [List.mem_cons, List.not_mem_nil, or_false] at hp
    subst hp
    exact HOo0⟩)
  clear HXx HZz HBb HOo0
  have a0 := SB.out.x.c0
  have a1 := SB.out.x.c1
  have a2 := SB.out.x.c2
  have a3 := SB.out.x.c3
  have a4 := SB.out.x.c4
  have a5 := SB.out.x.c5
  have a6 := SB.out.x.c6
  go_cut [7] (fun s10 wx => s10 = .int .i64 EE ∧ Aside0 (KB S 3 (w.heap.size + 1 + 1) A c B d ⟨⟨ns, rt⟩, cur, v, mn, load, ws⟩ w wx [(w.heap.size + 1, .int .i64 id)]))
  case first =>
    go_region_held3 (fun w' => w'.cell? ⟨w.heap.size, 0, none⟩ = some (.int .i64 rt) ∧ w'.cell? ⟨w.heap.size, 1, none⟩ = some (.slice A ns.length c) ∧ w'.cell? ⟨w.heap.size, 2, none⟩ = some (.int .i64 cur) ∧ w'.cell? ⟨w.heap.size, 3, none⟩ = some (.int .u64 v) ∧ w'.cell? ⟨w.heap.size, 4, none⟩ = some (.int .u64 mn) ∧ w'.cell? ⟨w.heap.size, 5, none⟩ = some (.int .i64 load) ∧ w'.cell? ⟨w.heap.size, 6, none⟩ = some (.slice B ws.length d)) (first | exact ⟨a0, a1, a2, a3, a4, a5, a6⟩ | exact ⟨(SB.out.step (below_alloc (Below.refl _ _) _)).x.c0, (SB.out.step (below_alloc (Below.refl _ _) _)).x.c1, (SB.out.step (below_alloc (Below.refl _ _) _)).x.c2, (SB.out.step (below_alloc (Below.refl _ _) _)).x.c3, (SB.out.step (below_alloc (Below.refl _ _) _)).x.c4, (SB.out.step (below_alloc (Below.refl _ _) _)).x.c5, (SB.out.step (below_alloc (Below.refl _ _) _)).x.c6⟩) (first
      | (go_at_call_of 21 (Value.int IntKind.i64 1); refine (if_ 1 44 _ _).mono ?_; rintro e wq1 ⟨rfl, hc1, hc2, hB⟩; (first | replace SB := Aside0.mk (((SB.out.step hB).more hc1).more hc2) | replace SB := Aside0.mk (((SB.out.drew.step hB).more hc1).more hc2)); clear hc1 hc2 hB; replace a0 := SB.out.x.c0; replace a1 := SB.out.x.c1; replace a2 := SB.out.x.c2; replace a3 := SB.out.x.c3; replace a4 := SB.out.x.c4; replace a5 := SB.out.x.c5; replace a6 := SB.out.x.c6)
      | (go_at_call_of 21 (Value.int IntKind.i64 8); refine (if_ 8 45 _ _).mono ?_; rintro e wq2 ⟨rfl, hc1, hc2, hB⟩; (first | replace SB := Aside0.mk (((SB.out.step hB).more hc1).more hc2) | replace SB := Aside0.mk (((SB.out.drew.step hB).more hc1).more hc2)); clear hc1 hc2 hB; replace a0 := SB.out.x.c0; replace a1 := SB.out.x.c1; replace a2 := SB.out.x.c2; replace a3 := SB.out.x.c3; replace a4 := SB.out.x.c4; replace a5 := SB.out.x.c5; replace a6 := SB.out.x.c6)
      | (go_at_call 20; refine (HFI.out (SB.out.step (below_alloc (Below.refl _ _) _)) (w.heap.size + 1) ((SB.out.step (below_alloc (Below.refl _ _) _)).l (w.heap.size + 1, .int .i64 id) (by simp)) (W1.heap.size + 1) W1.heap.size (wq1.heap.size + 1) wq1.heap.size wq2.heap.size ((SB.out.step (below_alloc (Below.refl _ _) _)).l (W1.heap.size, .int .i64 1) (by simp)) ((SB.out.step (below_alloc (Below.refl _ _) _)).l (W1.heap.size + 1, _) (by simp)) ((SB.out.step (below_alloc (Below.refl _ _) _)).l (wq1.heap.size, .int .i64 8) (by simp)) ((SB.out.step (below_alloc (Below.refl _ _) _)).l (wq1.heap.size + 1, _) (by simp)) (blk_new _ _)).mono ?_; rintro e wq3 ⟨rfl, hB⟩; replace SB := Aside0.mk ((SB.out.step (below_alloc (Below.refl _ _) _)).step hB); clear hB; replace a0 := SB.out.x.c0; replace a1 := SB.out.x.c1; replace a2 := SB.out.x.c2; replace a3 := SB.out.x.c3; replace a4 := SB.out.x.c4; replace a5 := SB.out.x.c5; replace a6 := SB.out.x.c6))
    all_goals (
      go_wp2_with fail
      go_meet
      exact ⟨rfl, ⟨SB.out.sub (by simp)⟩⟩)
  obtain ⟨rfl, SB2⟩ := hcut
  clear SB a0 a1 a2 a3 a4 a5 a6
  have SB := SB2
  clear SB2
  generalize wc = W2 at SB ⊢
  by_cases b : EE = 0
  · have HGG := Aside0.mk (HG.out b)
    have a2 := SB.out.x.c2
    have a3 := SB.out.x.c3
    have cid := SB.out.l (w.heap.size + 1, .int .i64 id) (by simp)
    by_cases bc : id = cur
    · have hqw := HC.out b bc
      simp only [Prod.mk.injEq] at hqw
      obtain ⟨hqw, hlr, rfl⟩ := hqw
      have HQW := Aside0.mk (show (⟨⟨ns7, rt7⟩, cur7, v7, mn7, load7, ws7⟩ : Q) = weighA ⟨⟨ns, rt⟩, -1, 0, mn, load, ws⟩ id 0 from hqw)
      have HLR := Aside0.mk (show lr = lagf mn v from hlr)
      have b1 : (id == cur) = true := by simpa using bc
      subst b
      clear HF HN HC HD HG HFI hqw hlr bc
      have f2 := SB.out.x.frozen 2
      have f3 := SB.out.x.frozen 3
      go_upto_region 9 with (fail)
      have HX6 := (SB.out.x.st2 (-1)).st3 0
      have HZ6 := (SB.out.z.far (k := w.heap.size) (by omega) 2 (.int .i64 (-1))).far (k := w.heap.size) (by omega) 3 (.int .u64 0)
      have HB6 := Below.setCell (Below.setCell SB.out.b (p := ⟨w.heap.size, 2, none⟩) (Nat.le_refl _) (.int .i64 (-1))) (p := ⟨w.heap.size, 3, none⟩) (Nat.le_refl _) (.int .u64 0)
      have HQ6 := ((SB.out.q.put w.heap.size 2 (by omega) (by omega) (.int .i64 (-1))).put w.heap.size 3 (by omega) (by omega) (.int .u64 0)).fields (q' := ⟨⟨ns, rt⟩, -1, 0, mn, load, ws⟩) rfl rfl
      have cid6 := (World.cell?_setCell_other (W2.setCell ⟨w.heap.size, 2, none⟩ (.int .i64 (-1))) ⟨w.heap.size, 3, none⟩ ⟨w.heap.size + 1, 0, none⟩ (.int .u64 0) (by simp)).trans ((World.cell?_setCell_other W2 ⟨w.heap.size, 2, none⟩ ⟨w.heap.size + 1, 0, none⟩ (.int .i64 (-1)) (by simp)).trans cid)
      clear a2 a3 f2 f3 cid SB
      generalize (W2.setCell ⟨w.heap.size, 2, none⟩ (.int .i64 (-1))).setCell ⟨w.heap.size, 3, none⟩ (.int .u64 0) = W6 at HX6 HZ6 HB6 HQ6 cid6 ⊢
      have SB := Aside0.mk (show KB S 3 (w.heap.size + 1 + 1) A c B d ⟨⟨ns, rt⟩, -1, 0, mn, load, ws⟩ w W6 [(w.heap.size + 1, .int .i64 id)] from ⟨HX6, HZ6, HB6, HQ6, HT.out.below HB6, fun p hp => by
        simp only [List.mem_cons, List.not_mem_nil, or_false] at hp
        subst hp
        exact cid6⟩)
      clear HX6 HZ6 HB6 HQ6 cid6
      have HW := Aside0.mk (fun (A : Option Addr) (c : Nat) (S : Nat → Prop) (W : World) (h : QIn S A c B d W ⟨⟨ns, rt⟩, (-1), 0, mn, load, ws⟩) => (show Calls Tryd.prog 30 #[.agg #[.int .i64 rt, .slice A ns.length c, .int .i64 (-1), .int .u64 0, .int .u64 mn, .int .i64 load, .slice B ws.length d], .int .i64 id, .int .i64 0] W fun e w' => ∃ u, e = .returned u ∧ QPost S W ⟨⟨ns7, rt7⟩, cur7, v7, mn7, load7, ws7⟩ u w' from by rw [HQW.out]; exact weigh_ id 0 h HGG.out.1 HGG.out.2.2))
      have HLG := Aside0.mk (fun (W : World) => (show Calls Tryd.prog 46 #[.int .u64 v, .int .u64 mn] W fun e w' => e = .returned (.int .i64 lr) ∧ Below W.heap.size W w' from by rw [HLR.out]; exact lag_ v mn W))
      replace SB := Aside0.mk SB.out.drew
      refine start_ (n := 11) (S := fun w' => w'.cell? ⟨w.heap.size, 0, none⟩ = some (.int .i64 rt) ∧ w'.cell? ⟨w.heap.size, 1, none⟩ = some (.slice A ns.length c) ∧ w'.cell? ⟨w.heap.size, 2, none⟩ = some (.int .i64 (-1)) ∧ w'.cell? ⟨w.heap.size, 3, none⟩ = some (.int .u64 0) ∧ w'.cell? ⟨w.heap.size, 4, none⟩ = some (.int .u64 mn) ∧ w'.cell? ⟨w.heap.size, 5, none⟩ = some (.int .i64 load) ∧ w'.cell? ⟨w.heap.size, 6, none⟩ = some (.slice B ws.length d) ∧ w'.cell? ⟨w.heap.size + 1, 0, none⟩ = some (.int .i64 id)) (ds := []) #[false, false, false, false, false, false, false, false, false, false, false] (by kernel_rfl) rfl rfl ⟨SB.out.x.c0, SB.out.x.c1, SB.out.x.c2, SB.out.x.c3, SB.out.x.c4, SB.out.x.c5, SB.out.x.c6, SB.out.l (w.heap.size + 1, .int .i64 id) (by simp)⟩ (fun hHeld => ?_)
      generalize World.drew _ = W8 at SB hHeld ⊢
      refine take_ (i := 0) (N := some 45) (v := ?_) (a' := ?_) #[true, false, false, false, false, false, false, false, false, false, false] rfl rfl (by kernel_rfl) (fun _ _ _ h => h) (Or.inl ⟨by rfl, ?_⟩) hHeld ?_ ?_
      rotate_left
      · rintro w' ⟨s0, s1, s2, s3, s4, s5, s6, s7⟩
        go_simp
        with_reducible rfl
      rotate_left
      · (simp only [Act.put, List.setIfInBounds_toArray, List.set_cons_zero, List.set_cons_succ, i64_w, i32_w]; rfl)
      refine take_ (i := 1) (N := some 46) (v := ?_) (a' := ?_) #[true, true, false, false, false, false, false, false, false, false, false] rfl rfl (by kernel_rfl) (fun _ _ _ h => h) (Or.inl ⟨by rfl, ?_⟩) hHeld ?_ ?_
      rotate_left
      · rintro w' ⟨s0, s1, s2, s3, s4, s5, s6, s7⟩
        go_simp
        with_reducible rfl
      rotate_left
      · (simp only [Act.put, List.setIfInBounds_toArray, List.set_cons_zero, List.set_cons_succ, i64_w, i32_w]; rfl)
      refine pure_ (i := 3) (N := some 48) (v := ?_) (a' := ?_) #[true, true, false, true, false, false, false, false, false, false, false] rfl rfl (by kernel_rfl) (fun _ _ _ h => h) (Or.inl ⟨by rfl, ?_⟩) ?_ ?_
      rotate_left
      · intro w'
        go_simp
        with_reducible rfl
      rotate_left
      · (simp only [Act.put, List.setIfInBounds_toArray, List.set_cons_zero, List.set_cons_succ, i64_w, i32_w]; rfl)
      refine pure_ (i := 4) (N := some 49) (v := ?_) (a' := ?_) #[true, true, false, true, true, false, false, false, false, false, false] rfl rfl (by kernel_rfl) (fun _ _ _ h => h) (Or.inl ⟨by rfl, ?_⟩) ?_ ?_
      rotate_left
      · intro w'
        go_simp
        with_reducible rfl
      rotate_left
      · (simp only [Act.put, List.setIfInBounds_toArray, List.set_cons_zero, List.set_cons_succ, i64_w, i32_w]; rfl)
      refine take_ (i := 5) (N := some 50) (v := ?_) (a' := ?_) #[true, true, false, true, true, true, false, false, false, false, false] rfl rfl (by kernel_rfl) (fun _ _ _ h => h) (Or.inl ⟨by rfl, ?_⟩) hHeld ?_ ?_
      rotate_left
      · rintro w' ⟨s0, s1, s2, s3, s4, s5, s6, s7⟩
        go_simp
        with_reducible rfl
      rotate_left
      · (simp only [Act.put, List.setIfInBounds_toArray, List.set_cons_zero, List.set_cons_succ, i64_w, i32_w]; rfl)
      refine pure_ (i := 7) (N := some 52) (v := ?_) (a' := ?_) #[true, true, false, true, true, true, false, true, false, false, false] rfl rfl (by kernel_rfl) (fun _ _ _ h => h) (Or.inl ⟨by rfl, ?_⟩) ?_ ?_
      rotate_left
      · intro w'
        go_simp
        with_reducible rfl
      rotate_left
      · (simp only [Act.put, List.setIfInBounds_toArray, List.set_cons_zero, List.set_cons_succ, i64_w, i32_w]; rfl)
      refine one_ (i := 2) (N := some 47) #[true, true, true, true, true, true, false, true, false, false, false] rfl rfl (by kernel_rfl) (by decide) (fun K hK => ?_)
      refine goes_ Tryd.func30 (by kernel_rfl) rfl #[.agg #[.int .i64 rt, .slice A ns.length c, .int .i64 (-1), .int .u64 0, .int .u64 mn, .int .i64 load, .slice B ws.length d], .int .i64 id, .int .i64 0] (by rfl) rfl rfl (by (try simp only [List.map_toArray, List.map_cons, List.map_nil]); first | done | rfl) ?_
      refine (HW.out _ _ _ _ SB.out.q).mono ?_
      rintro e wq ⟨u, rfl, hp⟩
      obtain ⟨A7, c7, B7, d7, rfl, hq7, hb7⟩ := hp.out
      refine ⟨_, rfl, ?_⟩
      replace SB := Aside0.mk (SB.out.step hb7)
      have HQ7 := Aside0.mk hq7
      clear hp hq7 hb7
      refine hK.out _ _ ⟨SB.out.x.c0, SB.out.x.c1, SB.out.x.c2, SB.out.x.c3, SB.out.x.c4, SB.out.x.c5, SB.out.x.c6, SB.out.l (w.heap.size + 1, .int .i64 id) (by simp)⟩ (fun hHeld => ?_)
      clear hK K
      refine norm_ (a' := ?_) ?_ ?_
      rotate_left
      · (show Act.put _ (some 47) _ = _; (simp only [Act.put, List.setIfInBounds_toArray, List.set_cons_zero, List.set_cons_succ, i64_w, i32_w]; rfl))
      refine one_ (i := 6) (N := some 51) #[true, true, true, true, true, true, true, true, false, false, false] rfl rfl (by kernel_rfl) (by decide) (fun K hK => ?_)
      refine goes_ Tryd.func46 (by kernel_rfl) rfl #[.int .u64 v, .int .u64 mn] (by rfl) rfl rfl (by (try simp only [List.map_toArray, List.map_cons, List.map_nil]); first | done | rfl) ?_
      refine (HLG.out _).mono ?_
      rintro e wq ⟨rfl, hB⟩
      refine ⟨_, rfl, ?_⟩
      replace SB := Aside0.mk (SB.out.step hB)
      replace HQ7 := Aside0.mk (HQ7.out.below hB)
      clear hB
      refine hK.out _ _ ⟨SB.out.x.c0, SB.out.x.c1, SB.out.x.c2, SB.out.x.c3, SB.out.x.c4, SB.out.x.c5, SB.out.x.c6, SB.out.l (w.heap.size + 1, .int .i64 id) (by simp)⟩ (fun hHeld => ?_)
      clear hK K
      refine norm_ (a' := ?_) ?_ ?_
      rotate_left
      · (show Act.put _ (some 51) _ = _; (simp only [Act.put, List.setIfInBounds_toArray, List.set_cons_zero, List.set_cons_succ, i64_w, i32_w]; rfl))
      have z0 := SB.out.z.c0
      have z1 := SB.out.z.c1
      have z2 := SB.out.z.c2
      have z3 := SB.out.z.c3
      have z4 := SB.out.z.c4
      have z5 := SB.out.z.c5
      have z6 := SB.out.z.c6
      have f0 := SB.out.z.frozen 0
      have f1 := SB.out.z.frozen 1
      have f2 := SB.out.z.frozen 2
      have f3 := SB.out.z.frozen 3
      have f4 := SB.out.z.frozen 4
      have f5 := SB.out.z.frozen 5
      have f6 := SB.out.z.frozen 6
      refine one_ (i := 8) (N := none) #[true, true, true, true, true, true, true, true, true, false, false] rfl rfl (by kernel_rfl) (by decide) (fun K hK => ?_)
      refine skip_ (w1 := ?_) (by rfl) rfl ?_ ?_
      rotate_left
      · go_simp
        rfl
      refine hK.out _ _ ⟨(SB.out.x.far7 (k := w.heap.size + 1 + 1) (by omega) _ _ _ _ _ _ _).c0, (SB.out.x.far7 (k := w.heap.size + 1 + 1) (by omega) _ _ _ _ _ _ _).c1, (SB.out.x.far7 (k := w.heap.size + 1 + 1) (by omega) _ _ _ _ _ _ _).c2, (SB.out.x.far7 (k := w.heap.size + 1 + 1) (by omega) _ _ _ _ _ _ _).c3, (SB.out.x.far7 (k := w.heap.size + 1 + 1) (by omega) _ _ _ _ _ _ _).c4, (SB.out.x.far7 (k := w.heap.size + 1 + 1) (by omega) _ _ _ _ _ _ _).c5, (SB.out.x.far7 (k := w.heap.size + 1 + 1) (by omega) _ _ _ _ _ _ _).c6, cell_set7 (SB.out.l (w.heap.size + 1, .int .i64 id) (by simp)) (k := w.heap.size + 1 + 1) (by show w.heap.size + 1 ≠ w.heap.size + 1 + 1; omega) _ _ _ _ _ _ _⟩ (fun hHeld => ?_)
      clear hK K
      refine pure_ (i := 9) (N := some 5) (v := ?_) (a' := ?_) #[true, true, true, true, true, true, true, true, true, true, false] rfl rfl (by kernel_rfl) (fun _ _ _ h => h) (Or.inl ⟨by rfl, ?_⟩) ?_ ?_
      rotate_left
      · intro w'
        go_simp
        with_reducible rfl
      rotate_left
      · (simp only [Act.put, List.setIfInBounds_toArray, List.set_cons_zero, List.set_cons_succ, i64_w, i32_w]; rfl)
      refine pure_ (i := 10) (N := some 6) (v := ?_) (a' := ?_) #[true, true, true, true, true, true, true, true, true, true, true] rfl rfl (by kernel_rfl) (fun _ _ _ h => h) (Or.inl ⟨by rfl, ?_⟩) ?_ ?_
      rotate_left
      · intro w'
        go_simp
        with_reducible rfl
      rotate_left
      · (simp only [Act.put, List.setIfInBounds_toArray, List.set_cons_zero, List.set_cons_succ, i64_w, i32_w]; rfl)
      refine done_ (by kernel_rfl) ?_
      go_wp2
      refine bodyPost_ret (Go.Proofs.YtnkhnnojdlgfjaaDoorW.PrintWords.results_ctt (cs := #[.int .i64 rt7, .slice A7 ns7.length c7, .int .i64 cur7, .int .u64 v7, .int .u64 mn7, .int .i64 load7, .slice B7 ws7.length d7]) rfl _ _ (w.heap.size + 1 + 1) 28 (0, 0) _ rfl (set7_out SB.out.z.out rfl _ _ _ _ _ _ _) Tryd.underlying28 rfl (by kernel_rfl)) rfl ?_
      have HBE := set7_below SB.out.b (g := w.heap.size + 1 + 1) (by omega) (.int .i64 rt7) (.slice A7 ns7.length c7) (.int .i64 cur7) (.int .u64 v7) (.int .u64 mn7) (.int .i64 load7) (.slice B7 ws7.length d7)
      exact ⟨_, rfl, _, _, _, _, rfl, (HQ7.out.put7 (w.heap.size + 1 + 1) (by omega) (by omega) _ _ _ _ _ _ _).unbox, HBE⟩
    · obtain ⟨t', i1, i2, i3⟩ := HD.out b bc
      have hqw := Option.some.inj (HF.out.symm.trans i3)
      simp only [Prod.mk.injEq] at hqw
      obtain ⟨hqw, hlr, rfl⟩ := hqw
      obtain ⟨ns', rt'⟩ := t'
      have HQW := Aside0.mk (show (⟨⟨ns7, rt7⟩, cur7, v7, mn7, load7, ws7⟩ : Q) = weighA ⟨⟨ns', rt'⟩, cur, v, mn, load, ws⟩ id 0 from hqw)
      have HI := Aside0.mk (show delF ⟨ns, rt⟩ mn id = some (⟨ns', rt'⟩, 0) from i1)
      have HNL := Aside0.mk (show ns'.length = ns.length from i2)
      have b1 : (id == cur) = false := by simpa using bc
      obtain ⟨ad, e0, n0, n1, n2, n3, n4, n5⟩ := kn_at SB.out.q.trC id HGG.out.1 HGG.out.2.1
      replace e0 : A = some ad := e0
      subst e0
      replace n2 : W2.cell? ⟨(ad.add (id.toNat * 6)).block, (ad.add (id.toNat * 6)).off + 2, none⟩ = some (.int .u64 (gn ⟨ns, rt⟩ id.toNat).v) := n2
      have HLR := Aside0.mk (show lr = lagf mn (gn ⟨ns, rt⟩ id.toNat).v from hlr)
      generalize (gn ⟨ns, rt⟩ id.toNat).v = vv at n2 HLR
      have hg0 := HGG.out.1
      have hg1 := HGG.out.2.1
      replace hg1 : id < (ns.length : Int) := hg1
      subst b
      clear HF HN HC HD HG HFI hqw hlr bc i1 i2 i3 n0 n1 n3 n4 n5
      have a0 := SB.out.x.c0
      have a1 := SB.out.x.c1
      have a4 := SB.out.x.c4
      go_upto_region 9 with (go_at_call 35; refine (Delete_ (t := ⟨ns, rt⟩) (some ad) c mn id (⟨ns', rt'⟩, 0) SB.out.q.trC SB.out.q.tl SB.out.t HI.out).mono ?_; rintro e w5 hp; obtain ⟨v2, rfl, hR, hb⟩ := hp.out; obtain ⟨A2, c2, hv2, hlc2, hC2⟩ := Kd.R_reads hR; subst hv2; have HQ5 := Aside0.mk ((SB.out.q.below hb).tree (t' := ⟨ns', rt'⟩) (w0 := W2) hR SB.out.q.sl (by have h1 := HNL.out; have h2 := SB.out.q.tl; have e : (⟨⟨ns, rt⟩, cur, v, mn, load, ws⟩ : Q).t.ns.length = ns.length := rfl; have e2 : (⟨ns', rt'⟩ : St).ns.length = ns'.length := rfl; omega)); replace SB := Aside0.mk (SB.out.step hb); clear hp hR hb hC2 hlc2; replace a0 := SB.out.x.c0; replace a1 := SB.out.x.c1; have f0 := SB.out.x.frozen 0; have f1 := SB.out.x.frozen 1; replace cid := SB.out.l (w.heap.size + 1, .int .i64 id) (by simp))
      have HX6 := SB.out.x.st01 rt' A2 ns'.length c2
      have HZ6 := (SB.out.z.far (k := w.heap.size) (by omega) 0 (.int .i64 rt')).far (k := w.heap.size) (by omega) 1 (.slice A2 ns'.length c2)
      have HB6 := Below.setCell (Below.setCell SB.out.b (p := ⟨w.heap.size, 0, none⟩) (Nat.le_refl _) (.int .i64 rt')) (p := ⟨w.heap.size, 1, none⟩) (Nat.le_refl _) (.slice A2 ns'.length c2)
      have HQ6 := (HQ5.out.put w.heap.size 0 (by omega) (by omega) (.int .i64 rt')).put w.heap.size 1 (by omega) (by omega) (.slice A2 ns'.length c2)
      have cid6 := (World.cell?_setCell_other (w5.setCell ⟨w.heap.size, 0, none⟩ (.int .i64 rt')) ⟨w.heap.size, 1, none⟩ ⟨w.heap.size + 1, 0, none⟩ (.slice A2 ns'.length c2) (by simp)).trans ((World.cell?_setCell_other w5 ⟨w.heap.size, 0, none⟩ ⟨w.heap.size + 1, 0, none⟩ (.int .i64 rt') (by simp)).trans cid)
      clear a0 a1 a2 a3 a4 f0 f1 cid SB HQ5 n2
      generalize (w5.setCell ⟨w.heap.size, 0, none⟩ (.int .i64 rt')).setCell ⟨w.heap.size, 1, none⟩ (.slice A2 ns'.length c2) = W6 at HX6 HZ6 HB6 HQ6 cid6 ⊢
      have SB := Aside0.mk (show KB S 3 (w.heap.size + 1 + 1) A2 c2 B d ⟨⟨ns', rt'⟩, cur, v, mn, load, ws⟩ w W6 [(w.heap.size + 1, .int .i64 id)] from ⟨HX6, HZ6, HB6, HQ6, HT.out.below HB6, fun p hp => by
        simp only [List.mem_cons, List.not_mem_nil, or_false] at hp
        subst hp
        exact cid6⟩)
      clear HX6 HZ6 HB6 HQ6 cid6
      have HW := Aside0.mk (fun (A : Option Addr) (c : Nat) (S : Nat → Prop) (W : World) (h : QIn S A c B d W ⟨⟨ns', rt'⟩, cur, v, mn, load, ws⟩) => (show Calls Tryd.prog 30 #[.agg #[.int .i64 rt', .slice A ns'.length c, .int .i64 cur, .int .u64 v, .int .u64 mn, .int .i64 load, .slice B ws.length d], .int .i64 id, .int .i64 0] W fun e w' => ∃ u, e = .returned u ∧ QPost S W ⟨⟨ns7, rt7⟩, cur7, v7, mn7, load7, ws7⟩ u w' from by rw [HQW.out]; exact weigh_ id 0 h HGG.out.1 HGG.out.2.2))
      have HLG := Aside0.mk (fun (W : World) => (show Calls Tryd.prog 46 #[.int .u64 vv, .int .u64 mn] W fun e w' => e = .returned (.int .i64 lr) ∧ Below W.heap.size W w' from by rw [HLR.out]; exact lag_ vv mn W))
      replace SB := Aside0.mk SB.out.drew
      refine start_ (n := 11) (S := fun w' => w'.cell? ⟨w.heap.size, 0, none⟩ = some (.int .i64 rt') ∧ w'.cell? ⟨w.heap.size, 1, none⟩ = some (.slice A2 ns'.length c2) ∧ w'.cell? ⟨w.heap.size, 2, none⟩ = some (.int .i64 cur) ∧ w'.cell? ⟨w.heap.size, 3, none⟩ = some (.int .u64 v) ∧ w'.cell? ⟨w.heap.size, 4, none⟩ = some (.int .u64 mn) ∧ w'.cell? ⟨w.heap.size, 5, none⟩ = some (.int .i64 load) ∧ w'.cell? ⟨w.heap.size, 6, none⟩ = some (.slice B ws.length d) ∧ w'.cell? ⟨w.heap.size + 1, 0, none⟩ = some (.int .i64 id)) (ds := []) #[false, false, false, false, false, false, false, false, false, false, false] (by kernel_rfl) rfl rfl ⟨SB.out.x.c0, SB.out.x.c1, SB.out.x.c2, SB.out.x.c3, SB.out.x.c4, SB.out.x.c5, SB.out.x.c6, SB.out.l (w.heap.size + 1, .int .i64 id) (by simp)⟩ (fun hHeld => ?_)
      generalize World.drew _ = W8 at SB hHeld ⊢
      refine take_ (i := 0) (N := some 45) (v := ?_) (a' := ?_) #[true, false, false, false, false, false, false, false, false, false, false] rfl rfl (by kernel_rfl) (fun _ _ _ h => h) (Or.inl ⟨by rfl, ?_⟩) hHeld ?_ ?_
      rotate_left
      · rintro w' ⟨s0, s1, s2, s3, s4, s5, s6, s7⟩
        go_simp
        with_reducible rfl
      rotate_left
      · (simp only [Act.put, List.setIfInBounds_toArray, List.set_cons_zero, List.set_cons_succ, i64_w, i32_w]; rfl)
      refine take_ (i := 1) (N := some 46) (v := ?_) (a' := ?_) #[true, true, false, false, false, false, false, false, false, false, false] rfl rfl (by kernel_rfl) (fun _ _ _ h => h) (Or.inl ⟨by rfl, ?_⟩) hHeld ?_ ?_
      rotate_left
      · rintro w' ⟨s0, s1, s2, s3, s4, s5, s6, s7⟩
        go_simp
        with_reducible rfl
      rotate_left
      · (simp only [Act.put, List.setIfInBounds_toArray, List.set_cons_zero, List.set_cons_succ, i64_w, i32_w]; rfl)
      refine pure_ (i := 3) (N := some 48) (v := ?_) (a' := ?_) #[true, true, false, true, false, false, false, false, false, false, false] rfl rfl (by kernel_rfl) (fun _ _ _ h => h) (Or.inl ⟨by rfl, ?_⟩) ?_ ?_
      rotate_left
      · intro w'
        go_simp
        with_reducible rfl
      rotate_left
      · (simp only [Act.put, List.setIfInBounds_toArray, List.set_cons_zero, List.set_cons_succ, i64_w, i32_w]; rfl)
      refine pure_ (i := 4) (N := some 49) (v := ?_) (a' := ?_) #[true, true, false, true, true, false, false, false, false, false, false] rfl rfl (by kernel_rfl) (fun _ _ _ h => h) (Or.inl ⟨by rfl, ?_⟩) ?_ ?_
      rotate_left
      · intro w'
        go_simp
        with_reducible rfl
      rotate_left
      · (simp only [Act.put, List.setIfInBounds_toArray, List.set_cons_zero, List.set_cons_succ, i64_w, i32_w]; rfl)
      refine take_ (i := 5) (N := some 50) (v := ?_) (a' := ?_) #[true, true, false, true, true, true, false, false, false, false, false] rfl rfl (by kernel_rfl) (fun _ _ _ h => h) (Or.inl ⟨by rfl, ?_⟩) hHeld ?_ ?_
      rotate_left
      · rintro w' ⟨s0, s1, s2, s3, s4, s5, s6, s7⟩
        go_simp
        with_reducible rfl
      rotate_left
      · (simp only [Act.put, List.setIfInBounds_toArray, List.set_cons_zero, List.set_cons_succ, i64_w, i32_w]; rfl)
      refine pure_ (i := 7) (N := some 52) (v := ?_) (a' := ?_) #[true, true, false, true, true, true, false, true, false, false, false] rfl rfl (by kernel_rfl) (fun _ _ _ h => h) (Or.inl ⟨by rfl, ?_⟩) ?_ ?_
      rotate_left
      · intro w'
        go_simp
        with_reducible rfl
      rotate_left
      · (simp only [Act.put, List.setIfInBounds_toArray, List.set_cons_zero, List.set_cons_succ, i64_w, i32_w]; rfl)
      refine one_ (i := 2) (N := some 47) #[true, true, true, true, true, true, false, true, false, false, false] rfl rfl (by kernel_rfl) (by decide) (fun K hK => ?_)
      refine goes_ Tryd.func30 (by kernel_rfl) rfl #[.agg #[.int .i64 rt', .slice A2 ns'.length c2, .int .i64 cur, .int .u64 v, .int .u64 mn, .int .i64 load, .slice B ws.length d], .int .i64 id, .int .i64 0] (by rfl) rfl rfl (by (try simp only [List.map_toArray, List.map_cons, List.map_nil]); first | done | rfl) ?_
      refine (HW.out _ _ _ _ SB.out.q).mono ?_
      rintro e wq ⟨u, rfl, hp⟩
      obtain ⟨A7, c7, B7, d7, rfl, hq7, hb7⟩ := hp.out
      refine ⟨_, rfl, ?_⟩
      replace SB := Aside0.mk (SB.out.step hb7)
      have HQ7 := Aside0.mk hq7
      clear hp hq7 hb7
      refine hK.out _ _ ⟨SB.out.x.c0, SB.out.x.c1, SB.out.x.c2, SB.out.x.c3, SB.out.x.c4, SB.out.x.c5, SB.out.x.c6, SB.out.l (w.heap.size + 1, .int .i64 id) (by simp)⟩ (fun hHeld => ?_)
      clear hK K
      refine norm_ (a' := ?_) ?_ ?_
      rotate_left
      · (show Act.put _ (some 47) _ = _; (simp only [Act.put, List.setIfInBounds_toArray, List.set_cons_zero, List.set_cons_succ, i64_w, i32_w]; rfl))
      refine one_ (i := 6) (N := some 51) #[true, true, true, true, true, true, true, true, false, false, false] rfl rfl (by kernel_rfl) (by decide) (fun K hK => ?_)
      refine goes_ Tryd.func46 (by kernel_rfl) rfl #[.int .u64 vv, .int .u64 mn] (by rfl) rfl rfl (by (try simp only [List.map_toArray, List.map_cons, List.map_nil]); first | done | rfl) ?_
      refine (HLG.out _).mono ?_
      rintro e wq ⟨rfl, hB⟩
      refine ⟨_, rfl, ?_⟩
      replace SB := Aside0.mk (SB.out.step hB)
      replace HQ7 := Aside0.mk (HQ7.out.below hB)
      clear hB
      refine hK.out _ _ ⟨SB.out.x.c0, SB.out.x.c1, SB.out.x.c2, SB.out.x.c3, SB.out.x.c4, SB.out.x.c5, SB.out.x.c6, SB.out.l (w.heap.size + 1, .int .i64 id) (by simp)⟩ (fun hHeld => ?_)
      clear hK K
      refine norm_ (a' := ?_) ?_ ?_
      rotate_left
      · (show Act.put _ (some 51) _ = _; (simp only [Act.put, List.setIfInBounds_toArray, List.set_cons_zero, List.set_cons_succ, i64_w, i32_w]; rfl))
      have z0 := SB.out.z.c0
      have z1 := SB.out.z.c1
      have z2 := SB.out.z.c2
      have z3 := SB.out.z.c3
      have z4 := SB.out.z.c4
      have z5 := SB.out.z.c5
      have z6 := SB.out.z.c6
      have f0 := SB.out.z.frozen 0
      have f1 := SB.out.z.frozen 1
      have f2 := SB.out.z.frozen 2
      have f3 := SB.out.z.frozen 3
      have f4 := SB.out.z.frozen 4
      have f5 := SB.out.z.frozen 5
      have f6 := SB.out.z.frozen 6
      refine one_ (i := 8) (N := none) #[true, true, true, true, true, true, true, true, true, false, false] rfl rfl (by kernel_rfl) (by decide) (fun K hK => ?_)
      refine skip_ (w1 := ?_) (by rfl) rfl ?_ ?_
      rotate_left
      · go_simp
        rfl
      refine hK.out _ _ ⟨(SB.out.x.far7 (k := w.heap.size + 1 + 1) (by omega) _ _ _ _ _ _ _).c0, (SB.out.x.far7 (k := w.heap.size + 1 + 1) (by omega) _ _ _ _ _ _ _).c1, (SB.out.x.far7 (k := w.heap.size + 1 + 1) (by omega) _ _ _ _ _ _ _).c2, (SB.out.x.far7 (k := w.heap.size + 1 + 1) (by omega) _ _ _ _ _ _ _).c3, (SB.out.x.far7 (k := w.heap.size + 1 + 1) (by omega) _ _ _ _ _ _ _).c4, (SB.out.x.far7 (k := w.heap.size + 1 + 1) (by omega) _ _ _ _ _ _ _).c5, (SB.out.x.far7 (k := w.heap.size + 1 + 1) (by omega) _ _ _ _ _ _ _).c6, cell_set7 (SB.out.l (w.heap.size + 1, .int .i64 id) (by simp)) (k := w.heap.size + 1 + 1) (by show w.heap.size + 1 ≠ w.heap.size + 1 + 1; omega) _ _ _ _ _ _ _⟩ (fun hHeld => ?_)
      clear hK K
      refine pure_ (i := 9) (N := some 5) (v := ?_) (a' := ?_) #[true, true, true, true, true, true, true, true, true, true, false] rfl rfl (by kernel_rfl) (fun _ _ _ h => h) (Or.inl ⟨by rfl, ?_⟩) ?_ ?_
      rotate_left
      · intro w'
        go_simp
        with_reducible rfl
      rotate_left
      · (simp only [Act.put, List.setIfInBounds_toArray, List.set_cons_zero, List.set_cons_succ, i64_w, i32_w]; rfl)
      refine pure_ (i := 10) (N := some 6) (v := ?_) (a' := ?_) #[true, true, true, true, true, true, true, true, true, true, true] rfl rfl (by kernel_rfl) (fun _ _ _ h => h) (Or.inl ⟨by rfl, ?_⟩) ?_ ?_
      rotate_left
      · intro w'
        go_simp
        with_reducible rfl
      rotate_left
      · (simp only [Act.put, List.setIfInBounds_toArray, List.set_cons_zero, List.set_cons_succ, i64_w, i32_w]; rfl)
      refine done_ (by kernel_rfl) ?_
      go_wp2
      refine bodyPost_ret (Go.Proofs.YtnkhnnojdlgfjaaDoorW.PrintWords.results_ctt (cs := #[.int .i64 rt7, .slice A7 ns7.length c7, .int .i64 cur7, .int .u64 v7, .int .u64 mn7, .int .i64 load7, .slice B7 ws7.length d7]) rfl _ _ (w.heap.size + 1 + 1) 28 (0, 0) _ rfl (set7_out SB.out.z.out rfl _ _ _ _ _ _ _) Tryd.underlying28 rfl (by kernel_rfl)) rfl ?_
      have HBE := set7_below SB.out.b (g := w.heap.size + 1 + 1) (by omega) (.int .i64 rt7) (.slice A7 ns7.length c7) (.int .i64 cur7) (.int .u64 v7) (.int .u64 mn7) (.int .i64 load7) (.slice B7 ws7.length d7)
      exact ⟨_, rfl, _, _, _, _, rfl, (HQ7.out.put7 (w.heap.size + 1 + 1) (by omega) (by omega) _ _ _ _ _ _ _).unbox, HBE⟩
  · have hn := HN.out b
    simp only [Prod.mk.injEq, q0, Q.mk.injEq, St.mk.injEq] at hn
    obtain ⟨⟨⟨rfl, rfl⟩, rfl, rfl, rfl, rfl, rfl⟩, rfl, rfl⟩ := hn
    have b1 : (er != 0) = true := by simpa using b
    clear HF HN HC HD HG HFI b
    have z0 := SB.out.z.c0
    have z1 := SB.out.z.c1
    have z2 := SB.out.z.c2
    have z3 := SB.out.z.c3
    have z4 := SB.out.z.c4
    have z5 := SB.out.z.c5
    have z6 := SB.out.z.c6
    have f0 := SB.out.z.frozen 0
    have f1 := SB.out.z.frozen 1
    have f2 := SB.out.z.frozen 2
    have f3 := SB.out.z.frozen 3
    have f4 := SB.out.z.frozen 4
    have f5 := SB.out.z.frozen 5
    have f6 := SB.out.z.frozen 6
    go_wp2
    refine bodyPost_ret (Go.Proofs.YtnkhnnojdlgfjaaDoorW.PrintWords.results_ctt (cs := #[.int .i64 0, .slice none 0 0, .int .i64 0, .int .u64 0, .int .u64 0, .int .i64 0, .slice none 0 0]) rfl _ _ (w.heap.size + 1 + 1) 28 (0, 0) _ rfl (set7_out SB.out.z.out rfl _ _ _ _ _ _ _) Tryd.underlying28 rfl (by kernel_rfl)) rfl ?_
    have HBE := set7_below SB.out.b (g := w.heap.size + 1 + 1) (by omega) (.int .i64 0) (.slice none 0 0) (.int .i64 0) (.int .u64 0) (.int .u64 0) (.int .i64 0) (.slice none 0 0)
    exact ⟨_, rfl, _, _, _, _, rfl, QIn.zero S _ (fun k hk => Nat.lt_of_lt_of_le (HQ.out.sl k hk) HBE.size), HBE⟩
end Go.Proofs.YtnkhnnojdlgfjaaDoor.Qw
