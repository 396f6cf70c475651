/- Parts of the proof, joined: Q8. -/
import Derived.Test.YtnkhnnojdlgfjaaDoorUF37
namespace Go.Proofs.YtnkhnnojdlgfjaaDoor.Qw
open Go.RowKit Go Go.Proofs Go.Proofs.YtnkhnnojdlgfjaaDoor Go.Proofs.YtnkhnnojdlgfjaaDoor.Tr Go.Proofs.YtnkhnnojdlgfjaaDoor.Tk Go.Proofs.YtnkhnnojdlgfjaaDoor.Tm Go.Proofs.YtnkhnnojdlgfjaaDoor.Qu Go.Proofs.YtnkhnnojdlgfjaaDoorW.PrintWords Go.Proofs.YtnkhnnojdlgfjaaDoorW.PrintLast Go.Proofs.YtnkhnnojdlgfjaaDoorW.PrintMore
set_option linter.unusedVariables false
set_option linter.unusedSimpArgs false
variable {S : Nat → Prop} {A B : Option Addr} {c d : Nat} {w w' : World} {q : Q}
section
variable {ns : List Nd} {rt cur v mn load : Int} {ws : List Int} {g : Nat} {W : World}
theorem not_known (q : Q) (id x : Int) : (if knownA q id = true then !(weighedA x) else true) = !(knownA q id && weighedA x) := by
  cases knownA q id <;> rfl
set_option maxHeartbeats 8000000 in
set_option maxRecDepth 100000 in
theorem enter1_ (hx : QB rt A ns.length c cur v mn load B ws.length d W g) (hq : QIn S A c B d W ⟨⟨ns, rt⟩, cur, v, mn, load, ws⟩) (id x : Int) (g1 g2 : Nat) (h1 : W.cell? ⟨g1, 0, none⟩ = some (.int .i64 id)) (h2 : W.cell? ⟨g2, 0, none⟩ = some (.int .i64 x)) :
    Calls Tryd.prog 22 #[.pointer (some ⟨g, 0, none⟩), .pointer (some ⟨g1, 0, none⟩), .pointer (some ⟨g2, 0, none⟩)] W fun e w' => e = .returned (.bool (!(knownA ⟨⟨ns, rt⟩, cur, v, mn, load, ws⟩ id && weighedA x))) ∧ Below W.heap.size W w' := by
  have HX := Aside0.mk hx
  have HQ := Aside0.mk hq
  have HK := Aside0.mk (show Calls Tryd.prog 23 #[.agg #[.int .i64 rt, .slice A ns.length c, .int .i64 cur, .int .u64 v, .int .u64 mn, .int .i64 load, .slice B ws.length d], .int .i64 id] W fun e w' => e = .returned (.bool (knownA ⟨⟨ns, rt⟩, cur, v, mn, load, ws⟩ id)) ∧ Below W.heap.size W w' from known_ id hq)
  have HE2 := Aside0.mk h2
  rw [← not_known]
  generalize knownA ⟨⟨ns, rt⟩, cur, v, mn, load, ws⟩ id = kn at HK ⊢
  have HW := Aside0.mk (weighed_ x)
  generalize weighedA x = wx at HW ⊢
  have a0 := HX.out.c0
  have a1 := HX.out.c1
  have a2 := HX.out.c2
  have a3 := HX.out.c3
  have a4 := HX.out.c4
  have a5 := HX.out.c5
  have a6 := HX.out.c6
  clear hx hq h2
  go_enter Tryd.func22, Tryd.ntmps22
  cases kn with
  | true =>
    go_wp2_with (first
      | (go_at_call 23; refine HK.out.mono ?_; rintro e w2 ⟨rfl, hb⟩; have HB := Aside0.mk hb; have h3 := pw_cell_below hb HE2.out; clear hb)
      | (go_at_call 24; refine (HW.out _).mono ?_; rintro e w3 ⟨rfl, hb⟩; have HB2 := Aside0.mk (below_step HB.out hb); clear hb))
    go_ret
    exact ⟨rfl, HB2.out⟩
  | false =>
    go_wp2_with (go_at_call 23; refine HK.out.mono ?_; rintro e w2 ⟨rfl, hb⟩; have HB := Aside0.mk hb; clear hb)
    go_ret
    exact ⟨rfl, HB.out⟩
set_option maxHeartbeats 8000000 in
set_option maxRecDepth 100000 in
theorem enter2_ (hx : QB rt A ns.length c cur v mn load B ws.length d W g) (hq : QIn S A c B d W ⟨⟨ns, rt⟩, cur, v, mn, load, ws⟩) (id : Int) (g1 : Nat) (h1 : W.cell? ⟨g1, 0, none⟩ = some (.int .i64 id)) (h3 : 0 ≤ id) (h4 : id < (ns.length : Int)) :
    Calls Tryd.prog 25 #[.pointer (some ⟨g, 0, none⟩), .pointer (some ⟨g1, 0, none⟩)] W fun e w' => e = .returned (.bool (hereA ⟨⟨ns, rt⟩, cur, v, mn, load, ws⟩ id)) ∧ Below W.heap.size W w' := by
  have HX := Aside0.mk hx
  have HK := Aside0.mk (show Calls Tryd.prog 26 #[.agg #[.int .i64 rt, .slice A ns.length c, .int .i64 cur, .int .u64 v, .int .u64 mn, .int .i64 load, .slice B ws.length d], .int .i64 id] W fun e w' => e = .returned (.bool (hereA ⟨⟨ns, rt⟩, cur, v, mn, load, ws⟩ id)) ∧ Below W.heap.size W w' from here_ id hq h3 h4)
  generalize hereA ⟨⟨ns, rt⟩, cur, v, mn, load, ws⟩ id = hh at HK ⊢
  have a0 := HX.out.c0
  have a1 := HX.out.c1
  have a2 := HX.out.c2
  have a3 := HX.out.c3
  have a4 := HX.out.c4
  have a5 := HX.out.c5
  have a6 := HX.out.c6
  clear hx hq h3 h4
  go_enter Tryd.func25, Tryd.ntmps25
  go_wp2_with (go_at_call 26; refine HK.out.mono ?_; rintro e w2 ⟨rfl, hb⟩; have HB := Aside0.mk hb; clear hb)
  go_ret
  exact ⟨rfl, HB.out⟩
set_option maxHeartbeats 8000000 in
set_option maxRecDepth 100000 in
theorem leave2_ (hx : QB rt A ns.length c cur v mn load B ws.length d W g) (hq : QIn S A c B d W ⟨⟨ns, rt⟩, cur, v, mn, load, ws⟩) (id : Int) (g1 : Nat) (h1 : W.cell? ⟨g1, 0, none⟩ = some (.int .i64 id)) (h3 : 0 ≤ id) (h4 : id < (ns.length : Int)) :
    Calls Tryd.prog 45 #[.pointer (some ⟨g, 0, none⟩), .pointer (some ⟨g1, 0, none⟩)] W fun e w' => e = .returned (.bool (!(hereA ⟨⟨ns, rt⟩, cur, v, mn, load, ws⟩ id))) ∧ Below W.heap.size W w' := by
  have HX := Aside0.mk hx
  have HK := Aside0.mk (show Calls Tryd.prog 26 #[.agg #[.int .i64 rt, .slice A ns.length c, .int .i64 cur, .int .u64 v, .int .u64 mn, .int .i64 load, .slice B ws.length d], .int .i64 id] W fun e w' => e = .returned (.bool (hereA ⟨⟨ns, rt⟩, cur, v, mn, load, ws⟩ id)) ∧ Below W.heap.size W w' from here_ id hq h3 h4)
  generalize hereA ⟨⟨ns, rt⟩, cur, v, mn, load, ws⟩ id = hh at HK ⊢
  have a0 := HX.out.c0
  have a1 := HX.out.c1
  have a2 := HX.out.c2
  have a3 := HX.out.c3
  have a4 := HX.out.c4
  have a5 := HX.out.c5
  have a6 := HX.out.c6
  clear hx hq h3 h4
  go_enter Tryd.func45, Tryd.ntmps45
  go_wp2_with (go_at_call 26; refine HK.out.mono ?_; rintro e w2 ⟨rfl, hb⟩; have HB := Aside0.mk hb; clear hb)
  go_ret
  exact ⟨rfl, HB.out⟩
set_option maxHeartbeats 8000000 in
set_option maxRecDepth 100000 in
theorem leave1_ (hx : QB rt A ns.length c cur v mn load B ws.length d W g) (hq : QIn S A c B d W ⟨⟨ns, rt⟩, cur, v, mn, load, ws⟩) (id : Int) (g1 : Nat) (h1 : W.cell? ⟨g1, 0, none⟩ = some (.int .i64 id)) :
    Calls Tryd.prog 44 #[.pointer (some ⟨g, 0, none⟩), .pointer (some ⟨g1, 0, none⟩)] W fun e w' => e = .returned (.bool (!(knownA ⟨⟨ns, rt⟩, cur, v, mn, load, ws⟩ id))) ∧ Below W.heap.size W w' := by
  have HX := Aside0.mk hx
  have HK := Aside0.mk (show Calls Tryd.prog 23 #[.agg #[.int .i64 rt, .slice A ns.length c, .int .i64 cur, .int .u64 v, .int .u64 mn, .int .i64 load, .slice B ws.length d], .int .i64 id] W fun e w' => e = .returned (.bool (knownA ⟨⟨ns, rt⟩, cur, v, mn, load, ws⟩ id)) ∧ Below W.heap.size W w' from known_ id hq)
  generalize knownA ⟨⟨ns, rt⟩, cur, v, mn, load, ws⟩ id = hh at HK ⊢
  have a0 := HX.out.c0
  have a1 := HX.out.c1
  have a2 := HX.out.c2
  have a3 := HX.out.c3
  have a4 := HX.out.c4
  have a5 := HX.out.c5
  have a6 := HX.out.c6
  clear hx hq
  go_enter Tryd.func44, Tryd.ntmps44
  go_wp2_with (go_at_call 23; refine HK.out.mono ?_; rintro e w2 ⟨rfl, hb⟩; have HB := Aside0.mk hb; clear hb)
  go_ret
  exact ⟨rfl, HB.out⟩
set_option maxHeartbeats 8000000 in
set_option maxRecDepth 100000 in
theorem pick1_ (hx : QB rt A ns.length c cur v mn load B ws.length d W g) (hq : QIn S A c B d W ⟨⟨ns, rt⟩, cur, v, mn, load, ws⟩) (hT : Emp W) (hr : rightQ ⟨⟨ns, rt⟩, cur, v, mn, load, ws⟩ = true) :
    Calls Tryd.prog 31 #[.pointer (some ⟨g, 0, none⟩)] W fun e w' => e = .returned (.bool (decide (keysA ⟨⟨ns, rt⟩, cur, v, mn, load, ws⟩ = []))) ∧ Below W.heap.size W w' := by
  have HX := Aside0.mk hx
  have HK := Aside0.mk (show Calls Tryd.prog 32 #[.agg #[.int .i64 rt, .slice A ns.length c, .int .i64 cur, .int .u64 v, .int .u64 mn, .int .i64 load, .slice B ws.length d]] W fun e w' => KPost W (keysA ⟨⟨ns, rt⟩, cur, v, mn, load, ws⟩) e w' from keys_ hq (right_cur hr).1 (right_cur hr).2 hT)
  generalize keysA ⟨⟨ns, rt⟩, cur, v, mn, load, ws⟩ = kl at HK ⊢
  have a0 := HX.out.c0
  have a1 := HX.out.c1
  have a2 := HX.out.c2
  have a3 := HX.out.c3
  have a4 := HX.out.c4
  have a5 := HX.out.c5
  have a6 := HX.out.c6
  clear hx hq hT hr
  have HN := Aside0.mk (show ((kl.length : Int) == 0) = decide (kl = []) by cases kl <;> simp <;> omega)
  generalize hdd : decide (kl = []) = dd at HN ⊢
  clear hdd
  go_enter Tryd.func31, Tryd.ntmps31
  go_wp2_with (go_at_call 32; refine HK.out.mono ?_; rintro e w2 ⟨v2, rfl, hR, hb⟩; obtain ⟨A5, c5, hv5, hlc5, hC5⟩ := Kd.R_reads hR; subst hv5; have HB := Aside0.mk hb; clear hR hb hC5 hlc5)
  go_ret
  exact ⟨by rw [← HN.out]; rfl, HB.out⟩
set_option maxHeartbeats 8000000 in
set_option maxRecDepth 100000 in
theorem tick1_ (x : Int) (h1 : W.cell? ⟨g, 0, none⟩ = some (.int .i64 x)) : Calls Tryd.prog 37 #[.pointer (some ⟨g, 0, none⟩)] W fun e w' => e = .returned (.bool (decide (x < 0 ∨ 1099511627776 < x))) ∧ Below W.heap.size W w' := by
  have HB := Aside0.mk (Below.refl W.heap.size W)
  by_cases h : x < 0
  · have e : decide (x < 0 ∨ 1099511627776 < x) = true := decide_eq_true (Or.inl h)
    rw [e]
    have e1 : decide (x < 0) = true := decide_eq_true h
    go_enter Tryd.func37, Tryd.ntmps37
    go_wp2
    go_ret
    exact ⟨rfl, HB.out⟩
  · have e : decide (x < 0 ∨ 1099511627776 < x) = decide (1099511627776 < x) := by simp [h]
    rw [e]
    have e1 : decide (x < 0) = false := decide_eq_false h
    go_enter Tryd.func37, Tryd.ntmps37
    go_wp2
    go_ret
    exact ⟨rfl, HB.out⟩
set_option maxHeartbeats 8000000 in
set_option maxRecDepth 100000 in
theorem idle_ (w : World) : Calls Tryd.prog 38 #[.agg #[.int .i64 rt, .slice A ns.length c, .int .i64 cur, .int .u64 v, .int .u64 mn, .int .i64 load, .slice B ws.length d]] w fun e w' => ∃ hb eb, e = .returned (ifV hb eb) ∧ w'.cell? ⟨eb, 0, none⟩ = some (.int .i64 8) ∧ w'.cell? ⟨hb, 0, none⟩ = some (.func (.func 68) #[] #[.pointer (some ⟨w.heap.size, 0, none⟩)]) ∧ QB rt A ns.length c cur v mn load B ws.length d w' w.heap.size ∧ Below w.heap.size w w' := by
  have HX := Aside0.mk (QB.new w rt A ns.length c cur v mn load B ws.length d)
  have HB := Aside0.mk (below_alloc (Below.refl w.heap.size w) (.cells #[.int .i64 rt, .slice A ns.length c, .int .i64 cur, .int .u64 v, .int .u64 mn, .int .i64 load, .slice B ws.length d] 28))
  go_enter Tryd.func38, Tryd.ntmps38
  go_wp2_with (go_at_call 21; refine (if_ 8 68 _ _).mono ?_; rintro e w2 ⟨rfl, hc1, hc2, hb⟩; have HX2 := Aside0.mk (HX.out.below hb); have HB2 := Aside0.mk (below_step HB.out hb); have HC1 := Aside0.mk hc1; have HC2 := Aside0.mk hc2; clear hc1 hc2 hb)
  go_ret
  exact ⟨_, _, rfl, by simpa using HC1.out, by simpa using HC2.out, HX2.out, HB2.out⟩
end
theorem first1_ (h : QIn S A c B d w q) (hT : Emp w) (hb eb : Nat) (r : Int) (gl : Nat) (hL : w.heap[gl]? = some (.cells #[ifV hb eb] 55 (0, 0)))
    (hc : rightQ q = true → ∀ W, Below w.heap.size w W → Calls Tryd.prog 50 #[.pointer (some ⟨hb, 0, none⟩), .pointer (some ⟨eb, 0, none⟩)] W fun e w' => e = .returned (.int .i64 r) ∧ Below W.heap.size W w') :
    Calls Tryd.prog 20 #[.agg (qc A c B d q), .slice (some ⟨gl, 0, none⟩) 1 1] w fun e w' => e = .returned (.int .i64 (if rightQ q = true then r else 4)) ∧ Below w.heap.size w w' := by
  have h1 := first_ h hT [(hb, eb, r)] gl (by simp) hL (fun i hi hr _ => by
    obtain rfl : i = 0 := by simp at hi; omega
    exact hc hr)
  have e : firstNZ (res [(hb, eb, r)]) = r := by
    show (if r = 0 then 0 else r) = r
    split <;> omega
  rw [e] at h1
  exact h1
theorem first2_ (h : QIn S A c B d w q) (hT : Emp w) (hb eb hb2 eb2 : Nat) (r r2 : Int) (gl : Nat) (hL : w.heap[gl]? = some (.cells #[ifV hb eb, ifV hb2 eb2] 55 (0, 0)))
    (hc : rightQ q = true → ∀ W, Below w.heap.size w W → Calls Tryd.prog 50 #[.pointer (some ⟨hb, 0, none⟩), .pointer (some ⟨eb, 0, none⟩)] W fun e w' => e = .returned (.int .i64 r) ∧ Below W.heap.size W w')
    (hc2 : rightQ q = true → r = 0 → ∀ W, Below w.heap.size w W → Calls Tryd.prog 50 #[.pointer (some ⟨hb2, 0, none⟩), .pointer (some ⟨eb2, 0, none⟩)] W fun e w' => e = .returned (.int .i64 r2) ∧ Below W.heap.size W w') :
    Calls Tryd.prog 20 #[.agg (qc A c B d q), .slice (some ⟨gl, 0, none⟩) 2 2] w fun e w' => e = .returned (.int .i64 (if rightQ q = true then (if r = 0 then r2 else r) else 4)) ∧ Below w.heap.size w w' := by
  have h1 := first_ h hT [(hb, eb, r), (hb2, eb2, r2)] gl (by simp) hL (fun i hi hr hz => by
    match i, hi with
    | 0, _ => exact hc hr
    | 1, _ => exact hc2 hr (hz 0 (by omega)))
  have e : firstNZ (res [(hb, eb, r), (hb2, eb2, r2)]) = if r = 0 then r2 else r := by
    show (if r = 0 then (if r2 = 0 then 0 else r2) else r) = _
    repeat' split
    all_goals omega
  rw [e] at h1
  exact h1
structure KB (S : Nat → Prop) (n z : Nat) (A : Option Addr) (c : Nat) (B : Option Addr) (d : Nat) (q : Q) (w W : World) (L : List (Nat × Value)) : Prop where mk ::
  x : QB q.t.rt A q.t.ns.length c q.cur q.v q.mn q.load B q.ws.length d W w.heap.size
  z : QB 0 none 0 0 0 0 0 0 none 0 0 W z
  b : Below w.heap.size w W
  q : QIn (bx S w.heap.size n) A c B d W q
  t : Emp W
  l : ∀ p ∈ L, W.cell? ⟨p.1, 0, none⟩ = some p.2
section
variable {n z : Nat} {W W' : World} {L : List (Nat × Value)}
theorem KB.step (h : KB S n z A c B d q w W L) (hb : Below W.heap.size W W') : KB S n z A c B d q w W' L := ⟨h.x.below hb, h.z.below hb, below_step h.b hb, h.q.below hb, h.t.below hb, fun p hp => pw_cell_below hb (h.l p hp)⟩
theorem KB.drew (h : KB S n z A c B d q w W L) : KB S n z A c B d q w W.drew L := h.step (Below.drew (Below.refl _ _))
theorem KB.sub (h : KB S n z A c B d q w W L) {L' : List (Nat × Value)} (hs : ∀ p ∈ L', p ∈ L) : KB S n z A c B d q w W L' := ⟨h.x, h.z, h.b, h.q, h.t, fun p hp => h.l p (hs p hp)⟩
theorem KB.more (h : KB S n z A c B d q w W L) {g : Nat} {u : Value} (hc : W.cell? ⟨g, 0, none⟩ = some u) : KB S n z A c B d q w W ((g, u) :: L) := ⟨h.x, h.z, h.b, h.q, h.t, fun p hp => by
  rcases List.mem_cons.1 hp with rfl | hp
  · exact hc
  · exact h.l p hp⟩
end
end Go.Proofs.YtnkhnnojdlgfjaaDoor.Qw
