/- Parts of the proof, joined: Q2, Math. -/
import Derived.Test.YtnkhnnojdlgfjaaDoorUF29
import Derived.Laws.BitsLemmas
import Derived.RowKit
section
namespace Go.Proofs.YtnkhnnojdlgfjaaDoor.Qw
open Go.RowKit Go Go.Proofs Go.Proofs.YtnkhnnojdlgfjaaDoor Go.Proofs.YtnkhnnojdlgfjaaDoor.Tr Go.Proofs.YtnkhnnojdlgfjaaDoor.Tk Go.Proofs.YtnkhnnojdlgfjaaDoor.Tm Go.Proofs.YtnkhnnojdlgfjaaDoor.Qu Go.Proofs.YtnkhnnojdlgfjaaDoorW.PrintWords Go.Proofs.YtnkhnnojdlgfjaaDoorW.PrintLast Go.Proofs.YtnkhnnojdlgfjaaDoorW.PrintMore
set_option linter.unusedVariables false
set_option linter.unusedSimpArgs false
theorem info3 : (Tryd.prog.info? 3).map (fun i => (i.zero, i.size, i.bytes)) = some (some (.int .i64 0), 1, 8) := by kernel_rfl
theorem nilI {w : World} {l : List Int} (hr : ki.C w none l.length l) : l = [] := by
  cases l with
  | nil => rfl
  | cons x t =>
    exfalso
    obtain ⟨ad, c, h, _⟩ := ReadsRow.get_ hr 0 0 (by omega) (by simp)
    cases h
theorem reps_ints {l : List Int} {cs : List Value} (h : Reps (fun (x : Int) c => c = [.int .i64 x]) 1 l cs) : cs = l.map (Value.int .i64) := by
  have hl : cs.length = l.length := by have := h.1; omega
  refine List.ext_getElem? fun j => ?_
  by_cases hj : j < l.length
  · have h2 := h.2 j l[j] (List.getElem?_eq_getElem hj)
    rw [Nat.mul_one] at h2
    have h3 := congrArg (·[0]?) h2
    rw [List.getElem?_map, List.getElem?_eq_getElem hj]
    simpa [List.getElem?_take, List.getElem?_drop] using h3
  · rw [List.getElem?_eq_none (by omega), List.getElem?_eq_none (by rw [List.length_map]; omega)]
theorem ints_reps (l : List Int) : Reps (fun (x : Int) c => c = [.int .i64 x]) 1 l (l.map (Value.int .i64)) := by
  refine ⟨by rw [List.length_map]; omega, fun j p hp => ?_⟩
  have hj : j < l.length := (List.getElem?_eq_some_iff.1 hp).1
  rw [Nat.mul_one]
  refine List.ext_getElem? fun i => ?_
  rcases i with _ | i
  · rw [List.getElem?_take_of_lt (by omega), List.getElem?_drop, Nat.add_zero, List.getElem?_map, hp]
    rfl
  · rw [List.getElem?_take_eq_none (by omega)]
    rfl
structure IArr (rs : List Value) (w : World) (g : Nat) (l : List Int) : Prop where mk ::
  out : ∃ cur : Array Value, w.heap[g]? = some (.cells cur 3 (0, 0)) ∧ cur.toList = l.map (Value.int .i64) ++ rs
theorem IR_arr {w : World} {base : Nat} {ok : Nat → Prop} {v : Value} {l : List Int} (h : ki.R 3 w base ok v l) (h0 : 0 < l.length) : ∃ g cap rs, v = .slice (some ⟨g, 0, none⟩) l.length cap ∧ base ≤ g ∧ l.length ≤ cap ∧ cap ≤ maxLen ∧ l.length + rs.length = cap ∧ IArr rs w g l := by
  obtain ⟨hok, inner, ⟨hl, ho⟩, hr⟩ := h
  have hr' : Reps (fun (x : Int) c => c = [.int .i64 x]) 1 l inner := ⟨hr.1, fun j p hp => hr.2 j p hp⟩
  have hi := reps_ints hr'
  rcases ho with ⟨_, hn⟩ | ⟨g, cap, cur, rfl, hg, hh, hn, hm, hs, ht⟩
  · omega
  · have hs' : cur.size = cap * 1 := hs
    have ht' : cur.toList.take (l.length * 1) = inner := ht
    rw [Nat.mul_one] at hs' ht'
    refine ⟨g, cap, cur.toList.drop l.length, rfl, hg, hn, hm, ?_, ⟨cur, hh, ?_⟩⟩
    · rw [List.length_drop, show cur.toList.length = cap from hs']; omega
    · rw [← hi, ← ht', List.take_append_drop]
theorem arr_IR {rs : List Value} {w : World} {g base cap : Nat} {ok : Nat → Prop} {l : List Int} (h : IArr rs w g l) (hb : base ≤ g) (hok : ok g) (hn : l.length ≤ cap) (hm : cap ≤ maxLen) (hs : l.length + rs.length = cap) : ki.R 3 w base ok (.slice (some ⟨g, 0, none⟩) l.length cap) l := by
  obtain ⟨cur, h1, h2⟩ := h.out
  have hsz : cur.size = cap := by rw [← Array.length_toList, h2, List.length_append, List.length_map, hs]
  refine ⟨fun k hk => by injection hk with hk; subst hk; exact hok, l.map (Value.int .i64), ⟨by rw [List.length_map]; show l.length = l.length * 1; omega, .inr ⟨g, cap, cur, rfl, hb, h1, hn, hm, by show cur.size = cap * 1; omega, ?_⟩⟩, ?_⟩
  · show cur.toList.take (l.length * 1) = l.map (Value.int .i64)
    rw [h2, Nat.mul_one, List.take_left' (List.length_map _)]
  · exact ⟨(ints_reps l).1, fun j p hp => (ints_reps l).2 j p hp⟩
theorem IArr.cell {rs : List Value} {w : World} {g : Nat} {l : List Int} (h : IArr rs w g l) (i : Nat) (hi : i < l.length) : w.cell? ⟨g, i, none⟩ = some (.int .i64 (l.getD i 0)) := by
  obtain ⟨cur, h1, h2⟩ := h.out
  rw [blk_cell h1, ← Array.getElem?_toList, h2, List.getElem?_append_left (by rw [List.length_map]; exact hi), List.getElem?_map, List.getElem?_eq_getElem hi, List.getD_eq_getElem?_getD, List.getElem?_eq_getElem hi]
  rfl
theorem IArr.frozen {rs : List Value} {w : World} {g : Nat} {l : List Int} (h : IArr rs w g l) (i : Nat) : w.frozen? ⟨g, i, none⟩ = false := by
  obtain ⟨cur, h1, h2⟩ := h.out
  exact blk_frozen h1 i
theorem IArr.set {rs : List Value} {w : World} {g : Nat} {l : List Int} (h : IArr rs w g l) (i : Nat) (hi : i < l.length) (x : Int) : IArr rs (w.setCell ⟨g, i, none⟩ (.int .i64 x)) g (l.set i x) := by
  obtain ⟨cur, h1, h2⟩ := h.out
  refine ⟨_, blk_set h1 i _, ?_⟩
  rw [Array.toList_setIfInBounds, h2, List.set_append_left _ _ (by rw [List.length_map]; exact hi), List.map_set]
theorem IArr.moved {rs : List Value} {w w' : World} {g : Nat} {l : List Int} (h : IArr rs w g l) (hb : w'.heap[g]? = w.heap[g]?) : IArr rs w' g l := by
  obtain ⟨cur, h1, h2⟩ := h.out
  exact ⟨cur, hb.trans h1, h2⟩
set_option maxHeartbeats 2000000 in
set_option maxRecDepth 100000 in
theorem cloneI (A0 : Option Addr) (c0 : Nat) (l0 : List Int) (w : World) (hr : ki.C w A0 l0.length l0) (hl : l0.length ≤ 1000000) :
    Calls Tryd.prog 57 #[.slice A0 l0.length c0] w fun e w' => ∃ v0_ : Value, e = .returned v0_ ∧ ki.R 3 w' w.heap.size (fun _ => True) v0_ l0 ∧ Below w.heap.size w w' := by
  have q22 : ∀ (w : World) (a : Option Addr) (n c n' c' : Nat), (binOp .eql 26 (.slice a n c) (.slice none n' c')).run Tryd.prog w = .ok (.bool a.isNone) w := fun w a n c n' c' => Lib.run_eql_slice_nil w _ _ a n c n' c' Tryd.underlying26
  cases A0 with
  | none =>
    obtain rfl := nilI hr
    clear hr
    go_enter Tryd.func57, Tryd.ntmps57
    go_wp2
    go_ret
    exact ⟨_, rfl, Kd.R_nil _ _ _ _ _, Below.refl _ _⟩
  | some a =>
    have H := Aside0.mk hr
    clear hr
    go_enter Tryd.func57, Tryd.ntmps57
    go_wp2_with (at_builtin; refine Kd.R_append_rows ki (Rr := ki.K (w.alloc (.cells #[] 3))) (w0 := w) w.heap.size rfl (.tmp 5) (.tmp 6) 26 3 (.int .i64 0) 8 rfl Tryd.underlying26 info3 rfl (show 0 < ki.sz by show 0 < 1; omega) (by omega) _ [] l0 (some a) l0.length c0 (fun _ => True) (fun _ => False) rfl rfl ?aO ?aR ?aK (fun _ h => h.elim) (fun _ _ => trivial) ?aB ?aS ?aL ?_)
    case aO => exact ⟨fun _ _ => trivial, [], World.ownsRow_made w #[] 0 (Nat.le_refl _) (Nat.zero_le _) (by simp), Reps.none _ _⟩
    case aR => exact (Kd.C_below H.out ((Below.refl _ w).alloc (Nat.le_refl _) _))
    case aK => intro x cs h; exact h
    case aB => exact (Below.refl _ w).alloc (Nat.le_refl _) _
    case aS => simp
    case aL => simp; omega
    intro v1 w1 hR hB hg _
    have HR := Aside0.mk hR
    clear hR hg
    go_wp2
    go_ret
    exact ⟨v1, rfl, by simpa using HR.out, hB⟩
variable {S : Nat → Prop} {A B : Option Addr} {c d : Nat} {w w' : World} {q : Q}
set_option maxHeartbeats 8000000 in
set_option maxRecDepth 100000 in
theorem weigh_ (id x : Int) (h : QIn S A c B d w q) (h0 : 0 ≤ id) (h1 : id < q.ws.length) : Calls Tryd.prog 30 #[.agg (qc A c B d q), .int .i64 id, .int .i64 x] w fun e w' => ∃ u, e = .returned u ∧ QPost S w (weighA q id x) u w' := by
  have HQ := Aside0.mk h
  clear h
  obtain ⟨⟨ns, rt⟩, cur, v, mn, load, ws⟩ := q
  obtain ⟨k, rfl⟩ : ∃ k : Nat, id = (k : Int) := ⟨id.toNat, by omega⟩
  replace h1 : (k : Int) < (ws.length : Int) := h1
  have HK := Aside0.mk (show k < ws.length by omega)
  clear h0
  show Calls Tryd.prog 30 #[.agg #[.int .i64 rt, .slice A ns.length c, .int .i64 cur, .int .u64 v, .int .u64 mn, .int .i64 load, .slice B ws.length d], .int .i64 (k : Int), .int .i64 x] w _
  go_enter Tryd.func30, Tryd.ntmps30
  go_upto_region 1 with (fail)
  have HX := Aside0.mk ((QB.new w rt A ns.length c cur v mn load B ws.length d).below (below_alloc (Below.refl _ _) (.cells #[.int .i64 0, .slice none 0 0, .int .i64 0, .int .u64 0, .int .u64 0, .int .i64 0, .slice none 0 0] 28)))
  have HZ := Aside0.mk (QB.new (w.alloc (.cells #[.int .i64 rt, .slice A ns.length c, .int .i64 cur, .int .u64 v, .int .u64 mn, .int .i64 load, .slice B ws.length d] 28)) 0 none 0 0 0 0 0 0 none 0 0)
  have HB := Aside0.mk (below_alloc (below_alloc (Below.refl w.heap.size w) (.cells #[.int .i64 rt, .slice A ns.length c, .int .i64 cur, .int .u64 v, .int .u64 mn, .int .i64 load, .slice B ws.length d] 28)) (.cells #[.int .i64 0, .slice none 0 0, .int .i64 0, .int .u64 0, .int .u64 0, .int .i64 0, .slice none 0 0] 28))
  simp only [World.size_alloc] at HZ
  generalize (w.alloc (.cells #[.int .i64 rt, .slice A ns.length c, .int .i64 cur, .int .u64 v, .int .u64 mn, .int .i64 load, .slice B ws.length d] 28)).alloc (.cells #[.int .i64 0, .slice none 0 0, .int .i64 0, .int .u64 0, .int .u64 0, .int .i64 0, .slice none 0 0] 28) = W1 at HX HZ HB ⊢
  have a6 := HX.out.c6
  have HQ1 := Aside0.mk (HQ.out.below HB.out)
  go_upto_region 2 with (go_at_call 57; refine (cloneI B d ws _ HQ1.out.wrC HQ1.out.wl).mono ?_; rintro e w2 ⟨v0, rfl, hR, hb⟩; obtain ⟨gb, cap, rs, rfl, hg1, hn1, hm1, hs1, hA⟩ := IR_arr hR (by have := HK.out; omega); have HA := Aside0.mk hA; have HG := Aside0.mk hg1; have HN := Aside0.mk hn1; have HM := Aside0.mk hm1; have HS := Aside0.mk hs1; have HX2 := Aside0.mk (HX.out.below hb); have HZ2 := Aside0.mk (HZ.out.below hb); have HB2 := Aside0.mk (below_step HB.out hb); clear hR hb hg1 hn1 hm1 hs1 hA a6; have a6 := HX2.out.c6; have f6 := HX2.out.frozen 6)
  have HX3 := Aside0.mk (HX2.out.st6 (some ⟨gb, 0, none⟩) ws.length cap)
  have HZ3 := Aside0.mk (HZ2.out.far (k := w.heap.size) (by omega) 6 (.slice (some ⟨gb, 0, none⟩) ws.length cap))
  have HGN := Aside0.mk (show w.heap.size + 1 < gb by have h1 := HZ.out.lt; have h2 := HG.out; omega)
  have HA3 := Aside0.mk (HA.out.moved (Below.heap_setCell w2 ⟨w.heap.size, 6, none⟩ (.slice (some ⟨gb, 0, none⟩) ws.length cap) gb (by have := HGN.out; show gb ≠ w.heap.size; omega)))
  have HB3 := Aside0.mk (Below.setCell HB2.out (p := ⟨w.heap.size, 6, none⟩) (Nat.le_refl _) (.slice (some ⟨gb, 0, none⟩) ws.length cap))
  clear a6 f6
  generalize w2.setCell ⟨w.heap.size, 6, none⟩ (.slice (some ⟨gb, 0, none⟩) ws.length cap) = W3 at HX3 HZ3 HA3 HB3 ⊢
  have a5 := HX3.out.c5
  have a6 := HX3.out.c6
  have f5 := HX3.out.frozen 5
  have e0 := HA3.out.cell k HK.out
  have hk0 : (0 : Int) ≤ (k : Int) := Int.natCast_nonneg k
  generalize hwk : ws.getD k 0 = wk at e0
  have HWK := Aside0.mk hwk
  clear hwk
  go_region
  have HX4 := Aside0.mk ((HX3.out.st5 (wrap64 (load + wrap64 (x - wk)))).moved (W' := (W3.setCell ⟨w.heap.size, 5, none⟩ (.int .i64 (wrap64 (load + wrap64 (x - wk))))).drew) rfl)
  have HZ4 := Aside0.mk ((HZ3.out.far (k := w.heap.size) (by omega) 5 (.int .i64 (wrap64 (load + wrap64 (x - wk))))).moved (W' := (W3.setCell ⟨w.heap.size, 5, none⟩ (.int .i64 (wrap64 (load + wrap64 (x - wk))))).drew) rfl)
  have HA4 := Aside0.mk (HA3.out.moved (w' := (W3.setCell ⟨w.heap.size, 5, none⟩ (.int .i64 (wrap64 (load + wrap64 (x - wk))))).drew) (Below.heap_setCell W3 ⟨w.heap.size, 5, none⟩ (.int .i64 (wrap64 (load + wrap64 (x - wk)))) gb (by have := HGN.out; show gb ≠ w.heap.size; omega)))
  have HB4 := Aside0.mk (Below.drew (Below.setCell HB3.out (p := ⟨w.heap.size, 5, none⟩) (Nat.le_refl _) (.int .i64 (wrap64 (load + wrap64 (x - wk))))))
  clear a5 a6 f5 e0
  generalize (W3.setCell ⟨w.heap.size, 5, none⟩ (.int .i64 (wrap64 (load + wrap64 (x - wk))))).drew = W4 at HX4 HZ4 HA4 HB4 ⊢
  have a6 := HX4.out.c6
  have e0 := HA4.out.cell k HK.out
  have f0 := HA4.out.frozen k
  go_upto_region 4 with (fail)
  have HX5 := Aside0.mk (HX4.out.far (k := gb) (by have := HGN.out; omega) k (.int .i64 x))
  have HZ5 := Aside0.mk (HZ4.out.far (k := gb) (by have := HGN.out; omega) k (.int .i64 x))
  have HA5 := Aside0.mk (HA4.out.set k HK.out x)
  have HB5 := Aside0.mk (Below.setCell HB4.out (p := ⟨gb, k, none⟩) (by have := HGN.out; show w.heap.size ≤ gb; omega) (.int .i64 x))
  clear a6 e0 f0
  generalize W4.setCell ⟨gb, k, none⟩ (.int .i64 x) = W5 at HX5 HZ5 HA5 HB5 ⊢
  have a0 := HX5.out.c0
  have a1 := HX5.out.c1
  have a2 := HX5.out.c2
  have a3 := HX5.out.c3
  have a4 := HX5.out.c4
  have a5 := HX5.out.c5
  have a6 := HX5.out.c6
  have z0 := HZ5.out.c0
  have z1 := HZ5.out.c1
  have z2 := HZ5.out.c2
  have z3 := HZ5.out.c3
  have z4 := HZ5.out.c4
  have z5 := HZ5.out.c5
  have z6 := HZ5.out.c6
  have f0 := HZ5.out.frozen 0
  have f1 := HZ5.out.frozen 1
  have f2 := HZ5.out.frozen 2
  have f3 := HZ5.out.frozen 3
  have f4 := HZ5.out.frozen 4
  have f5 := HZ5.out.frozen 5
  have f6 := HZ5.out.frozen 6
  go_wp2
  refine bodyPost_ret (results_c1 (cs := #[.int .i64 rt, .slice A ns.length c, .int .i64 cur, .int .u64 v, .int .u64 mn, .int .i64 (wrap64 (load + wrap64 (x - wk))), .slice (some ⟨gb, 0, none⟩) ws.length cap]) rfl _ _ (w.heap.size + 1) 28 (0, 0) _ rfl (set7_out HZ5.out.out rfl _ _ _ _ _ _ _) Tryd.underlying28 rfl (by kernel_rfl)) rfl ?_
  have HBE := set7_below HB5.out (g := w.heap.size + 1) (by omega) (.int .i64 rt) (.slice A ns.length c) (.int .i64 cur) (.int .u64 v) (.int .u64 mn) (.int .i64 (wrap64 (load + wrap64 (x - wk)))) (.slice (some ⟨gb, 0, none⟩) ws.length cap)
  have hA6 : IArr rs (set7 W5 (w.heap.size + 1) (.int .i64 rt) (.slice A ns.length c) (.int .i64 cur) (.int .u64 v) (.int .u64 mn) (.int .i64 (wrap64 (load + wrap64 (x - wk)))) (.slice (some ⟨gb, 0, none⟩) ws.length cap)) gb (ws.set k x) := HA5.out.moved (set7_other (by have := HGN.out; omega) _ _ _ _ _ _ _)
  have hR := arr_IR (base := w.heap.size) (cap := cap) (ok := fun _ => True) hA6 (by have := HGN.out; omega) trivial (by rw [List.length_set]; exact HN.out) HM.out (by rw [List.length_set]; exact HS.out)
  have hq := ((HQ.out.below HBE).weights (w0 := w) hR HQ.out.sl (by rw [List.length_set]; exact HQ.out.wl)).fields (q' := weighA ⟨⟨ns, rt⟩, cur, v, mn, load, ws⟩ (k : Int) x) rfl (by show ws.set ((k : Int)).toNat x = ws.set k x; rw [Int.toNat_natCast])
  refine ⟨_, rfl, A, c, some ⟨gb, 0, none⟩, cap, ?_, hq, HBE⟩
  show _ = Value.agg #[.int .i64 rt, .slice A ns.length c, .int .i64 cur, .int .u64 v, .int .u64 mn, .int .i64 (wrap64 (load + wrap64 (x - ws.getD ((k : Int)).toNat 0))), .slice (some ⟨gb, 0, none⟩) (ws.set ((k : Int)).toNat x).length cap]
  rw [List.length_set, Int.toNat_natCast, HWK.out]
end Go.Proofs.YtnkhnnojdlgfjaaDoor.Qw
end
section
namespace Go.Proofs.YtnkhnnojdlgfjaaDoor.WideMath
open Go.RowKit Go
theorem wu (n : Int) : IntKind.u64.wrap n = n % 18446744073709551616 := by
  unfold IntKind.wrap; simp [IntKind.signed, IntKind.bits]
theorem wid {n : Int} (h0 : 0 ≤ n) (h1 : n < 18446744073709551616) : IntKind.u64.wrap n = n := by rw [wu]; omega
theorem wids (n : Int) (h₀ : 0 ≤ n) (h₁ : n < 2 ^ 64) : IntKind.u64.wrap n = n := by rw [wu]; omega
theorem and1 (x : Int) (h0 : 0 ≤ x) (h1 : x < 18446744073709551616) : bits .and .u64 x 1 = x % 2 := bits_mask .u64 64 (by decide) wids 1 (by decide) x h0 h1
theorem and32 (x : Int) (h0 : 0 ≤ x) (h1 : x < 18446744073709551616) : bits .and .u64 x 4294967295 = x % 4294967296 := bits_mask .u64 64 (by decide) wids 32 (by decide) x h0 h1
theorem or1 (x y : Int) (h0 : 0 ≤ x) (h2 : x % 2 = 0) (h1 : x < 18446744073709551616) (hy0 : 0 ≤ y) (hy : y ≤ 1) : bits .or .u64 x y = x + y :=
  bits_join .u64 64 (by decide) wids 1 x y h0 (by simpa using h2) h1 hy0 (by simp; omega) (by simp; omega)
theorem or32 (x y : Int) (h0 : 0 ≤ x) (h2 : x % 4294967296 = 0) (h1 : x < 18446744073709551616) (hy0 : 0 ≤ y) (hy : y < 4294967296) : bits .or .u64 x y = x + y :=
  bits_join .u64 64 (by decide) wids 32 x y h0 (by simpa using h2) h1 hy0 (by simpa using hy) (by simp; omega)
theorem mul_bd {x q : Int} (hx0 : 0 ≤ x) (hx : x ≤ 4294967295) (hq0 : 0 ≤ q) (hq : q ≤ 4294967295) : 0 ≤ x * q ∧ x * q ≤ 18446744065119617025 := by
  refine ⟨Int.mul_nonneg hx0 hq0, ?_⟩
  have h := Int.mul_le_mul hx hq hq0 (by decide : (0 : Int) ≤ 4294967295)
  simpa using h
theorem mul_parts (x y p q : Int) :
    (x * 4294967296 + y) * (p * 4294967296 + q) = (x * p) * 18446744073709551616 + (x * q + y * p) * 4294967296 + y * q := by
  have e1 : x * 4294967296 * (p * 4294967296) = x * p * 18446744073709551616 := by
    rw [Int.mul_assoc, Int.mul_left_comm 4294967296 p 4294967296, ← Int.mul_assoc]; rfl
  have e2 : x * 4294967296 * q = x * q * 4294967296 := Int.mul_right_comm _ _ _
  have e3 : y * (p * 4294967296) = y * p * 4294967296 := (Int.mul_assoc _ _ _).symm
  rw [Int.add_mul, Int.mul_add, Int.mul_add, e1, e2, e3, Int.add_mul]; omega
theorem step_yes {n b d : Int} (hd : 0 < d) (h0 : 0 ≤ b) (h1 : b ≤ 1) (h : d ≤ 2 * (n % d) + b) : (2 * n + b) / d = 2 * (n / d) + 1 ∧ (2 * n + b) % d = 2 * (n % d) + b - d := by
  have e := Int.mul_ediv_add_emod n d
  have l := Int.emod_lt_of_pos n hd
  have g := Int.emod_nonneg n (show d ≠ 0 by omega)
  refine (Int.ediv_emod_unique hd).2 ⟨?_, by omega, by omega⟩
  have e2 : d * (2 * (n / d) + 1) = 2 * (d * (n / d)) + d := by rw [Int.mul_add, Int.mul_one, Int.mul_left_comm]
  rw [e2]; omega
theorem step_no {n b d : Int} (hd : 0 < d) (h0 : 0 ≤ b) (h : 2 * (n % d) + b < d) : (2 * n + b) / d = 2 * (n / d) ∧ (2 * n + b) % d = 2 * (n % d) + b := by
  have e := Int.mul_ediv_add_emod n d
  have g := Int.emod_nonneg n (show d ≠ 0 by omega)
  refine (Int.ediv_emod_unique hd).2 ⟨?_, by omega, by omega⟩
  have e2 : d * (2 * (n / d)) = 2 * (d * (n / d)) := Int.mul_left_comm _ _ _
  rw [e2]; omega
abbrev B1 := { x : Int // 0 ≤ x ∧ x ≤ 1 }
def num (h : Int) : List B1 → Int := List.foldl (fun n x => 2 * n + x.1) h
theorem num_snoc (h : Int) (pre : List B1) (x : B1) : num h (pre ++ [x]) = 2 * num h pre + x.1 := by simp [num]
theorem num_lo (h : Int) (h0 : 0 ≤ h) (pre : List B1) : 0 ≤ num h pre := by
  induction pre generalizing h with
  | nil => exact h0
  | cons x t ih => exact ih (2 * h + x.1) (by have := x.2; omega)
theorem num_hi (h : Int) (pre : List B1) : num h pre + 1 ≤ (h + 1) * 2 ^ pre.length := by
  induction pre generalizing h with
  | nil => simp [num]
  | cons x t ih =>
    refine Int.le_trans (ih (2 * h + x.1)) ?_
    rw [List.length_cons, Int.pow_succ', ← Int.mul_assoc]
    exact Int.mul_le_mul_of_nonneg_right (by have := x.2; omega) (Int.pow_nonneg (by decide))
theorem quot_hi {h d : Int} (hd : 0 < d) (hh : h < d) (pre : List B1) (hl : pre.length < 64) : num h pre / d < 9223372036854775808 := by
  have a := num_hi h pre
  have b : (h + 1) * 2 ^ pre.length ≤ d * 9223372036854775808 := by
    refine Int.le_trans (Int.mul_le_mul_of_nonneg_right (show h + 1 ≤ d by omega) (Int.pow_nonneg (by decide))) (Int.mul_le_mul_of_nonneg_left ?_ (by omega))
    have : (2 : Int) ^ pre.length ≤ 2 ^ 63 := by exact_mod_cast Nat.pow_le_pow_right (by decide : 0 < 2) (show pre.length ≤ 63 by omega)
    exact this
  have c : num h pre < 9223372036854775808 * d := by rw [Int.mul_comm]; omega
  exact Int.ediv_lt_of_lt_mul hd c
def bit (l : Int) (k : Nat) : B1 := ⟨l / 2 ^ (63 - k) % 2, by omega⟩
def bitsOf (l : Int) (k : Nat) : List B1 := (List.range k).map (bit l)
theorem bitsOf_succ (l : Int) (k : Nat) : bitsOf l (k + 1) = bitsOf l k ++ [bit l k] := by simp [bitsOf, List.range_succ]
theorem bitsOf_length (l : Int) (k : Nat) : (bitsOf l k).length = k := by simp [bitsOf]
theorem num_bits (h l : Int) (h0 : 0 ≤ l) (h1 : l < 18446744073709551616) (k : Nat) (hk : k ≤ 64) : num h (bitsOf l k) = h * 2 ^ k + l / 2 ^ (64 - k) := by
  induction k with
  | zero => simp [bitsOf, num]; omega
  | succ k ih =>
    rw [bitsOf_succ, num_snoc, ih (by omega)]
    have e : 64 - k = (63 - k) + 1 := by omega
    have e' : 64 - (k + 1) = 63 - k := by omega
    have hp : (0 : Int) < 2 ^ (63 - k) := Int.pow_pos (by decide)
    show 2 * (h * 2 ^ k + l / 2 ^ (64 - k)) + l / 2 ^ (63 - k) % 2 = h * 2 ^ (k + 1) + l / 2 ^ (64 - (k + 1))
    rw [e, e', Int.pow_succ 2 (63 - k), ← Int.ediv_ediv_of_nonneg (Int.le_of_lt hp), Int.pow_succ 2 k, Int.mul_add, ← Int.mul_assoc h, Int.mul_comm (h * 2 ^ k) 2]
    omega
theorem num_all (h l : Int) (h0 : 0 ≤ l) (h1 : l < 18446744073709551616) : num h (bitsOf l 64) = h * 18446744073709551616 + l := by
  rw [num_bits h l h0 h1 64 (Nat.le_refl _)]; simp
end Go.Proofs.YtnkhnnojdlgfjaaDoor.WideMath
end
