/- slices.MinFunc, key.First, slices.IndexFunc, key.find at keys. No condition but lengths. Written by hand. -/
import Derived.Test.YtahnkldkbbkflaaKLib2
namespace Go.Proofs.Ytahnkldkbbkflaa.Srt
open Go.RowKit Go Go.Proofs Go.Proofs.Ytahnkldkbbkflaa Go.Proofs.Ytahnkldkbbkflaa.Ky Go.Proofs.YtahnkldkbbkflaaW.PrintWords Go.Proofs.YtahnkldkbbkflaaW.PrintLast Go.Proofs.YtahnkldkbbkflaaW.PrintMore
set_option linter.unusedVariables false
set_option linter.unusedSimpArgs false
def minTo (cv : K → K → Int) (l : List K) : Nat → K
  | 0 => gt l 0
  | i + 1 => if cv (gt l (i + 1)) (minTo cv l i) < 0 then gt l (i + 1) else minTo cv l i
theorem cells_below {w w1 : World} {ad : Addr} {v : Value} (h : w.cell? ad = some v) (hb : Below w.heap.size w w1) : w1.cell? ad = some v := by
  rw [hb.cell (World.block_lt_of_cell? w _ h)]; exact h
theorem results_c1 {P : Program} {fn : Func} {p : Tmp} {ty : TypeId} (h : fn.results = #[.cell p ty]) (tmps : Array Value) (w : World) (g : Nat) (t : TypeId) (cs : Array Value) (fr : Nat × Nat) (d : TypeDesc)
    (hp : tmps.getD p undef = .pointer (some ⟨g, 0, none⟩)) (hg : w.heap[g]? = some (.cells cs t fr))
    (hu : P.underlying ty = some d) (hd : (match d with | .struct _ | .array _ _ => true | _ => false) = true) (hi : (P.info? ty).map (·.size) = some cs.size) :
    (results fn tmps).run P w = .ok (.agg cs) w := by
  have hp' : tmps[p]?.getD undef = .pointer (some ⟨g, 0, none⟩) := by simpa using hp
  simp [results, h, hp', asAddr, run_loadVar_row w g t ty cs fr d hg hu hd hi]
theorem set2 {w : World} {g : Nat} {cs : Array Value} (h : w.heap[g]? = some (.cells cs 26 (0, 0))) (hs : cs.size = 2) (u v : Value) : ((w.setCell ⟨g, 0, none⟩ u).setCell ⟨g, 1, none⟩ v).heap[g]? = some (.cells #[u, v] 26 (0, 0)) := by
  rw [blk_set (blk_set h 0 u) 1 v]
  obtain ⟨l⟩ := cs
  match l, hs with
  | [a, b], _ => rfl
theorem set2_other {w : World} {g k : Nat} (hne : k ≠ g) (u v : Value) : ((w.setCell ⟨g, 0, none⟩ u).setCell ⟨g, 1, none⟩ v).heap[k]? = w.heap[k]? := by
  rw [Below.heap_setCell _ _ _ _ (by simpa using hne), Below.heap_setCell _ _ _ _ (by simpa using hne)]
section
variable {mn : Int} {cv : K → K → Int} (hc : Cmp26 mn cv)
include hc
set_option maxHeartbeats 4000000 in
set_option maxRecDepth 100000 in
theorem minFunc (B : Nat) (A0 : Option Addr) (c0 : Nat) (l : List K) (w : World) (hr : kp.C w A0 l.length l) (hl : l.length ≤ 1000000) (h0 : 0 < l.length) (hB : w.cell? ⟨B, 0, none⟩ = some (.int .u64 mn)) :
    Calls Try.prog 24 #[.slice A0 l.length c0, .func (.func 25) #[] #[.pointer (some ⟨B, 0, none⟩)]] w fun e w' => e = .returned (.agg #[.int .u64 (minTo cv l (l.length - 1)).1, .int .i64 (minTo cv l (l.length - 1)).2]) ∧ Below w.heap.size w w' := by
  obtain ⟨ad, rfl, c1, c2⟩ := C_at hr 0 h0
  have HR := Aside0.mk hr
  have H := Aside0.mk hc
  have HBX := Aside0.mk hB
  have HB1 := Aside0.mk (below_alloc (below_alloc (Below.refl w.heap.size w) (.cells #[.int .u64 0, .int .i64 0] 26)) (.cells #[.int .u64 (gt l 0).1, .int .i64 (gt l 0).2] 26))
  have hz : ((0 : Nat) : Int) < (l.length : Int) := by omega
  have hz1 : (1 : Int) ≤ (l.length : Int) := by omega
  have hz2 : ¬ ((l.length : Int) < 1) := by omega
  have hz3 : decide ((l.length : Int) < 1) = false := decide_eq_false hz2
  clear hr hc hB
  generalize hx : gt l 0 = x at c1 c2 HB1
  have HX := Aside0.mk hx
  clear hx
  simp only [Nat.zero_mul, Addr.add_zero'] at c1 c2
  have d1 := cells_below c1 (below_alloc (Below.refl w.heap.size w) (.cells #[.int .u64 0, .int .i64 0] 26))
  have d2 := cells_below c2 (below_alloc (Below.refl w.heap.size w) (.cells #[.int .u64 0, .int .i64 0] 26))
  have HR0 := Aside0.mk (blk_below (blk_new w (.cells #[.int .u64 0, .int .i64 0] 26)) (below_alloc (Below.refl _ _) (.cells #[.int .u64 x.1, .int .i64 x.2] 26)))
  have HM0 := Aside0.mk (blk_new (w.alloc (.cells #[.int .u64 0, .int .i64 0] 26)) (.cells #[.int .u64 x.1, .int .i64 x.2] 26))
  clear c1 c2
  go_enter Try.func24, Try.ntmps24
  go_wp2
  generalize hW0 : (w.alloc (.cells #[.int .u64 0, .int .i64 0] 26)).alloc (.cells #[.int .u64 x.1, .int .i64 x.2] 26) = W0 at HB1 HR0 HM0 ⊢
  have HM0 : Aside0 (W0.heap[w.heap.size + 1]? = some (.cells #[.int .u64 x.1, .int .i64 x.2] 26 (0, 0))) := ⟨by have := HM0.out; simpa using this⟩
  clear hW0 d1 d2
  go_loopw [6] (fun i wr => Sl1 (fun i wr => 1 ≤ i ∧ i ≤ l.length ∧ Aside0 (Below w.heap.size w wr) ∧ Aside0 (wr.heap[w.heap.size]? = some (.cells #[.int .u64 0, .int .i64 0] 26 (0, 0))) ∧ Aside0 (wr.heap[w.heap.size + 1]? = some (.cells #[.int .u64 (minTo cv l (i - 1)).1, .int .i64 (minTo cv l (i - 1)).2] 26 (0, 0)))) i wr) (fun i _ => l.length - (intOf i).toNat)
  case atStart => exact ⟨1, rfl, Nat.le_refl _, h0, HB1, HR0, ⟨by rw [show minTo cv l (1 - 1) = x from HX.out]; exact HM0.out⟩⟩
  case round =>
    clear HB1 HR0 HM0
    obtain ⟨i, rfl, h1, h2, HB, HR0, HM⟩ := hrel.out
    by_cases hlt : i < l.length
    · obtain ⟨ad2, e2, c1, c2⟩ := C_at (Kd.C_below HR.out HB.out) i hlt
      obtain rfl := Option.some.inj e2
      have hnx : minTo cv l i = if cv (gt l i) (minTo cv l (i - 1)) < 0 then gt l i else minTo cv l (i - 1) := by
        obtain ⟨j, rfl⟩ : ∃ j, i = j + 1 := ⟨i - 1, by omega⟩
        rfl
      generalize hy : minTo cv l (i - 1) = y at HM hnx
      generalize hx2 : gt l i = x2 at c1 c2 hnx
      have HX2 := Aside0.mk hx2
      have HNX := Aside0.mk hnx
      have c3 := (blk_cell HM.out 0).trans rfl
      have c4 := (blk_cell HM.out 1).trans rfl
      have n1 : (i : Int) < (l.length : Int) := by omega
      have HBx := Aside0.mk (cells_below HBX.out HB.out)
      clear hy hx2 hnx e2
      go_wp2
      go_still_tail 6, (by kernel_rfl)
      change wpList _ _ _ _ _ wr.drew
      clear c1 c2 c3 c4
      have HB1 := Aside0.mk (Below.drew HB.out)
      have HR1 := Aside0.mk (blk_drewN HR0.out 1)
      have HM1 := Aside0.mk (blk_drewN HM.out 1)
      have HX1 : Aside0 (wr.drew.cell? ⟨B, 0, none⟩ = some (.int .u64 mn)) := ⟨HBx.out⟩
      change Aside0 (wr.drew.heap[_]? = _) at HR1 HM1
      clear HB HR0 HM HBx
      generalize wr.drew = w2 at HB1 HR1 HM1 HX1 ⊢
      by_cases hcv : cv x2 y < 0
      · have g2 : decide (cv x2 y < 0) = true := decide_eq_true hcv
        have HCV := Aside0.mk hcv
        clear hcv
        go_wp2_with (go_at_call 25; (with_reducible refine (cmp_25 H.out B _ x2 y HX1.out).mono ?_); rintro e w3 ⟨rfl, hb⟩; have HB2 := Aside0.mk (below_step HB1.out hb); have HR2 := Aside0.mk (blk_below HR1.out hb); have HM2 := Aside0.mk (blk_below HM1.out hb); clear hb; obtain ⟨ad3, e3, c1, c2⟩ := C_at (Kd.C_below HR.out HB2.out) i hlt; obtain rfl := Option.some.inj e3; rw [HX2.out] at c1 c2; clear e3; have c3 := (blk_cell HM2.out 0).trans rfl; have c4 := (blk_cell HM2.out 1).trans rfl; have f3 := blk_frozen HM2.out 0; have f4 := blk_frozen HM2.out 1)
        refine ⟨⟨i + 1, by simp, by omega, by omega, ⟨Below.setCell (Below.setCell HB2.out (p := ⟨w.heap.size + 1, 0, none⟩) (by simp) _) (p := ⟨w.heap.size + 1, 1, none⟩) (by simp) _⟩, ⟨?_⟩, ⟨?_⟩⟩, ?_⟩
        · rw [set2_other (by omega)]; exact HR2.out
        · rw [show i + 1 - 1 = i by omega, HNX.out, if_pos HCV.out]
          exact set2 HM2.out rfl _ _
        · show l.length - ((i : Int) + 1).toNat < l.length - (i : Int).toNat
          omega
      · have g2 : decide (cv x2 y < 0) = false := decide_eq_false hcv
        have HCV := Aside0.mk hcv
        clear hcv
        go_wp2_with (go_at_call 25; (with_reducible refine (cmp_25 H.out B _ x2 y HX1.out).mono ?_); rintro e w3 ⟨rfl, hb⟩; have HB2 := Aside0.mk (below_step HB1.out hb); have HR2 := Aside0.mk (blk_below HR1.out hb); have HM2 := Aside0.mk (blk_below HM1.out hb); clear hb)
        refine ⟨⟨i + 1, by simp, by omega, by omega, HB2, HR2, ⟨?_⟩⟩, ?_⟩
        · rw [show i + 1 - 1 = i by omega, HNX.out, if_neg (by have := HCV.out; omega)]
          exact HM2.out
        · show l.length - ((i : Int) + 1).toNat < l.length - (i : Int).toNat
          omega
    · obtain rfl : i = l.length := by omega
      have c3 := (blk_cell HM.out 0).trans rfl
      have c4 := (blk_cell HM.out 1).trans rfl
      have f3 := blk_frozen HR0.out 0
      have f4 := blk_frozen HR0.out 1
      have c5 := (blk_cell HR0.out 0).trans rfl
      have c6 := (blk_cell HR0.out 1).trans rfl
      go_wp2
      refine bodyPost_ret (results_c1 rfl _ _ w.heap.size 26 _ (0, 0) _ rfl (set2 HR0.out rfl _ _) Try.underlying26 rfl (by kernel_rfl)) rfl ?_
      exact ⟨rfl, Below.setCell (Below.setCell HB.out (p := ⟨w.heap.size, 0, none⟩) (Nat.le_refl _) _) (p := ⟨w.heap.size, 1, none⟩) (Nat.le_refl _) _⟩
set_option maxHeartbeats 4000000 in
set_option maxRecDepth 100000 in
theorem keyFirst (A0 : Option Addr) (c0 : Nat) (l : List K) (w : World) (hr : kp.C w A0 l.length l) (hl : l.length ≤ 1000000) :
    Calls Try.prog 10 #[.int .u64 mn, .slice A0 l.length c0] w fun e w' => e = .returned (.tuple #[.agg #[.int .u64 (if l.length = 0 then (0, 0) else minTo cv l (l.length - 1)).1, .int .i64 (if l.length = 0 then (0, 0) else minTo cv l (l.length - 1)).2], .bool (decide (0 < l.length))]) ∧ Below w.heap.size w w' := by
  have HB0 := Aside0.mk (below_alloc (below_alloc (Below.refl w.heap.size w) (.cells #[.int .u64 mn] 22)) (.cells #[.int .u64 0, .int .i64 0] 26))
  have HR := Aside0.mk (Kd.C_below hr HB0.out)
  have HZ : Aside0 (((w.alloc (.cells #[.int .u64 mn] 22)).alloc (.cells #[.int .u64 0, .int .i64 0] 26)).heap[w.heap.size + 1]? = some (.cells #[.int .u64 0, .int .i64 0] 26 (0, 0))) := ⟨by have := blk_new (w.alloc (.cells #[.int .u64 mn] 22)) (.cells #[.int .u64 0, .int .i64 0] 26); simpa using this⟩
  have HX := Aside0.mk (blk_below (blk_new w (.cells #[.int .u64 mn] 22)) (below_alloc (Below.refl _ _) (.cells #[.int .u64 0, .int .i64 0] 26)))
  have H := Aside0.mk hc
  clear hr hc
  rcases Nat.eq_zero_or_pos l.length with h0 | h0
  · obtain rfl := List.eq_nil_of_length_eq_zero h0
    have c3 := (blk_cell HZ.out 0).trans rfl
    have c4 := (blk_cell HZ.out 1).trans rfl
    have f3 := blk_frozen HZ.out 0
    have f4 := blk_frozen HZ.out 1
    clear HR h0
    go_enter Try.func10, Try.ntmps10
    go_wp2
    refine bodyPost_ret (results_ct rfl _ _ (w.heap.size + 1) 26 _ (0, 0) _ rfl HZ.out Try.underlying26 rfl (by kernel_rfl)) rfl ?_
    exact ⟨rfl, HB0.out⟩
  · rw [if_neg (by omega), decide_eq_true h0]
    have hz : ((l.length : Int) == 0) = false := beq_eq_false_iff_ne.2 (by omega)
    go_enter Try.func10, Try.ntmps10
    go_wp2_with (go_at_call 24; (with_reducible refine (minFunc H.out _ A0 c0 l _ HR.out hl h0 ((blk_cell HX.out 0).trans rfl)).mono ?_); rintro e w3 ⟨rfl, hb⟩; have HB1 := Aside0.mk (below_step HB0.out hb); have HZ1 := Aside0.mk (blk_below HZ.out hb); clear hb; have c3 := (blk_cell HZ1.out 0).trans rfl; have c4 := (blk_cell HZ1.out 1).trans rfl; have f3 := blk_frozen HZ1.out 0; have f4 := blk_frozen HZ1.out 1)
    refine bodyPost_ret (results_ct rfl _ _ (w.heap.size + 1) 26 _ (0, 0) _ rfl (set2 HZ1.out rfl _ _) Try.underlying26 rfl (by kernel_rfl)) rfl ?_
    exact ⟨rfl, Below.setCell (Below.setCell HB1.out (p := ⟨w.heap.size + 1, 0, none⟩) (by simp) _) (p := ⟨w.heap.size + 1, 1, none⟩) (by simp) _⟩
end
def idxI (p : K → Bool) (l : List K) : Int := if l.findIdx p < l.length then (l.findIdx p : Int) else -1
theorem idxI_yes {p : K → Bool} {l : List K} (i : Nat) (h : i < l.length) (h1 : p (gt l i) = true) (h2 : ∀ t, t < i → p (gt l t) = false) : idxI p l = (i : Int) := by
  have e : l.findIdx p = i := (List.findIdx_eq h).2 ⟨by rw [← gt_of l i h]; exact h1, fun j hj => by rw [← gt_of l j (by omega)]; exact h2 j hj⟩
  unfold idxI
  rw [e, if_pos h]
theorem idxI_no {p : K → Bool} {l : List K} (h : ∀ t, t < l.length → p (gt l t) = false) : idxI p l = -1 := by
  have e : ¬ l.findIdx p < l.length := by
    intro hlt
    have h1 := List.findIdx_getElem (p := p) (w := hlt)
    rw [← gt_of l _ hlt, h _ hlt] at h1
    cases h1
  unfold idxI
  rw [if_neg e]
set_option maxHeartbeats 4000000 in
set_option maxRecDepth 100000 in
theorem indexFunc42 (p : K → Bool) (A0 : Option Addr) (c0 : Nat) (l : List K) (w : World) (B : Nat) (hr : kp.C w A0 l.length l) (hl : l.length ≤ 1000000)
    (hp : ∀ (W : World) (x : K), Below w.heap.size w W → Calls Try.prog 42 #[.agg #[.int .u64 x.1, .int .i64 x.2], .pointer (some ⟨B, 0, none⟩)] W fun e w' => e = .returned (.bool (p x)) ∧ Below W.heap.size W w') :
    Calls Try.prog 33 #[.slice A0 l.length c0, .func (.func 42) #[] #[.pointer (some ⟨B, 0, none⟩)]] w fun e w' => e = .returned (.int .i64 (idxI p l)) ∧ Below w.heap.size w w' := by
  have HR := Aside0.mk hr
  have HP := Aside0.mk hp
  clear hr hp
  go_enter Try.func33, Try.ntmps33
  go_wp2
  go_loopw [8] (fun i wr => Sl1 (fun i wr => i ≤ l.length ∧ Aside0 (Below w.heap.size w wr) ∧ Aside0 (∀ t, t < i → p (gt l t) = false)) i wr) (fun i _ => l.length - (intOf i).toNat)
  case atStart => exact ⟨0, by simp, Nat.zero_le _, ⟨Below.refl _ _⟩, ⟨fun t ht => by omega⟩⟩
  case round =>
    obtain ⟨i, rfl, h1, HB, HN⟩ := hrel.out
    by_cases hlt : i < l.length
    · obtain ⟨ad2, e2, c1, c2⟩ := C_at (Kd.C_below HR.out HB.out) i hlt
      subst e2
      generalize hx : gt l i = x at c1 c2
      have HX := Aside0.mk hx
      have n1 : (i : Int) < (l.length : Int) := by omega
      clear hx
      cases hpx : p x with
      | true =>
        have HPX := Aside0.mk hpx
        clear hpx
        go_wp2_with (go_at_call 42; (with_reducible refine (HP.out _ x HB.out).mono ?_); rintro e w3 ⟨rfl, hb⟩; have HB2 := Aside0.mk (below_step HB.out hb); clear hb; rw [HPX.out])
        go_ret
        exact ⟨by rw [idxI_yes i hlt (by rw [HX.out]; exact HPX.out) HN.out]; rfl, HB2.out⟩
      | false =>
        have HPX := Aside0.mk hpx
        clear hpx
        go_wp2_with (go_at_call 42; (with_reducible refine (HP.out _ x HB.out).mono ?_); rintro e w3 ⟨rfl, hb⟩; have HB2 := Aside0.mk (below_step HB.out hb); clear hb; rw [HPX.out])
        refine ⟨⟨i + 1, by simp, by omega, HB2, ⟨fun t ht => ?_⟩⟩, ?_⟩
        · by_cases e : t = i
          · subst e; rw [HX.out]; exact HPX.out
          · exact HN.out t (by omega)
        · show l.length - ((i : Int) + 1).toNat < l.length - (i : Int).toNat
          omega
    · obtain rfl : i = l.length := by omega
      go_wp2
      go_ret
      exact ⟨by rw [idxI_no HN.out]; rfl, HB.out⟩
set_option maxHeartbeats 4000000 in
set_option maxRecDepth 100000 in
theorem indexFunc34 (p : K → Bool) (A0 : Option Addr) (c0 : Nat) (l : List K) (w : World) (B D : Nat) (hr : kp.C w A0 l.length l) (hl : l.length ≤ 1000000)
    (hp : ∀ (W : World) (x : K), Below w.heap.size w W → Calls Try.prog 34 #[.agg #[.int .u64 x.1, .int .i64 x.2], .pointer (some ⟨B, 0, none⟩), .pointer (some ⟨D, 0, none⟩)] W fun e w' => e = .returned (.bool (p x)) ∧ Below W.heap.size W w') :
    Calls Try.prog 33 #[.slice A0 l.length c0, .func (.func 34) #[] #[.pointer (some ⟨B, 0, none⟩), .pointer (some ⟨D, 0, none⟩)]] w fun e w' => e = .returned (.int .i64 (idxI p l)) ∧ Below w.heap.size w w' := by
  have HR := Aside0.mk hr
  have HP := Aside0.mk hp
  clear hr hp
  go_enter Try.func33, Try.ntmps33
  go_wp2
  go_loopw [8] (fun i wr => Sl1 (fun i wr => i ≤ l.length ∧ Aside0 (Below w.heap.size w wr) ∧ Aside0 (∀ t, t < i → p (gt l t) = false)) i wr) (fun i _ => l.length - (intOf i).toNat)
  case atStart => exact ⟨0, by simp, Nat.zero_le _, ⟨Below.refl _ _⟩, ⟨fun t ht => by omega⟩⟩
  case round =>
    obtain ⟨i, rfl, h1, HB, HN⟩ := hrel.out
    by_cases hlt : i < l.length
    · obtain ⟨ad2, e2, c1, c2⟩ := C_at (Kd.C_below HR.out HB.out) i hlt
      subst e2
      generalize hx : gt l i = x at c1 c2
      have HX := Aside0.mk hx
      have n1 : (i : Int) < (l.length : Int) := by omega
      clear hx
      cases hpx : p x with
      | true =>
        have HPX := Aside0.mk hpx
        clear hpx
        go_wp2_with (go_at_call 34; (with_reducible refine (HP.out _ x HB.out).mono ?_); rintro e w3 ⟨rfl, hb⟩; have HB2 := Aside0.mk (below_step HB.out hb); clear hb; rw [HPX.out])
        go_ret
        exact ⟨by rw [idxI_yes i hlt (by rw [HX.out]; exact HPX.out) HN.out]; rfl, HB2.out⟩
      | false =>
        have HPX := Aside0.mk hpx
        clear hpx
        go_wp2_with (go_at_call 34; (with_reducible refine (HP.out _ x HB.out).mono ?_); rintro e w3 ⟨rfl, hb⟩; have HB2 := Aside0.mk (below_step HB.out hb); clear hb; rw [HPX.out])
        refine ⟨⟨i + 1, by simp, by omega, HB2, ⟨fun t ht => ?_⟩⟩, ?_⟩
        · by_cases e : t = i
          · subst e; rw [HX.out]; exact HPX.out
          · exact HN.out t (by omega)
        · show l.length - ((i : Int) + 1).toNat < l.length - (i : Int).toNat
          omega
    · obtain rfl : i = l.length := by omega
      go_wp2
      go_ret
      exact ⟨by rw [idxI_no HN.out]; rfl, HB.out⟩
set_option maxHeartbeats 4000000 in
set_option maxRecDepth 100000 in
theorem keyFind (id : Int) (A0 : Option Addr) (c0 : Nat) (l : List K) (w : World) (hr : kp.C w A0 l.length l) (hl : l.length ≤ 1000000) :
    Calls Try.prog 32 #[.slice A0 l.length c0, .int .i64 id] w fun e w' => e = .returned (.int .i64 (idxI (fun x => x.2 == id) l)) ∧ Below w.heap.size w w' := by
  have HB0 := Aside0.mk (below_alloc (Below.refl w.heap.size w) (.cells #[.int .i64 id] 3))
  have HR := Aside0.mk (Kd.C_below hr HB0.out)
  have HX := Aside0.mk (blk_new w (.cells #[.int .i64 id] 3))
  have HP : Aside0 (∀ (W : World) (x : K), Below (w.alloc (.cells #[.int .i64 id] 3)).heap.size (w.alloc (.cells #[.int .i64 id] 3)) W → Calls Try.prog 42 #[.agg #[.int .u64 x.1, .int .i64 x.2], .pointer (some ⟨w.heap.size, 0, none⟩)] W fun e w' => e = .returned (.bool ((fun (x : K) => x.2 == id) x)) ∧ Below W.heap.size W w') :=
    ⟨fun W x hb => is_42 w.heap.size W id x ((blk_cell (blk_below HX.out hb) 0).trans rfl)⟩
  clear hr
  generalize hp : (fun (x : K) => x.2 == id) = p at HP ⊢
  clear hp
  go_enter Try.func32, Try.ntmps32
  go_wp2_with (go_at_call 33; (with_reducible refine (indexFunc42 p A0 c0 l _ w.heap.size HR.out hl HP.out).mono ?_); rintro e w3 ⟨rfl, hb⟩; have HB1 := Aside0.mk (below_step HB0.out hb); clear hb)
  go_ret
  exact ⟨rfl, HB1.out⟩
end Go.Proofs.Ytahnkldkbbkflaa.Srt
