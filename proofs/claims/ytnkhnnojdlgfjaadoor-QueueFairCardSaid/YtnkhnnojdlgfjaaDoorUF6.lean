/- Parts of the proof, joined: Tm2. -/
import Derived.Test.YtnkhnnojdlgfjaaDoorUF5
namespace Go.Proofs.YtnkhnnojdlgfjaaDoor.Tm
open Go.RowKit Go Go.Proofs Go.Proofs.YtnkhnnojdlgfjaaDoor Go.Proofs.YtnkhnnojdlgfjaaDoor.Tr Go.Proofs.YtnkhnnojdlgfjaaDoorW.PrintWords Go.Proofs.YtnkhnnojdlgfjaaDoorW.PrintLast Go.Proofs.YtnkhnnojdlgfjaaDoorW.PrintMore
set_option linter.unusedVariables false
set_option linter.unusedSimpArgs false
structure Gs (g b : Nat) (w w' : World) : Prop where
  os : w'.os = w.os
  tape : w'.tape = w.tape
  output : w'.output = w.output
  size : w.heap.size ≤ w'.heap.size
  block : ∀ i, i < w.heap.size → i ≠ g → i ≠ b → w'.heap[i]? = w.heap[i]?
section
variable {g b : Nat} {w w1 w2 : World}
theorem Gs.refl (g b : Nat) (w : World) : Gs g b w w := ⟨rfl, rfl, rfl, Nat.le_refl _, fun _ _ _ _ => rfl⟩
theorem Gs.trans (h : Gs g b w w1) (k : Gs g b w1 w2) : Gs g b w w2 :=
  ⟨k.os.trans h.os, k.tape.trans h.tape, k.output.trans h.output, Nat.le_trans h.size k.size, fun i hi h1 h2 => (k.block i (Nat.lt_of_lt_of_le hi h.size) h1 h2).trans (h.block i hi h1 h2)⟩
theorem Gs.setG (h : Gs g b w w1) (i : Nat) (u : Value) : Gs g b w (w1.setCell ⟨g, i, none⟩ u) :=
  ⟨h.os, h.tape, h.output, by simp [World.setCell]; exact h.size, fun k hk h1 h2 => (Below.heap_setCell w1 ⟨g, i, none⟩ u k (fun e => h1 (by rw [e]))).trans (h.block k hk h1 h2)⟩
theorem Gs.setB (h : Gs g b w w1) (i : Nat) (u : Value) : Gs g b w (w1.setCell ⟨b, i, none⟩ u) :=
  ⟨h.os, h.tape, h.output, by simp [World.setCell]; exact h.size, fun k hk h1 h2 => (Below.heap_setCell w1 ⟨b, i, none⟩ u k (fun e => h2 (by rw [e]))).trans (h.block k hk h1 h2)⟩
theorem Gs.drew (h : Gs g b w w1) : Gs g b w w1.drew := ⟨h.os, h.tape, h.output, h.size, h.block⟩
theorem Gs.drewN (h : Gs g b w w1) (n : Nat) : Gs g b w (w1.drewN n) := ⟨h.os, h.tape, h.output, h.size, h.block⟩
theorem Gs.below (h : Gs g b w w1) (k : Below w1.heap.size w1 w2) : Gs g b w w2 :=
  ⟨k.os.trans h.os, k.tape.trans h.tape, k.output.trans h.output, Nat.le_trans h.size k.size, fun i hi h1 h2 => (k.block i (Nat.lt_of_lt_of_le hi h.size)).trans (h.block i hi h1 h2)⟩
theorem Gs.alloc (h : Gs g b w w1) (o : Obj) : Gs g b w (w1.alloc o) := h.below (below_alloc (Below.refl _ _) o)
theorem Gs.cell (h : Gs g b w w1) {ad : Addr} {v : Value} (h1 : ad.block ≠ g) (h2 : ad.block ≠ b) (hc : w.cell? ad = some v) : w1.cell? ad = some v := by
  rw [← hc]
  have hb := h.block ad.block (World.block_lt_of_cell? w _ hc) h1 h2
  unfold World.cell?
  rw [hb]
theorem Gs.toBelow {N : Nat} (h : Gs g b w w1) (hg : N ≤ g) (hb : N ≤ b) (hw : N ≤ w.heap.size) : Below N w w1 :=
  ⟨h.os, h.tape, h.output, h.size, fun i hi => h.block i (Nat.lt_of_lt_of_le hi hw) (by omega) (by omega)⟩
end
variable {A : Option Addr} {c : Nat} {w w1 : World} {g b : Nat} {t : St}
theorem Wk.moved (h : Wk A c w g b t) (hg : w1.heap[g]? = w.heap[g]?) (hb : w1.heap[b]? = w.heap[b]?) : Wk A c w1 g b t :=
  ⟨hg.trans h.obj, h.ne, h.len, fun h0 => by
    obtain ⟨e, cur, rs, h1, h2⟩ := h.nodes h0
    exact ⟨e, cur, rs, hb.trans h1, h2⟩, fun h0 => ⟨(h.cap h0).1, (h.cap h0).2.1, fun cur hc => (h.cap h0).2.2 cur (hb.symm.trans hc)⟩⟩
theorem Wk.ltg (h : Wk A c w g b t) : g < w.heap.size := (Array.getElem?_eq_some_iff.1 h.obj).1
theorem Wk.ltb (h : Wk A c w g b t) (h0 : 0 < t.ns.length) : b < w.heap.size := by
  obtain ⟨_, cur, rs, h1, _⟩ := h.nodes h0
  exact (Array.getElem?_eq_some_iff.1 h1).1
theorem Wk.nil (h : Wk A c w g b t) (hg : w1.heap[g]? = w.heap[g]?) (h0 : t.ns.length = 0) : Wk A c w1 g b t :=
  ⟨hg.trans h.obj, h.ne, h.len, fun h1 => (by omega), fun h1 => by omega⟩
theorem Wk.below (h : Wk A c w g b t) (hb : Below w.heap.size w w1) : Wk A c w1 g b t := by
  by_cases h0 : 0 < t.ns.length
  · exact h.moved (hb.block g h.ltg) (hb.block b (h.ltb h0))
  · exact h.nil (hb.block g h.ltg) (by omega)
theorem Wk.drew (h : Wk A c w g b t) : Wk A c w.drew g b t := h.moved rfl rfl
theorem Wk.drewN (h : Wk A c w g b t) (n : Nat) : Wk A c (w.drewN n) g b t := h.moved rfl rfl
theorem Wk.alloc (h : Wk A c w g b t) (o : Obj) : Wk A c (w.alloc o) g b t := h.below (below_alloc (Below.refl _ _) o)
theorem Wk.set (h : Wk A c w g b t) (x j : Nat) (y : Nd) (u : Value) (hx : x < t.ns.length) (hj : j < 6) (e : (nv (gn t x)).set j u = nv y) : Wk A c (w.setCell ⟨b, x * 6 + j, none⟩ u) g b (sn t x y) := by
  obtain ⟨ea, cur, rs, h1, h2⟩ := h.nodes (by omega)
  refine ⟨?_, h.ne, by rw [sn_len]; exact h.len, fun _ => ⟨ea, _, rs, blk_set h1 _ _, ?_⟩, fun _ => ⟨by rw [sn_len]; exact (h.cap (by omega)).1, (h.cap (by omega)).2.1, fun cur2 hc => ?_⟩⟩
  · rw [Below.heap_setCell _ _ _ _ (by simpa using h.ne), sn_len]; exact h.obj
  · rw [Array.toList_setIfInBounds, h2, List.set_append_left _ _ (by rw [flat_length]; omega), flat_set t.ns x j y u hx hj e]
    rfl
  · have e2 := (blk_set h1 (x * 6 + j) u).symm.trans hc
    injection e2 with e2
    injection e2 with e2
    rw [← e2, Array.size_setIfInBounds]
    exact (h.cap (by omega)).2.2 cur h1
theorem Wk.setRoot (h : Wk A c w g b t) (y : Int) : Wk A c (w.setCell ⟨g, 1, none⟩ (.int .i64 y)) g b ⟨t.ns, y⟩ := by
  have hbb : (w.setCell ⟨g, 1, none⟩ (.int .i64 y)).heap[b]? = w.heap[b]? := Below.heap_setCell _ _ _ _ (by simpa using h.ne.symm)
  refine ⟨blk_set h.obj 1 _, h.ne, h.len, fun h0 => ?_, fun h0 => ⟨(h.cap h0).1, (h.cap h0).2.1, fun cur hc => (h.cap h0).2.2 cur (hbb.symm.trans hc)⟩⟩
  obtain ⟨ea, cur, rs, h1, h2⟩ := h.nodes h0
  exact ⟨ea, cur, rs, hbb.trans h1, h2⟩
theorem Wk.setRed (h : Wk A c w g b t) (x : Int) (h0 : 0 ≤ x) (hx : x < t.ns.length) (is : Bool) : Wk A c (w.setCell ⟨b, x.toNat * 6 + 1, none⟩ (.bool is)) g b (paintA t is x) := by
  unfold paintA
  rw [if_pos h0]
  exact h.set x.toNat 1 _ _ (by omega) (by omega) rfl
theorem Wk.setUp (h : Wk A c w g b t) (y x : Int) (h0 : 0 ≤ y) (hx : y < t.ns.length) : Wk A c (w.setCell ⟨b, y.toNat * 6 + 5, none⟩ (.int .i64 x)) g b (hang2 t x y) := by
  unfold hang2
  rw [if_pos h0]
  exact h.set y.toNat 5 _ _ (by omega) (by omega) rfl
theorem Wk.setL (h : Wk A c w g b t) (x y : Int) (h0 : 0 ≤ x) (hx : x < t.ns.length) : Wk A c (w.setCell ⟨b, x.toNat * 6 + 3, none⟩ (.int .i64 y)) g b (hang1 t x false y) := by
  unfold hang1
  rw [if_neg (by omega)]
  exact h.set x.toNat 3 _ _ (by omega) (by omega) rfl
theorem Wk.setR (h : Wk A c w g b t) (x y : Int) (h0 : 0 ≤ x) (hx : x < t.ns.length) : Wk A c (w.setCell ⟨b, x.toNat * 6 + 4, none⟩ (.int .i64 y)) g b (hang1 t x true y) := by
  unfold hang1
  rw [if_neg (by omega)]
  exact h.set x.toNat 4 _ _ (by omega) (by omega) rfl
def paints (t : St) (is : Bool) (l : List Int) : St := l.foldl (fun t x => paintA t is x) t
theorem paints_len (is : Bool) : ∀ (l : List Int) (t : St), (paints t is l).ns.length = t.ns.length
  | [], t => rfl
  | x :: l, t => by rw [show paints t is (x :: l) = paints (paintA t is x) is l from rfl, paints_len is l, paint_len]
theorem paints_take (t : St) (is : Bool) (l : List Int) (k : Nat) (hk : k < l.length) : paints t is (l.take (k + 1)) = paintA (paints t is (l.take k)) is (l.getD k 0) := by
  unfold paints
  rw [List.take_succ_eq_append_getElem hk, List.foldl_append, List.getD_eq_getElem?_getD, List.getElem?_eq_getElem hk]
  rfl
set_option maxHeartbeats 4000000 in
set_option maxRecDepth 100000 in
theorem paint_ (h : Wk A c w g b t) (is : Bool) (B cap : Nat) (l : List Int) (h1 : B ≠ g) (h2 : B ≠ b) (hl : l.length ≤ 1000000) (hc : ∀ k, k < l.length → w.cell? ⟨B, k, none⟩ = some (.int .i64 (l.getD k 0))) (hx : ∀ x ∈ l, x < t.ns.length) :
    Calls Tryd.prog 65 #[.pointer (some ⟨g, 0, none⟩), .bool is, .slice (some ⟨B, 0, none⟩) l.length cap] w fun e w' => e = .returned (.tuple #[]) ∧ Wk A c w' g b (paints t is l) ∧ Gs g b w w' := by
  have H := Aside0.mk h
  have HC := Aside0.mk hc
  have HX := Aside0.mk hx
  clear h hc hx
  go_enter Tryd.func65, Tryd.ntmps65
  go_wp2
  go_loopw [10] (fun i wr => ∃ k : Nat, k ≤ l.length ∧ i = .int .i64 k ∧ Aside0 (Wk A c wr g b (paints t is (l.take k))) ∧ Aside0 (Gs g b w wr)) (fun i _ => l.length - (intOf i).toNat)
  case atStart => exact ⟨0, Nat.zero_le _, rfl, H, ⟨Gs.refl _ _ _⟩⟩
  case round =>
    clear H
    obtain ⟨k, hk, rfl, HA, HG⟩ := hrel
    by_cases hlt : k < l.length
    · have hn : (k : Int) < (l.length : Int) := by omega
      have HN := Aside0.mk (paints_take t is l k hlt)
      have hcx : wr.cell? ⟨B, k, none⟩ = some (.int .i64 (l.getD k 0)) := HG.out.cell h1 h2 (HC.out k hlt)
      have hxl : l.getD k 0 < (t.ns.length : Int) := HX.out _ (by rw [List.getD_eq_getElem?_getD, List.getElem?_eq_getElem hlt]; exact List.getElem_mem hlt)
      have hpl := paints_len is (l.take k) t
      generalize paints t is (l.take k) = T at HA HN hpl
      generalize l.getD k 0 = x at hcx hxl HN
      have HL := Aside0.mk hpl
      have HXL := Aside0.mk (show x < (T.ns.length : Int) by rw [hpl]; exact hxl)
      clear hpl hxl
      by_cases h0 : 0 ≤ x
      · have c0 := HA.out.c0
        rw [HA.out.addr (by have := HXL.out; omega)] at c0
        have hx2 := HXL.out
        have f1 := HA.out.frozenN (by have := HXL.out; omega) (x.toNat * 6 + 1)
        have c1 := HA.out.fred x h0 HXL.out
        go_wp2
        refine ⟨⟨k + 1, by omega, by simp, ⟨by rw [HN.out]; exact HA.out.setRed x h0 HXL.out is⟩, ⟨HG.out.setB _ _⟩⟩, ?_⟩
        show l.length - ((k : Int) + 1).toNat < l.length - (k : Int).toNat
        omega
      · have h3 : decide (0 ≤ x) = false := decide_eq_false h0
        go_wp2
        refine ⟨⟨k + 1, by omega, by simp, ⟨by rw [HN.out, paintA, if_neg h0]; exact HA.out⟩, HG⟩, ?_⟩
        show l.length - ((k : Int) + 1).toNat < l.length - (k : Int).toNat
        omega
    · obtain rfl : k = l.length := by omega
      rw [List.take_of_length_le (Nat.le_refl _)] at HA
      go_wp2
      go_end0
      exact ⟨rfl, HA.out, HG.out⟩
set_option maxHeartbeats 4000000 in
set_option maxRecDepth 100000 in
theorem hang_ (h : Wk A c w g b t) (x y : Int) (s : Bool) (hx : x < t.ns.length) (hy : y < t.ns.length) :
    Calls Tryd.prog 54 #[.pointer (some ⟨g, 0, none⟩), .int .i64 x, .int .i64 (sd s), .int .i64 y] w fun e w' => e = .returned (.tuple #[]) ∧ Wk A c w' g b (hangA t x s y) ∧ Gs g b w w' := by
  have K := Aside0.mk h
  by_cases h0 : 0 ≤ x
  · have hx1 : ¬ x < 0 := by omega
    have hd : decide (x < 0) = false := decide_eq_false hx1
    cases s with
    | false =>
      change Calls Tryd.prog 54 #[.pointer (some ⟨g, 0, none⟩), .int .i64 x, .int .i64 0, .int .i64 y] w _
      have f1 := h.frozenN (by omega) (x.toNat * 6 + 3)
      have d1 := h.fl x h0 hx
      have c2 := h.c2
      have HW := Aside0.mk (show Wk A c (w.setCell ⟨b, x.toNat * 6 + 3, none⟩ (.int .i64 y)) g b (hang1 t x false y) from h.setL x y h0 hx)
      have HS := Aside0.mk (show Gs g b w (w.setCell ⟨b, x.toNat * 6 + 3, none⟩ (.int .i64 y)) from (Gs.refl _ _ _).setB _ _)
      have HT := Aside0.mk (show hangA t x false y = hang2 (hang1 t x false y) x y from rfl)
      have HL := Aside0.mk (show y < ((hang1 t x false y).ns.length : Int) by rw [hang1_len]; exact hy)
      clear h
      generalize hang1 t x false y = t1 at HW HT HL
      by_cases hy0 : 0 ≤ y
      · go_enter Tryd.func54, Tryd.ntmps54
        go_upto_region 3 with (go_at_call 61; refine (left_ K.out x h0 hx).mono ?_; rintro e w' ⟨rfl, rfl⟩)
        generalize w'.setCell _ _ = w1 at HW HS ⊢
        have g0 := HW.out.c0
        rw [HW.out.addr (by have := HL.out; omega)] at g0
        have g1 := HW.out.fu y hy0 HL.out
        have g2 := HW.out.frozenN (by have := HL.out; omega) (y.toNat * 6 + 5)
        have g3 := HL.out
        go_wp2
        go_end0
        rw [HT.out]
        exact ⟨rfl, HW.out.setUp y x hy0 HL.out, HS.out.setB _ _⟩
      · have hy1 : decide (0 ≤ y) = false := decide_eq_false hy0
        go_enter Tryd.func54, Tryd.ntmps54
        go_wp2_with (go_at_call 61; refine (left_ K.out x h0 hx).mono ?_; rintro e w' ⟨rfl, rfl⟩)
        go_end0
        rw [HT.out, hang2, if_neg (by omega)]
        exact ⟨rfl, HW.out, HS.out⟩
    | true =>
      change Calls Tryd.prog 54 #[.pointer (some ⟨g, 0, none⟩), .int .i64 x, .int .i64 1, .int .i64 y] w _
      have f1 := h.frozenN (by omega) (x.toNat * 6 + 4)
      have d1 := h.fr x h0 hx
      have c2 := h.c3
      have HW := Aside0.mk (show Wk A c (w.setCell ⟨b, x.toNat * 6 + 4, none⟩ (.int .i64 y)) g b (hang1 t x true y) from h.setR x y h0 hx)
      have HS := Aside0.mk (show Gs g b w (w.setCell ⟨b, x.toNat * 6 + 4, none⟩ (.int .i64 y)) from (Gs.refl _ _ _).setB _ _)
      have HT := Aside0.mk (show hangA t x true y = hang2 (hang1 t x true y) x y from rfl)
      have HL := Aside0.mk (show y < ((hang1 t x true y).ns.length : Int) by rw [hang1_len]; exact hy)
      clear h
      generalize hang1 t x true y = t1 at HW HT HL
      by_cases hy0 : 0 ≤ y
      · go_enter Tryd.func54, Tryd.ntmps54
        go_upto_region 3 with (go_at_call 64; refine (right_ K.out x h0 hx).mono ?_; rintro e w' ⟨rfl, rfl⟩)
        generalize w'.setCell _ _ = w1 at HW HS ⊢
        have g0 := HW.out.c0
        rw [HW.out.addr (by have := HL.out; omega)] at g0
        have g1 := HW.out.fu y hy0 HL.out
        have g2 := HW.out.frozenN (by have := HL.out; omega) (y.toNat * 6 + 5)
        have g3 := HL.out
        go_wp2
        go_end0
        rw [HT.out]
        exact ⟨rfl, HW.out.setUp y x hy0 HL.out, HS.out.setB _ _⟩
      · have hy1 : decide (0 ≤ y) = false := decide_eq_false hy0
        go_enter Tryd.func54, Tryd.ntmps54
        go_wp2_with (go_at_call 64; refine (right_ K.out x h0 hx).mono ?_; rintro e w' ⟨rfl, rfl⟩)
        go_end0
        rw [HT.out, hang2, if_neg (by omega)]
        exact ⟨rfl, HW.out, HS.out⟩
  · have hx1 : x < 0 := by omega
    have f1 := h.frozen 1
    have d1 := h.c1
    have HW := Aside0.mk (h.setRoot y)
    have HS := Aside0.mk (show Gs g b w (w.setCell ⟨g, 1, none⟩ (.int .i64 y)) from (Gs.refl _ _ _).setG _ _)
    have HT := Aside0.mk (show hangA t x s y = hang2 ⟨t.ns, y⟩ x y by unfold hangA hang1; rw [if_pos hx1])
    have HL := Aside0.mk (show y < (((⟨t.ns, y⟩ : St).ns.length : Nat) : Int) from hy)
    clear h
    generalize (⟨t.ns, y⟩ : St) = t1 at HW HT HL
    by_cases hy0 : 0 ≤ y
    · go_enter Tryd.func54, Tryd.ntmps54
      go_upto_region 3 with (fail)
      generalize w.setCell _ _ = w1 at HW HS ⊢
      have g0 := HW.out.c0
      rw [HW.out.addr (by have := HL.out; omega)] at g0
      have g1 := HW.out.fu y hy0 HL.out
      have g2 := HW.out.frozenN (by have := HL.out; omega) (y.toNat * 6 + 5)
      have g3 := HL.out
      go_wp2
      go_end0
      rw [HT.out]
      exact ⟨rfl, HW.out.setUp y x hy0 HL.out, HS.out.setB _ _⟩
    · have hy1 : decide (0 ≤ y) = false := decide_eq_false hy0
      go_enter Tryd.func54, Tryd.ntmps54
      go_wp2
      go_end0
      rw [HT.out, hang2, if_neg (by omega)]
      exact ⟨rfl, HW.out, HS.out⟩
set_option maxHeartbeats 4000000 in
set_option maxRecDepth 100000 in
theorem turn_ (h : Wk A c w g b t) (x : Int) (s : Bool) (h0 : 0 ≤ x) (hx : x < t.ns.length) (hu : upA t x < t.ns.length) (hk0 : 0 ≤ kidA t x (!s)) (hk : kidA t x (!s) < t.ns.length) (hkk : kidA t (kidA t x (!s)) s < t.ns.length) :
    Calls Tryd.prog 78 #[.pointer (some ⟨g, 0, none⟩), .int .i64 x, .int .i64 (sd s)] w fun e w' => e = .returned (.tuple #[]) ∧ Wk A c w' g b (turnA t x s) ∧ Gs g b w w' := by
  have H := Aside0.mk h
  have HU := Aside0.mk hu
  have HK0 := Aside0.mk hk0
  have HK := Aside0.mk hk
  clear h
  cases s with
  | false =>
    change Calls Tryd.prog 78 #[.pointer (some ⟨g, 0, none⟩), .int .i64 x, .int .i64 0] w _
    have HT := Aside0.mk (show turnA t x false = hangA (hangA (hangA t x true (kidA t (kidA t x true) false)) (upA t x) (onA t x) (kidA t x true)) (kidA t x true) false x from rfl)
    have H1 := Aside0.mk (fun (w' : World) (h : Wk A c w' g b t) => hang_ h x (kidA t (kidA t x true) false) true hx hkk)
    have H2 := Aside0.mk (fun (w' : World) (h : Wk A c w' g b (hangA t x true (kidA t (kidA t x true) false))) => hang_ h (upA t x) (kidA t x true) (onA t x) (by rw [hang_len]; exact hu) (by rw [hang_len]; exact hk))
    have H3 := Aside0.mk (fun (w' : World) (h : Wk A c w' g b (hangA (hangA t x true (kidA t (kidA t x true) false)) (upA t x) (onA t x) (kidA t x true))) => hang_ h (kidA t x true) x false (by rw [hang_len, hang_len]; exact hk) (by rw [hang_len, hang_len]; exact hx))
    rw [HT.out]
    clear HT hk hkk hu hk0
    go_enter Tryd.func78, Tryd.ntmps78
    go_wp2
    go_quiet (first
      | (go_at_call 53; exact Calls.quiet_of_same (kid_ (by first | exact H.out | exact H.out.drewN _) x h0 hx true))
      | (go_at_call 63; exact Calls.quiet_of_same (up_ (by first | exact H.out | exact H.out.drewN _) x h0 hx))
      | (go_at_call 60; exact Calls.quiet_of_same (on_ (by first | exact H.out | exact H.out.drewN _) x h0 hx HU.out)))
    have HB := Aside0.mk (H.out.drewN nq)
    have HG := Aside0.mk ((Gs.refl g b w).drewN nq)
    clear H
    generalize w.drewN nq = w1 at HB HG ⊢
    go_upto_region 2 with (first
      | (go_at_call 53; refine (kid_ HB.out (kidA t x true) HK0.out HK.out false).mono ?_; rintro e w' ⟨rfl, rfl⟩)
      | (go_at_call 54; refine (H1.out _ HB.out).mono ?_; rintro e w' ⟨rfl, hW, hG⟩; have HB1 := Aside0.mk hW; have HG1 := Aside0.mk (HG.out.trans hG); clear hW hG))
    clear HB HG
    go_upto_region 3 with (go_at_call 54; refine (H2.out _ HB1.out).mono ?_; rintro e w' ⟨rfl, hW, hG⟩; have HB2 := Aside0.mk hW; have HG2 := Aside0.mk (HG1.out.trans hG); clear hW hG)
    clear HB1 HG1
    go_wp2_with (go_at_call 54; refine (H3.out _ HB2.out).mono ?_; rintro e w' ⟨rfl, hW, hG⟩; have HB3 := Aside0.mk hW; have HG3 := Aside0.mk (HG2.out.trans hG); clear hW hG)
    go_end0
    exact ⟨rfl, HB3.out, HG3.out⟩
  | true =>
    change Calls Tryd.prog 78 #[.pointer (some ⟨g, 0, none⟩), .int .i64 x, .int .i64 1] w _
    have HT := Aside0.mk (show turnA t x true = hangA (hangA (hangA t x false (kidA t (kidA t x false) true)) (upA t x) (onA t x) (kidA t x false)) (kidA t x false) true x from rfl)
    have H1 := Aside0.mk (fun (w' : World) (h : Wk A c w' g b t) => hang_ h x (kidA t (kidA t x false) true) false hx hkk)
    have H2 := Aside0.mk (fun (w' : World) (h : Wk A c w' g b (hangA t x false (kidA t (kidA t x false) true))) => hang_ h (upA t x) (kidA t x false) (onA t x) (by rw [hang_len]; exact hu) (by rw [hang_len]; exact hk))
    have H3 := Aside0.mk (fun (w' : World) (h : Wk A c w' g b (hangA (hangA t x false (kidA t (kidA t x false) true)) (upA t x) (onA t x) (kidA t x false))) => hang_ h (kidA t x false) x true (by rw [hang_len, hang_len]; exact hk) (by rw [hang_len, hang_len]; exact hx))
    rw [HT.out]
    clear HT hk hkk hu hk0
    go_enter Tryd.func78, Tryd.ntmps78
    go_wp2
    go_quiet (first
      | (go_at_call 53; exact Calls.quiet_of_same (kid_ (by first | exact H.out | exact H.out.drewN _) x h0 hx false))
      | (go_at_call 63; exact Calls.quiet_of_same (up_ (by first | exact H.out | exact H.out.drewN _) x h0 hx))
      | (go_at_call 60; exact Calls.quiet_of_same (on_ (by first | exact H.out | exact H.out.drewN _) x h0 hx HU.out)))
    have HB := Aside0.mk (H.out.drewN nq)
    have HG := Aside0.mk ((Gs.refl g b w).drewN nq)
    clear H
    generalize w.drewN nq = w1 at HB HG ⊢
    go_upto_region 2 with (first
      | (go_at_call 53; refine (kid_ HB.out (kidA t x false) HK0.out HK.out true).mono ?_; rintro e w' ⟨rfl, rfl⟩)
      | (go_at_call 54; refine (H1.out _ HB.out).mono ?_; rintro e w' ⟨rfl, hW, hG⟩; have HB1 := Aside0.mk hW; have HG1 := Aside0.mk (HG.out.trans hG); clear hW hG))
    clear HB HG
    go_upto_region 3 with (go_at_call 54; refine (H2.out _ HB1.out).mono ?_; rintro e w' ⟨rfl, hW, hG⟩; have HB2 := Aside0.mk hW; have HG2 := Aside0.mk (HG1.out.trans hG); clear hW hG)
    clear HB1 HG1
    go_wp2_with (go_at_call 54; refine (H3.out _ HB2.out).mono ?_; rintro e w' ⟨rfl, hW, hG⟩; have HB3 := Aside0.mk hW; have HG3 := Aside0.mk (HG2.out.trans hG); clear hW hG)
    go_end0
    exact ⟨rfl, HB3.out, HG3.out⟩
end Go.Proofs.YtnkhnnojdlgfjaaDoor.Tm
