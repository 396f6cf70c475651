/- Parts of the proof, joined: Rm1. -/
import Derived.Test.YtfapmcpmfeigbaaDoorUD15
namespace Go.Proofs.YtfapmcpmfeigbaaDoor.Tm
open Go.RowKit Go Go.Proofs Go.Proofs.YtfapmcpmfeigbaaDoor Go.Proofs.YtfapmcpmfeigbaaDoor.Tr Go.Proofs.YtfapmcpmfeigbaaDoorW.PrintWords Go.Proofs.YtfapmcpmfeigbaaDoorW.PrintLast Go.Proofs.YtfapmcpmfeigbaaDoorW.PrintMore
set_option linter.unusedVariables false
set_option linter.unusedSimpArgs false
structure Tv (own : Bool) (S N : Nat) (w : World) (A : Option Addr) (c : Nat) (l : List Nd) : Prop where mk ::
 le : l.length ≤ c
 src : (own = false ∧ ∃ w0, kn.C w0 A l.length l ∧ w0.heap.size ≤ S ∧ Below w0.heap.size w0 w) ∨ kn.R 57 w N (fun _ => True) (.slice A l.length c) l
theorem Tv.rd {own : Bool} {S N : Nat} {w : World} {A : Option Addr} {c : Nat} {l : List Nd} (h : Tv own S N w A c l) : kn.C w A l.length l := by
 rcases h.src with ⟨_, w0, h1, _, h3⟩ | h1
 ·exact Kd.zY h1 h3
 ·exact (Kd.yN h1).2.2
theorem Tv.below {own : Bool} {S N : Nat} {w w1 : World} {A : Option Addr} {c : Nat} {l : List Nd} (h : Tv own S N w A c l) (hb : Below w.heap.size w w1) : Tv own S N w1 A c l := by
 refine ⟨h.le, ?_⟩
 rcases h.src with ⟨e, w0, h1, h2, h3⟩ | h1
 ·exact .inl ⟨e, w0, h1, h2, h3.trans (hb.mono h3.size)⟩
 ·exact .inr (Kd.yG h1 hb)
theorem Tv.set {own : Bool} {S N : Nat} {w : World} {A : Option Addr} {c : Nat} {l : List Nd} (h : Tv own S N w A c l) {g ty : Nat} {cs : Array Value} (hg : w.heap[g]? = some (.cells cs ty (0, 0))) (ht : ty ≠ 57) (hs : S ≤ g) (j : Nat) (u : Value) : Tv own S N (w.setCell ⟨g, j, none⟩ u) A c l := by
 refine ⟨h.le, ?_⟩
 rcases h.src with ⟨e, w0, h1, h2, h3⟩ | h1
 ·exact .inl ⟨e, w0, h1, h2, Below.setCell h3 (p := ⟨g, j, none⟩) (Nat.le_trans h2 hs) _⟩
 ·exact .inr (Kd.R_set h1 hg (fun q hq => by
   have hq2 : q = 57 := by
    rcases List.mem_cons.1 hq with e | hq
    ·exact e
    ·cases hq
   rw [hq2]; exact fun e => ht e.symm) j u)
theorem Tv.of {S N : Nat} {w : World} {A : Option Addr} {c : Nat} {l : List Nd} (h : kn.C w A l.length l) (hc : l.length ≤ c) (hs : w.heap.size ≤ S) : Tv false S N w A c l := ⟨hc, .inl ⟨rfl, w, h, hs, Below.refl _ _⟩⟩
theorem Tv.toR {S N : Nat} {w : World} {A : Option Addr} {c : Nat} {l : List Nd} (h : Tv true S N w A c l) : kn.R 57 w N (fun _ => True) (.slice A l.length c) l := by
 rcases h.src with ⟨e, _⟩ | h
 ·cases e
 ·exact h
structure vO (own : Bool) (S N : Nat) (w : World) (t : St) (e : Ending) (w' : World) : Prop where mk ::
 out : ∃ A c, e = .returned (.agg #[.int .i64 t.rt, .slice A t.ns.length c]) ∧ Tv own S N w' A c t.ns ∧ Below w.heap.size w w'
structure Tb (own : Bool) (S N : Nat) (w : World) (g : Nat) (t : St) (A : Option Addr) (c : Nat) : Prop where mk ::
 bx : w.heap[g]? = some (.cells #[.int .i64 t.rt, .slice A t.ns.length c] 24 (0, 0))
 tv : Tv own S N w A c t.ns
 sg : S ≤ g
section
variable {own : Bool} {S N : Nat} {w w1 : World} {g : Nat} {t : St} {A : Option Addr} {c : Nat}
theorem Tb.c0 (h : Tb own S N w g t A c) : w.cell? ⟨g, 0, none⟩ = some (.int .i64 t.rt) := (zF h.bx 0).trans rfl
theorem Tb.c1 (h : Tb own S N w g t A c) : w.cell? ⟨g, 1, none⟩ = some (.slice A t.ns.length c) := (zF h.bx 1).trans rfl
theorem Tb.f (h : Tb own S N w g t A c) (i : Nat) : w.frozen? ⟨g, i, none⟩ = false := zL h.bx i
theorem Tb.below (h : Tb own S N w g t A c) (hb : Below w.heap.size w w1) : Tb own S N w1 g t A c := ⟨zK h.bx hb, h.tv.below hb, h.sg⟩
theorem jZ {w : World} {g : Nat} {cs : Array Value} {ty : TypeId} (h : w.heap[g]? = some (.cells cs ty (0, 0))) (hs : cs.size = 2) (u v : Value) : ((w.setCell ⟨g, 0, none⟩ u).setCell ⟨g, 1, none⟩ v).heap[g]? = some (.cells #[u, v] ty (0, 0)) := by
 rw [qI (qI h 0 u) 1 v]
 obtain ⟨l⟩ := cs
 match l, hs with
 | [a, b], _ => rfl
theorem Tb.put {cs : Array Value} (hz : w.heap[g]? = some (.cells cs 24 (0, 0))) (hc : cs.size = 2) (h : Tv own S N w A c t.ns) (hs : S ≤ g) : Tb own S N ((w.setCell ⟨g, 0, none⟩ (.int .i64 t.rt)).setCell ⟨g, 1, none⟩ (.slice A t.ns.length c)) g t A c :=
 ⟨jZ hz hc _ _, (h.set hz (by decide) hs 0 _).set (qI hz 0 _) (by decide) hs 1 _, hs⟩
theorem set2_far {w : World} {g k : Nat} {o : Obj} (h : w.heap[k]? = some o) (hne : k ≠ g) (u v : Value) : ((w.setCell ⟨g, 0, none⟩ u).setCell ⟨g, 1, none⟩ v).heap[k]? = some o := by
 rw [Below.heap_setCell _ _ _ _ (by simpa using hne), Below.heap_setCell _ _ _ _ (by simpa using hne)]; exact h
theorem kV {M : Nat} {w0 w : World} {g : Nat} (h : Below M w0 w) (hg : M ≤ g) (u v : Value) : Below M w0 ((w.setCell ⟨g, 0, none⟩ u).setCell ⟨g, 1, none⟩ v) :=
 Below.setCell (Below.setCell h (p := ⟨g, 0, none⟩) hg _) (p := ⟨g, 1, none⟩) hg _
theorem vO.fin {w0 : World} {cs : Array Value} (hB : Below w0.heap.size w0 w) (hg : w0.heap.size ≤ g) (h : Tv own S N w A c t.ns) (hz : w.heap[g]? = some (.cells cs 24 (0, 0))) (hs : S ≤ g) :
  vO own S N w0 t (.returned (.agg #[.int .i64 t.rt, .slice A t.ns.length c])) ((w.setCell ⟨g, 0, none⟩ (.int .i64 t.rt)).setCell ⟨g, 1, none⟩ (.slice A t.ns.length c)) :=
 ⟨A, c, rfl, (h.set hz (by decide) hs 0 _).set (qI hz 0 _) (by decide) hs 1 _, kV hB hg _ _⟩
end
structure Sb (own : Bool) (S N : Nat) (w0 w : World) (g z : Nat) (t : St) (A : Option Addr) (c : Nat) : Prop where mk ::
 tb : Tb own S N w g t A c
 zb : w.heap[z]? = some (.cells #[.int .i64 0, .slice none 0 0] 24 (0, 0))
 bb : Below w0.heap.size w0 w
 g0 : w0.heap.size ≤ g
 z0 : w0.heap.size ≤ z
 ne : z ≠ g
 s0 : S ≤ w0.heap.size
 n0 : N ≤ w0.heap.size
section
variable {own : Bool} {S N : Nat} {w0 w w1 : World} {g z : Nat} {t : St} {A : Option Addr} {c : Nat}
theorem Sb.below (h : Sb own S N w0 w g z t A c) (hb : Below w.heap.size w w1) : Sb own S N w0 w1 g z t A c := ⟨h.tb.below hb, zK h.zb hb, zT h.bb hb, h.g0, h.z0, h.ne, h.s0, h.n0⟩
theorem Sb.drew (h : Sb own S N w0 w g z t A c) : Sb own S N w0 w.drew g z t A c := h.below (Below.drew (Below.refl _ _))
theorem Sb.drewN (h : Sb own S N w0 w g z t A c) (n : Nat) : Sb own S N w0 (w.drewN n) g z t A c := h.below (zI (Below.refl _ _) n)
theorem Sb.sS (h : Sb own S N w0 w g z t A c) : S ≤ w.heap.size := Nat.le_trans h.s0 h.bb.size
theorem Sb.sN (h : Sb own S N w0 w g z t A c) : N ≤ w.heap.size := Nat.le_trans h.n0 h.bb.size
theorem Sb.a0 (h : Sb own S N w0 w g z t A c) : w.cell? ⟨g, 0, none⟩ = some (.int .i64 t.rt) := h.tb.c0
theorem Sb.a1 (h : Sb own S N w0 w g z t A c) : w.cell? ⟨g, 1, none⟩ = some (.slice A t.ns.length c) := h.tb.c1
theorem Sb.f (h : Sb own S N w0 w g z t A c) (i : Nat) : w.frozen? ⟨g, i, none⟩ = false := h.tb.f i
theorem Sb.y0 (h : Sb own S N w0 w g z t A c) : w.cell? ⟨z, 0, none⟩ = some (.int .i64 0) := (zF h.zb 0).trans rfl
theorem Sb.y1 (h : Sb own S N w0 w g z t A c) : w.cell? ⟨z, 1, none⟩ = some (.slice none 0 0) := (zF h.zb 1).trans rfl
theorem Sb.yf (h : Sb own S N w0 w g z t A c) (i : Nat) : w.frozen? ⟨z, i, none⟩ = false := zL h.zb i
theorem Sb.some (h : Sb own S N w0 w g z t A c) (h0 : 0 < t.ns.length) : ∃ ad, A = some ad := by
 obtain ⟨ad, _, e, _⟩ := Kd.C_get h.tb.tv.rd emp 0 (by omega) (by omega)
 exact ⟨ad, e⟩
theorem Sb.store {own2 : Bool} {t1 : St} {A1 : Option Addr} {c1 : Nat} (h : Sb own S N w0 w g z t A c) (hv : Tv own2 S N w A1 c1 t1.ns) : Sb own2 S N w0 ((w.setCell ⟨g, 0, none⟩ (.int .i64 t1.rt)).setCell ⟨g, 1, none⟩ (.slice A1 t1.ns.length c1)) g z t1 A1 c1 :=
 ⟨Tb.put h.tb.bx rfl hv h.tb.sg, set2_far h.zb h.ne _ _, kV h.bb h.g0 _ _, h.g0, h.z0, h.ne, h.s0, h.n0⟩
theorem Sb.root (h : Sb own S N w0 w g z t A c) (y : Int) : Sb own S N w0 (w.setCell ⟨g, 0, none⟩ (.int .i64 y)) g z ⟨t.ns, y⟩ A c :=
 ⟨⟨qI h.tb.bx 0 _, h.tb.tv.set h.tb.bx (by decide) h.tb.sg 0 _, h.tb.sg⟩, by rw [Below.heap_setCell _ _ _ _ (by simpa using h.ne)]; exact h.zb, Below.setCell h.bb (p := ⟨g, 0, none⟩) h.g0 _, h.g0, h.z0, h.ne, h.s0, h.n0⟩
theorem Sb.fin {t1 : St} {A1 : Option Addr} {c1 : Nat} (h : Sb own S N w0 w g z t A c) (hv : Tv own S N w A1 c1 t1.ns) :
  vO own S N w0 t1 (.returned (.agg #[.int .i64 t1.rt, .slice A1 t1.ns.length c1])) ((w.setCell ⟨z, 0, none⟩ (.int .i64 t1.rt)).setCell ⟨z, 1, none⟩ (.slice A1 t1.ns.length c1)) :=
 vO.fin h.bb h.z0 hv h.zb (Nat.le_trans h.s0 h.z0)
theorem Sb.start (h : Tv own S N w A c t.ns) (hS : S ≤ w.heap.size) (hN : N ≤ w.heap.size) : Sb own S N w ((w.alloc (.cells #[.int .i64 t.rt, .slice A t.ns.length c] 24)).alloc (.cells #[.int .i64 0, .slice none 0 0] 24)) w.heap.size (w.heap.size + 1) t A c := by
 have hB := zH (zH (Below.refl w.heap.size w) (.cells #[.int .i64 t.rt, .slice A t.ns.length c] 24)) (.cells #[.int .i64 0, .slice none 0 0] 24)
 have H1 := yM w (.cells #[.int .i64 t.rt, .slice A t.ns.length c] 24)
 have H3 := yM (w.alloc (.cells #[.int .i64 t.rt, .slice A t.ns.length c] 24)) (.cells #[.int .i64 0, .slice none 0 0] 24)
 simp only [World.size_alloc] at H3
 exact ⟨⟨zK H1 (zH (Below.refl _ _) (.cells #[.int .i64 0, .slice none 0 0] 24)), h.below hB, hS⟩, H3, hB, Nat.le_refl _, Nat.le_succ _, by omega, hS, hN⟩
end
structure Bk (w : World) (b cap : Nat) (l : List Nd) : Prop where mk ::
 out : ∃ (cur : Array Value) (rs : List Value), w.heap[b]? = some (.cells cur 57 (0, 0)) ∧ cur.toList = flat l ++ rs ∧ cur.size = cap * 6
 le : l.length ≤ cap
 mx : cap ≤ maxLen
variable {w w1 : World} {b cap : Nat} {l : List Nd}
theorem Bk.at_ (h : Bk w b cap l) (x j : Nat) (hx : x < l.length) (hj : j < 6) : w.cell? ⟨b, x * 6 + j, none⟩ = (nv (l.getD x emp))[j]? := by
 obtain ⟨cur, rs, h1, h2, _⟩ := h.out
 rw [zF h1, ← Array.getElem?_toList, h2, List.getElem?_append_left (by rw [yV]; omega), flat_get _ _ _ hx hj]
theorem Bk.frozen (h : Bk w b cap l) (i : Nat) : w.frozen? ⟨b, i, none⟩ = false := by
 obtain ⟨cur, rs, h1, _⟩ := h.out
 exact zL h1 i
theorem Bk.set (h : Bk w b cap l) (x j : Nat) (y : Nd) (u : Value) (hx : x < l.length) (hj : j < 6) (e : (nv (l.getD x emp)).set j u = nv y) : Bk (w.setCell ⟨b, x * 6 + j, none⟩ u) b cap (l.set x y) := by
 obtain ⟨cur, rs, h1, h2, h3⟩ := h.out
 refine ⟨⟨_, rs, qI h1 _ _, ?_, by rw [Array.size_setIfInBounds]; exact h3⟩, by rw [List.length_set]; exact h.le, h.mx⟩
 rw [Array.toList_setIfInBounds, h2, List.set_append_left _ _ (by rw [yV]; omega), flat_set l x j y u hx hj e]
theorem Bk.zaC (h : Bk w b cap l) (x : Nat) (hx : x < l.length) (y : Nd) :
  Bk ((((((w.setCell ⟨b, x * 6, none⟩ (.bool y.inn)).setCell ⟨b, x * 6 + 1, none⟩ (.bool y.red)).setCell ⟨b, x * 6 + 2, none⟩ (.int .u64 y.v)).setCell ⟨b, x * 6 + 3, none⟩ (.int .i64 y.l)).setCell ⟨b, x * 6 + 4, none⟩ (.int .i64 y.r)).setCell ⟨b, x * 6 + 5, none⟩ (.int .i64 y.u)) b cap (l.set x y) := by
 have e : ∀ n : Nd, (l.set x n).getD x emp = n := fun n => by rw [List.getD_eq_getElem?_getD, List.getElem?_set_self hx]; rfl
 have k0 := h.set x 0 { l.getD x emp with inn := y.inn } (.bool y.inn) hx (by omega) rfl
 have k1 := k0.set x 1 { l.getD x emp with inn := y.inn, red := y.red } (.bool y.red) (by rw [List.length_set]; exact hx) (by omega) (by rw [e]; rfl)
 rw [List.set_set] at k1
 have k2 := k1.set x 2 { l.getD x emp with inn := y.inn, red := y.red, v := y.v } (.int .u64 y.v) (by rw [List.length_set]; exact hx) (by omega) (by rw [e]; rfl)
 rw [List.set_set] at k2
 have k3 := k2.set x 3 { l.getD x emp with inn := y.inn, red := y.red, v := y.v, l := y.l } (.int .i64 y.l) (by rw [List.length_set]; exact hx) (by omega) (by rw [e]; rfl)
 rw [List.set_set] at k3
 have k4 := k3.set x 4 { l.getD x emp with inn := y.inn, red := y.red, v := y.v, l := y.l, r := y.r } (.int .i64 y.r) (by rw [List.length_set]; exact hx) (by omega) (by rw [e]; rfl)
 rw [List.set_set] at k4
 have k5 := k4.set x 5 y (.int .i64 y.u) (by rw [List.length_set]; exact hx) (by omega) (by rw [e]; rfl)
 rw [List.set_set] at k5
 exact k5
theorem Bk.toR (h : Bk w b cap l) {N : Nat} (hb : N ≤ b) : kn.R 57 w N (fun _ => True) (.slice (some ⟨b, 0, none⟩) l.length cap) l := by
 obtain ⟨cur, rs, h1, h2, h3⟩ := h.out
 have hs := h3
 rw [← Array.length_toList, h2, List.length_append, yV] at hs
 exact arr_R h1 h2 hb trivial h.le h.mx hs
theorem Bk.ofR {N : Nat} {v : Value} (h : kn.R 57 w N (fun _ => True) v l) (h0 : 0 < l.length) : ∃ b cap, v = .slice (some ⟨b, 0, none⟩) l.length cap ∧ N ≤ b ∧ Bk w b cap l := by
 obtain ⟨g, cap, rs, cur, e, h1, _, h2, h3, h4, h5, h6⟩ := R_arr h h0
 refine ⟨g, cap, e, h1, ⟨cur, rs, h5, h6, ?_⟩, h2, h3⟩
 rw [← Array.length_toList, h6, List.length_append, yV, h4]
def set6 (w : World) (b i : Nat) (u0 u1 u2 u3 u4 u5 : Value) : World := (((((w.setCell ⟨b, i, none⟩ u0).setCell ⟨b, i + 1, none⟩ u1).setCell ⟨b, i + 2, none⟩ u2).setCell ⟨b, i + 3, none⟩ u3).setCell ⟨b, i + 4, none⟩ u4).setCell ⟨b, i + 5, none⟩ u5
theorem set6_far {k : Nat} {o : Obj} (h : w.heap[k]? = some o) (hne : k ≠ b) (i : Nat) (u0 u1 u2 u3 u4 u5 : Value) : (set6 w b i u0 u1 u2 u3 u4 u5).heap[k]? = some o := by
 unfold set6
 rw [Below.heap_setCell _ _ _ _ (by simpa using hne), Below.heap_setCell _ _ _ _ (by simpa using hne), Below.heap_setCell _ _ _ _ (by simpa using hne), Below.heap_setCell _ _ _ _ (by simpa using hne), Below.heap_setCell _ _ _ _ (by simpa using hne), Below.heap_setCell _ _ _ _ (by simpa using hne)]
 exact h
theorem set6_below {M : Nat} {w0 : World} (h : Below M w0 w) (hb : M ≤ b) (i : Nat) (u0 u1 u2 u3 u4 u5 : Value) : Below M w0 (set6 w b i u0 u1 u2 u3 u4 u5) :=
 Below.setCell (Below.setCell (Below.setCell (Below.setCell (Below.setCell (Below.setCell h (p := ⟨b, i, none⟩) hb _) (p := ⟨b, i + 1, none⟩) hb _) (p := ⟨b, i + 2, none⟩) hb _) (p := ⟨b, i + 3, none⟩) hb _) (p := ⟨b, i + 4, none⟩) hb _) (p := ⟨b, i + 5, none⟩) hb _
variable {t : St}
theorem kH {ad : Addr} (h : kn.C w (some ad) t.ns.length t.ns) (x : Int) (h0 : 0 ≤ x) (h1 : x < t.ns.length) : w.cell? (ad.add (x.toNat * 6)) = some (.bool (gn t x.toNat).inn) ∧ w.cell? ⟨(ad.add (x.toNat * 6)).block, (ad.add (x.toNat * 6)).off + 1, none⟩ = some (.bool (redA t x)) ∧ w.cell? ⟨(ad.add (x.toNat * 6)).block, (ad.add (x.toNat * 6)).off + 2, none⟩ = some (.int .u64 (gn t x.toNat).v) ∧ w.cell? ⟨(ad.add (x.toNat * 6)).block, (ad.add (x.toNat * 6)).off + 3, none⟩ = some (.int .i64 (kidA t x false)) ∧ w.cell? ⟨(ad.add (x.toNat * 6)).block, (ad.add (x.toNat * 6)).off + 4, none⟩ = some (.int .i64 (kidA t x true)) ∧ w.cell? ⟨(ad.add (x.toNat * 6)).block, (ad.add (x.toNat * 6)).off + 5, none⟩ = some (.int .i64 (upA t x)) := by
 obtain ⟨ad2, e, d⟩ := zaA h x h0 h1
 obtain rfl := Option.some.inj e
 obtain ⟨d0, d1, d2, d3, d4, d5⟩ := d
 refine ⟨d0, ?_, d2, d3, d4, d5⟩
 rw [show redA t x = (t.ns.getD x.toNat emp).red by unfold redA gn; rw [decide_eq_true h0]; rfl]
 exact d1
theorem zbK {A : Option Addr} (h : kn.C w A t.ns.length t.ns) (x : Int) (h0 : 0 ≤ x) (h1 : x < t.ns.length) : ∃ ad, A = some ad ∧ w.cell? (ad.add (x.toNat * 6)) = some (.bool (gn t x.toNat).inn) ∧ w.cell? ⟨(ad.add (x.toNat * 6)).block, (ad.add (x.toNat * 6)).off + 1, none⟩ = some (.bool (redA t x)) ∧ w.cell? ⟨(ad.add (x.toNat * 6)).block, (ad.add (x.toNat * 6)).off + 2, none⟩ = some (.int .u64 (gn t x.toNat).v) ∧ w.cell? ⟨(ad.add (x.toNat * 6)).block, (ad.add (x.toNat * 6)).off + 3, none⟩ = some (.int .i64 (kidA t x false)) ∧ w.cell? ⟨(ad.add (x.toNat * 6)).block, (ad.add (x.toNat * 6)).off + 4, none⟩ = some (.int .i64 (kidA t x true)) ∧ w.cell? ⟨(ad.add (x.toNat * 6)).block, (ad.add (x.toNat * 6)).off + 5, none⟩ = some (.int .i64 (upA t x)) := by
 obtain ⟨ad, e, d0, d1, d2, d3, d4, d5⟩ := zaA h x h0 h1
 refine ⟨ad, e, d0, ?_, d2, d3, d4, d5⟩
 rw [show redA t x = (t.ns.getD x.toNat emp).red by unfold redA gn; rw [decide_eq_true h0]; rfl]
 exact d1
set_option maxHeartbeats 4000000 in
set_option maxRecDepth 100000 in
theorem rkid_ (A : Option Addr) (c : Nat) (h : kn.C w A t.ns.length t.ns) (x : Int) (h0 : 0 ≤ x) (hx : x < t.ns.length) (s : Bool) :
  Calls Tryd.prog 38 #[.agg #[.int .i64 t.rt, .slice A t.ns.length c], .int .i64 x, .int .i64 (sd s)] w fun e w' => e = .returned (.int .i64 (kidA t x s)) ∧ Below w.heap.size w w' := by
 have HB1 := zA.mk (zH (Below.refl w.heap.size w) (.cells #[.int .i64 t.rt, .slice A t.ns.length c] 24))
 obtain ⟨ad, rfl, d0, d1, d2, d3, d4, d5⟩ := zbK (Kd.zY h HB1.out) x h0 hx
 clear h d0 d1 d2 d5
 cases s with
 | false =>
  change Calls Tryd.prog 38 #[.agg #[.int .i64 t.rt, .slice (some ad) t.ns.length c], .int .i64 x, .int .i64 0] w _
  go_enter Tryd.func38, Tryd.ntmps38
  go_wp2
  go_ret
  exact ⟨rfl, HB1.out⟩
 | true =>
  change Calls Tryd.prog 38 #[.agg #[.int .i64 t.rt, .slice (some ad) t.ns.length c], .int .i64 x, .int .i64 1] w _
  go_enter Tryd.func38, Tryd.ntmps38
  go_wp2
  go_ret
  exact ⟨rfl, HB1.out⟩
set_option maxHeartbeats 4000000 in
set_option maxRecDepth 100000 in
theorem rred_ (A : Option Addr) (c : Nat) (h : kn.C w A t.ns.length t.ns) (x : Int) (hx : x < t.ns.length) :
  Calls Tryd.prog 58 #[.agg #[.int .i64 t.rt, .slice A t.ns.length c], .int .i64 x] w fun e w' => e = .returned (.bool (redA t x)) ∧ Below w.heap.size w w' := by
 have HB1 := zA.mk (zH (Below.refl w.heap.size w) (.cells #[.int .i64 t.rt, .slice A t.ns.length c] 24))
 by_cases h0 : 0 ≤ x
 ·obtain ⟨ad, rfl, d0, d1, d2, d3, d4, d5⟩ := zbK (Kd.zY h HB1.out) x h0 hx
  clear h d0 d2 d3 d4 d5
  go_enter Tryd.func58, Tryd.ntmps58
  go_wp2
  go_ret
  exact ⟨rfl, HB1.out⟩
 have e : redA t x = false := by unfold redA; rw [decide_eq_false h0]; rfl
 rw [e]
 have h1 : decide (0 ≤ x) = false := decide_eq_false h0
 clear h e
 go_enter Tryd.func58, Tryd.ntmps58
 go_wp2
 go_ret
 exact ⟨rfl, HB1.out⟩
set_option maxHeartbeats 4000000 in
set_option maxRecDepth 100000 in
theorem rside_ (A : Option Addr) (c : Nat) (h : kn.C w A t.ns.length t.ns) (x : Int) (h0 : 0 ≤ x) (hx : x < t.ns.length) (hu : upA t x < t.ns.length) :
  Calls Tryd.prog 51 #[.agg #[.int .i64 t.rt, .slice A t.ns.length c], .int .i64 x] w fun e w' => e = .returned (.int .i64 (sd (onA t x))) ∧ Below w.heap.size w w' := by
 have HB1 := zA.mk (zH (Below.refl w.heap.size w) (.cells #[.int .i64 t.rt, .slice A t.ns.length c] 24))
 obtain ⟨ad, rfl, d0, d1, d2, d3, d4, d5⟩ := zbK (Kd.zY h HB1.out) x h0 hx
 clear d0 d1 d2 d3 d4
 by_cases hp : 0 ≤ upA t x
 rotate_left
 ·have e : onA t x = false := by
   show decide (0 ≤ upA t x ∧ kidA t (upA t x) true = x) = _
   simp [hp]
  rw [e]
  have h1 : decide (0 ≤ upA t x) = false := decide_eq_false hp
  clear h e hu
  generalize upA t x = u at *
  go_enter Tryd.func51, Tryd.ntmps51
  go_wp2
  go_ret
  exact ⟨rfl, HB1.out⟩
 have e : onA t x = decide (kidA t (upA t x) true = x) := by
  show decide (0 ≤ upA t x ∧ kidA t (upA t x) true = x) = _
  simp [hp]
 rw [e]
 generalize upA t x = u at *
 obtain ⟨ad2, e2, g0, g1, g2, g3, g4, g5⟩ := zbK (Kd.zY h HB1.out) u hp hu
 obtain rfl := Option.some.inj e2; clear g0 g1 g2 g3 g5 h e e2
 by_cases hq : kidA t u true = x
 ·rw [hq] at g4
  rw [hq]
  have hq0 : decide (x = x) = true := by simp
  rw [hq0]
  clear hq
  go_enter Tryd.func51, Tryd.ntmps51
  go_wp2
  go_ret
  exact ⟨rfl, HB1.out⟩
 rw [decide_eq_false hq]
 generalize kidA t u true = y at *
 have hq1 : (y == x) = false := by simpa using hq
 go_enter Tryd.func51, Tryd.ntmps51
 go_wp2
 go_ret
 exact ⟨rfl, HB1.out⟩
set_option maxHeartbeats 4000000 in
set_option maxRecDepth 100000 in
theorem zbI {own : Bool} {S N : Nat} (A : Option Addr) (c : Nat) (h : kn.C w A t.ns.length t.ns) (hS : S ≤ w.heap.size) (hN : N ≤ w.heap.size) (hl : t.ns.length ≤ 1000000) (x : Int) (h0 : 0 ≤ x) (hx : x < t.ns.length) (y : Nd) :
  Calls Tryd.prog 42 #[.agg #[.int .i64 t.rt, .slice A t.ns.length c], .int .i64 x, .agg #[.bool y.inn, .bool y.red, .int .u64 y.v, .int .i64 y.l, .int .i64 y.r, .int .i64 y.u]] w fun e w' => vO own S N w (sn t x.toNat y) e w' := by
 obtain ⟨y0, y1, y2, y3, y4, y5⟩ := y
 simp only
 have HR := zA.mk h; have HL := zA.mk hl; have HS := zA.mk hS; have HN := zA.mk hN; clear h hl hS hN
 go_enter Tryd.func42, Tryd.ntmps42
 go_upto_region 1 with (fail)
 have HB1 := zA.mk (zH (zH (zH (Below.refl w.heap.size w) (.cells #[.int .i64 t.rt, .slice A t.ns.length c] 24)) (.cells #[.bool y0, .bool y1, .int .u64 y2, .int .i64 y3, .int .i64 y4, .int .i64 y5] 57)) (.cells #[.int .i64 0, .slice none 0 0] 24))
 have H1 := yM w (.cells #[.int .i64 t.rt, .slice A t.ns.length c] 24)
 have H2 := yM (w.alloc (.cells #[.int .i64 t.rt, .slice A t.ns.length c] 24)) (.cells #[.bool y0, .bool y1, .int .u64 y2, .int .i64 y3, .int .i64 y4, .int .i64 y5] 57)
 have H3 := yM ((w.alloc (.cells #[.int .i64 t.rt, .slice A t.ns.length c] 24)).alloc (.cells #[.bool y0, .bool y1, .int .u64 y2, .int .i64 y3, .int .i64 y4, .int .i64 y5] 57)) (.cells #[.int .i64 0, .slice none 0 0] 24)
 have HX1 := zA.mk (zK (zK H1 (zH (Below.refl _ _) (.cells #[.bool y0, .bool y1, .int .u64 y2, .int .i64 y3, .int .i64 y4, .int .i64 y5] 57))) (zH (Below.refl _ _) (.cells #[.int .i64 0, .slice none 0 0] 24)))
 have HY1 := zA.mk (zK H2 (zH (Below.refl _ _) (.cells #[.int .i64 0, .slice none 0 0] 24)))
 have HZ1 := zA.mk H3; clear H1 H2 H3
 simp only [World.size_alloc] at HY1 HZ1
 generalize ((w.alloc (.cells #[.int .i64 t.rt, .slice A t.ns.length c] 24)).alloc (.cells #[.bool y0, .bool y1, .int .u64 y2, .int .i64 y3, .int .i64 y4, .int .i64 y5] 57)).alloc (.cells #[.int .i64 0, .slice none 0 0] 24) = W1 at HB1 HX1 HY1 HZ1 ⊢
 have HR1 := zA.mk (Kd.zY HR.out HB1.out)
 have a1 := (show W1.cell? ⟨w.heap.size, 1, none⟩ = some (.slice A t.ns.length c) from (zF HX1.out 1).trans rfl)
 go_upto_region 2 with (at_builtin; refine Kd.vD kn (Rr := kn.K W1) (w0 := W1) W1.heap.size rfl (.const (.slice none 0 0)) (.tmp 9) 22 57 (.agg #[(.bool false), (.bool false), (.int .u64 0), (.int .i64 0), (.int .i64 0), (.int .i64 0)]) 40 rfl Tryd.underlying22 infoN rfl (show 0 < kn.sz by show 0 < 6; omega) (by omega) (.slice none 0 0) [] t.ns A t.ns.length c (fun _ => True) (fun _ => False) rfl rfl ?aO ?aR ?aK (fun _ h => h.elim) (fun _ _ => trivial) ?aB ?aS ?aL ?_; (case aO => exact Kd.vE _ _ _ _ _); (case aR => exact HR1.out); (case aK => intro x cs h; rw [kn_open h]; exact kn_mkM _ _ _ _); (case aB => exact Below.refl _ _); (case aS => exact Nat.le_refl _); (case aL => have := HL.out; simp; omega); intro v2 w2 hR hB hg _; have HR2 := zA.mk hR; have HB2 := zA.mk hB; clear hR hB hg)
 have hR2 := HR2.out
 rw [List.nil_append] at hR2
 obtain ⟨b, cap, rfl, hb, hK⟩ := Bk.ofR hR2 (by omega)
 have HK := zA.mk hK; have HB := zA.mk hb
 have x2 := zK HX1.out HB2.out
 have y2' := zK HY1.out HB2.out
 have z2 := zK HZ1.out HB2.out
 have HX2 := zA.mk x2; have HZ2 := zA.mk z2
 have HLT := zA.mk (show w.heap.size + 1 + 1 < W1.heap.size from (Array.getElem?_eq_some_iff.1 HZ1.out).1)
 have HBW := zA.mk (zT HB1.out HB2.out)
 have d0 : w2.cell? ⟨b, x.toNat * 6, none⟩ = some (.bool _) := hK.at_ x.toNat 0 (by omega) (by omega)
 have d1 : w2.cell? ⟨b, x.toNat * 6 + 1, none⟩ = some (.bool _) := hK.at_ x.toNat 1 (by omega) (by omega)
 have d2 : w2.cell? ⟨b, x.toNat * 6 + 2, none⟩ = some (.int .u64 _) := hK.at_ x.toNat 2 (by omega) (by omega)
 have d3 : w2.cell? ⟨b, x.toNat * 6 + 3, none⟩ = some (.int .i64 _) := hK.at_ x.toNat 3 (by omega) (by omega)
 have d4 : w2.cell? ⟨b, x.toNat * 6 + 4, none⟩ = some (.int .i64 _) := hK.at_ x.toNat 4 (by omega) (by omega)
 have d5 : w2.cell? ⟨b, x.toNat * 6 + 5, none⟩ = some (.int .i64 _) := hK.at_ x.toNat 5 (by omega) (by omega)
 have f0 := hK.frozen (x.toNat * 6)
 have f1 := hK.frozen (x.toNat * 6 + 1)
 have f2 := hK.frozen (x.toNat * 6 + 2)
 have f3 := hK.frozen (x.toNat * 6 + 3)
 have f4 := hK.frozen (x.toNat * 6 + 4)
 have f5 := hK.frozen (x.toNat * 6 + 5)
 have g0 := (show w2.cell? ⟨w.heap.size + 1, 0, none⟩ = some (.bool y0) from (zF y2' 0).trans rfl)
 have g1 := (show w2.cell? ⟨w.heap.size + 1, 1, none⟩ = some (.bool y1) from (zF y2' 1).trans rfl)
 have g2 := (show w2.cell? ⟨w.heap.size + 1, 2, none⟩ = some (.int .u64 y2) from (zF y2' 2).trans rfl)
 have g3 := (show w2.cell? ⟨w.heap.size + 1, 3, none⟩ = some (.int .i64 y3) from (zF y2' 3).trans rfl)
 have g4 := (show w2.cell? ⟨w.heap.size + 1, 4, none⟩ = some (.int .i64 y4) from (zF y2' 4).trans rfl)
 have g5 := (show w2.cell? ⟨w.heap.size + 1, 5, none⟩ = some (.int .i64 y5) from (zF y2' 5).trans rfl)
 clear a1 hR2 HR2 HR HR1 x2 y2' z2 hb hK
 go_upto_region 3 with (fail)
 have HK3 := zA.mk (HK.out.zaC x.toNat (by omega) ⟨y0, y1, y2, y3, y4, y5⟩)
 change zA (Bk (set6 w2 b (x.toNat * 6) (.bool y0) (.bool y1) (.int .u64 y2) (.int .i64 y3) (.int .i64 y4) (.int .i64 y5)) b cap (t.ns.set x.toNat ⟨y0, y1, y2, y3, y4, y5⟩)) at HK3
 have hx3 := set6_far (b := b) HX2.out (by have := HLT.out; have := HB.out; omega) (x.toNat * 6) (.bool y0) (.bool y1) (.int .u64 y2) (.int .i64 y3) (.int .i64 y4) (.int .i64 y5)
 have hz3 := set6_far (b := b) HZ2.out (by have := HLT.out; have := HB.out; omega) (x.toNat * 6) (.bool y0) (.bool y1) (.int .u64 y2) (.int .i64 y3) (.int .i64 y4) (.int .i64 y5)
 have HBW3 := zA.mk (set6_below (b := b) HBW.out (by have := HLT.out; have := HB.out; omega) (x.toNat * 6) (.bool y0) (.bool y1) (.int .u64 y2) (.int .i64 y3) (.int .i64 y4) (.int .i64 y5))
 clear d0 d1 d2 d3 d4 d5 f0 f1 f2 f3 f4 f5 g0 g1 g2 g3 g4 g5
 change Code.wp _ _ _ _ (set6 w2 b (x.toNat * 6) (.bool y0) (.bool y1) (.int .u64 y2) (.int .i64 y3) (.int .i64 y4) (.int .i64 y5))
 generalize set6 w2 b (x.toNat * 6) (.bool y0) (.bool y1) (.int .u64 y2) (.int .i64 y3) (.int .i64 y4) (.int .i64 y5) = W3 at HK3 hx3 hz3 HBW3 ⊢
 have HZ3 := zA.mk hz3
 have a1 := (show W3.cell? ⟨w.heap.size, 0, none⟩ = some (.int .i64 t.rt) from (zF hx3 0).trans rfl)
 have z0 := (show W3.cell? ⟨w.heap.size + 1 + 1, 0, none⟩ = some (.int .i64 0) from (zF hz3 0).trans rfl)
 have z1 := (show W3.cell? ⟨w.heap.size + 1 + 1, 1, none⟩ = some (.slice none 0 0) from (zF hz3 1).trans rfl)
 have f0 := zL hz3 0
 have f1 := zL hz3 1
 clear hx3 hz3
 have HT := zA.mk (show Tv own S N W3 (some ⟨b, 0, none⟩) cap (sn t x.toNat ⟨y0, y1, y2, y3, y4, y5⟩).ns from ⟨HK3.out.le, .inr (HK3.out.toR (by have := HLT.out; have := HB.out; have := HN.out; omega))⟩)
 have HSL := zA.mk (qA t x.toNat ⟨y0, y1, y2, y3, y4, y5⟩)
 have HLEN := zA.mk (show w.heap.size ≤ w.heap.size + 1 + 1 by omega)
 have FIN := zA.mk (vO.fin (t := sn t x.toNat ⟨y0, y1, y2, y3, y4, y5⟩) HBW3.out HLEN.out HT.out HZ3.out (Nat.le_trans HS.out HLEN.out))
 rw [HSL.out] at FIN
 go_wp2
 refine bodyPost_ret (xP (cs := #[.int .i64 t.rt, .slice (some ⟨b, 0, none⟩) t.ns.length cap]) rfl _ _ (w.heap.size + 1 + 1) 24 (0, 0) _ rfl (jZ HZ3.out rfl _ _) Tryd.underlying24 rfl (by kernel_rfl)) rfl ?_
 exact FIN.out
set_option maxHeartbeats 4000000 in
set_option maxRecDepth 100000 in
theorem xB {own : Bool} {S N : Nat} (A : Option Addr) (c : Nat) (h : Tv own S N w A c t.ns) (hS : S ≤ w.heap.size) (hN : N ≤ w.heap.size) (hl : t.ns.length ≤ 1000000) (x : Int) (hx : x < t.ns.length) (is : Bool) :
  Calls Tryd.prog 52 #[.agg #[.int .i64 t.rt, .slice A t.ns.length c], .int .i64 x, .bool is] w fun e w' => vO own S N w (zQ t is x) e w' := by
 have HR := zA.mk h; have HL := zA.mk hl; have HS := zA.mk hS; have HN := zA.mk hN; clear h hl hS hN
 go_enter Tryd.func52, Tryd.ntmps52
 go_upto_region 1 with (fail)
 have HB1 := zA.mk (zH (zH (Below.refl w.heap.size w) (.cells #[.int .i64 t.rt, .slice A t.ns.length c] 24)) (.cells #[.int .i64 0, .slice none 0 0] 24))
 have H1 := yM w (.cells #[.int .i64 t.rt, .slice A t.ns.length c] 24)
 have H3 := yM (w.alloc (.cells #[.int .i64 t.rt, .slice A t.ns.length c] 24)) (.cells #[.int .i64 0, .slice none 0 0] 24)
 have HX1 := zA.mk (zK H1 (zH (Below.refl _ _) (.cells #[.int .i64 0, .slice none 0 0] 24)))
 have HZ1 := zA.mk H3; clear H1 H3
 simp only [World.size_alloc] at HZ1
 generalize (w.alloc (.cells #[.int .i64 t.rt, .slice A t.ns.length c] 24)).alloc (.cells #[.int .i64 0, .slice none 0 0] 24) = W1 at HB1 HX1 HZ1 ⊢
 have HR1 := zA.mk (HR.out.below HB1.out)
 have a0 := (show W1.cell? ⟨w.heap.size, 0, none⟩ = some (.int .i64 t.rt) from (zF HX1.out 0).trans rfl)
 have a1 := (show W1.cell? ⟨w.heap.size, 1, none⟩ = some (.slice A t.ns.length c) from (zF HX1.out 1).trans rfl)
 have z0 := (show W1.cell? ⟨w.heap.size + 1, 0, none⟩ = some (.int .i64 0) from (zF HZ1.out 0).trans rfl)
 have z1 := (show W1.cell? ⟨w.heap.size + 1, 1, none⟩ = some (.slice none 0 0) from (zF HZ1.out 1).trans rfl)
 have f0 := zL HZ1.out 0
 have f1 := zL HZ1.out 1
 have HLE := zA.mk (show w.heap.size ≤ w.heap.size + 1 by omega)
 by_cases h0 : x < 0
 ·have FIN := zA.mk (vO.fin (t := t) HB1.out HLE.out HR1.out HZ1.out (Nat.le_trans HS.out HLE.out))
  have HP := zA.mk (show zQ t is x = t by unfold zQ; rw [if_neg (by omega)])
  go_wp2
  refine bodyPost_ret (xP (cs := #[.int .i64 t.rt, .slice A t.ns.length c]) rfl _ _ (w.heap.size + 1) 24 (0, 0) _ rfl (jZ HZ1.out rfl _ _) Tryd.underlying24 rfl (by kernel_rfl)) rfl ?_
  rw [HP.out]
  exact FIN.out
 have h1 : decide (x < 0) = false := decide_eq_false h0
 have h2 : 0 ≤ x := by omega
 obtain ⟨ad, rfl, d0, d1, d2, d3, d4, d5⟩ := zbK HR1.out.rd x h2 hx
 go_upto_region 5 with (fail)
 have HB2 := zA.mk (zH (Below.refl W1.heap.size W1) (.cells #[.bool (gn t x.toNat).inn, .bool is, .int .u64 (gn t x.toNat).v, .int .i64 (kidA t x false), .int .i64 (kidA t x true), .int .i64 (upA t x)] 57))
 have HN2 := zA.mk (yM W1 (.cells #[.bool (gn t x.toNat).inn, .bool is, .int .u64 (gn t x.toNat).v, .int .i64 (kidA t x false), .int .i64 (kidA t x true), .int .i64 (upA t x)] 57))
 have HBW2 := zA.mk (zT HB1.out HB2.out)
 have x2 := zK HX1.out HB2.out
 have z2 := zK HZ1.out HB2.out
 have HR2 := zA.mk (HR1.out.below HB2.out)
 generalize W1.alloc (.cells #[.bool (gn t x.toNat).inn, .bool is, .int .u64 (gn t x.toNat).v, .int .i64 (kidA t x false), .int .i64 (kidA t x true), .int .i64 (upA t x)] 57) = W2 at HBW2 HN2 x2 z2 HR2 ⊢
 clear HB2 a0 a1 z0 z1 f0 f1 d0 d1 d2 d3 d4 d5; have hn2 := HN2.out
 generalize W1.heap.size = g2 at hn2 ⊢
 have HZ2 := zA.mk z2
 have a0 := (show W2.cell? ⟨w.heap.size, 0, none⟩ = some (.int .i64 t.rt) from (zF x2 0).trans rfl)
 have a1 := (show W2.cell? ⟨w.heap.size, 1, none⟩ = some (.slice (some ad) t.ns.length c) from (zF x2 1).trans rfl)
 have b0 := (show W2.cell? ⟨g2, 0, none⟩ = some (.bool (gn t x.toNat).inn) from (zF hn2 0).trans rfl)
 have b1 := (show W2.cell? ⟨g2, 1, none⟩ = some (.bool is) from (zF hn2 1).trans rfl)
 have b2 := (show W2.cell? ⟨g2, 2, none⟩ = some (.int .u64 (gn t x.toNat).v) from (zF hn2 2).trans rfl)
 have b3 := (show W2.cell? ⟨g2, 3, none⟩ = some (.int .i64 (kidA t x false)) from (zF hn2 3).trans rfl)
 have b4 := (show W2.cell? ⟨g2, 4, none⟩ = some (.int .i64 (kidA t x true)) from (zF hn2 4).trans rfl)
 have b5 := (show W2.cell? ⟨g2, 5, none⟩ = some (.int .i64 (upA t x)) from (zF hn2 5).trans rfl)
 have HSX := zA.mk (Nat.le_trans HS.out HBW2.out.size)
 have HNX := zA.mk (Nat.le_trans HN.out HBW2.out.size)
 have HP := zA.mk (show sn t x.toNat ⟨(gn t x.toNat).inn, is, (gn t x.toNat).v, kidA t x false, kidA t x true, upA t x⟩ = zQ t is x by unfold zQ; rw [if_pos h2]; rfl)
 clear x2 z2 hn2
 go_wp2_with (go_at_call 42; refine (zbI (own := own) (S := S) (N := N) (t := t) (some ad) c HR2.out.rd HSX.out HNX.out HL.out x h2 hx ⟨(gn t x.toNat).inn, is, (gn t x.toNat).v, kidA t x false, kidA t x true, upA t x⟩).mono ?_; rintro e w3 ⟨A3, c3, rfl, hT, hB⟩; rw [HP.out] at hT; have HT3 := zA.mk hT; have HZ3 := zA.mk (zK HZ2.out hB); have HB3 := zA.mk (zT HBW2.out hB); have z0 := (show w3.cell? ⟨w.heap.size + 1, 0, none⟩ = some (.int .i64 0) from (zF HZ3.out 0).trans rfl); have z1 := (show w3.cell? ⟨w.heap.size + 1, 1, none⟩ = some (.slice none 0 0) from (zF HZ3.out 1).trans rfl); have f0 := zL HZ3.out 0; have f1 := zL HZ3.out 1; rw [HP.out]; clear hT hB)
 refine bodyPost_ret (xP (cs := #[.int .i64 (zQ t is x).rt, .slice A3 (zQ t is x).ns.length c3]) rfl _ _ (w.heap.size + 1) 24 (0, 0) _ rfl (jZ HZ3.out rfl _ _) Tryd.underlying24 rfl (by kernel_rfl)) rfl ?_
 exact vO.fin HB3.out HLE.out HT3.out HZ3.out (Nat.le_trans HS.out HLE.out)
end Go.Proofs.YtfapmcpmfeigbaaDoor.Tm
