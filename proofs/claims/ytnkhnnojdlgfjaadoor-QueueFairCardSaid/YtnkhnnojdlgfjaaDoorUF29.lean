/- Parts of the proof, joined: KLib2, Q1. -/
import Derived.Test.YtnkhnnojdlgfjaaDoorUF28
import Derived.Test.YtnkhnnojdlgfjaaDoorUF23
import Derived.Test.YtnkhnnojdlgfjaaDoorUF19
import Derived.Test.YtnkhnnojdlgfjaaDoorUF15
import Derived.Test.YtnkhnnojdlgfjaaDoorUF18
import Derived.Laws.EntriesVeiled
section
namespace Go.Proofs.YtnkhnnojdlgfjaaDoor.Srt
open Go.RowKit Go Go.Proofs Go.Proofs.YtnkhnnojdlgfjaaDoor Go.Proofs.YtnkhnnojdlgfjaaDoor.Ky Go.Proofs.YtnkhnnojdlgfjaaDoorW.PrintWords Go.Proofs.YtnkhnnojdlgfjaaDoorW.PrintLast Go.Proofs.YtnkhnnojdlgfjaaDoorW.PrintMore
set_option linter.unusedVariables false
set_option linter.unusedSimpArgs false
variable {rs : List Value}
set_option maxHeartbeats 4000000 in
set_option maxRecDepth 100000 in
theorem insertion0 (A : Option Addr) (c : Nat) (F : Value) (w : World) : Calls Tryd.prog 94 #[.slice A 0 c, .int .i64 0, .int .i64 0, F] w fun e w' => e = .returned (.tuple #[]) ∧ w = w' := by
  go_enter Tryd.func94, Tryd.ntmps94
  go_wp2
  go_loopw [8] (fun i wr => i = .int .i64 1 ∧ w = wr) (fun _ _ => 0)
  case atStart => exact ⟨by simp, rfl⟩
  case round =>
    obtain ⟨rfl, rfl⟩ := hrel
    go_wp2
    go_end0
    exact ⟨rfl, rfl⟩
set_option maxHeartbeats 4000000 in
set_option maxRecDepth 100000 in
theorem stable0 (A : Option Addr) (c : Nat) (F : Value) (w : World) : Calls Tryd.prog 91 #[.slice A 0 c, .int .i64 0, F] w fun e w' => e = .returned (.tuple #[]) ∧ w = w' := by
  go_enter Tryd.func91, Tryd.ntmps91
  go_wp2
  go_loopw [7, 8] (fun i j wr => i = .int .i64 0 ∧ j = .int .i64 20 ∧ w = wr) (fun _ _ _ => 0)
  case atStart => exact ⟨by simp, by simp, rfl⟩
  case round =>
    obtain ⟨rfl, rfl, rfl⟩ := hrel
    go_wp2_with (go_at_call 94; (with_reducible refine (insertion0 A c F _).mono ?_); rintro e w' ⟨rfl, rfl⟩)
    go_loopw [6] (fun i wr => i = .int .i64 20 ∧ w = wr) (fun _ _ => 0)
    case atStart => exact ⟨by simp, rfl⟩
    case round =>
      obtain ⟨rfl, rfl⟩ := hrel
      go_wp2
      go_end0
      exact ⟨rfl, rfl⟩
set_option maxHeartbeats 4000000 in
set_option maxRecDepth 100000 in
theorem sortStable0 (A : Option Addr) (c : Nat) (F : Value) (w : World) : Calls Tryd.prog 80 #[.slice A 0 c, F] w fun e w' => e = .returned (.tuple #[]) ∧ w = w' := by
  go_enter Tryd.func80, Tryd.ntmps80
  go_wp2_with (go_at_call 91; (with_reducible refine (stable0 A c F _).mono ?_); rintro e w' ⟨rfl, rfl⟩)
  go_end0
  exact ⟨rfl, rfl⟩
section
variable {mn : Int} {cv : K → K → Int} (O : Ord cv) (hc : Cmp26 mn cv)
include O hc
set_option maxHeartbeats 4000000 in
set_option maxRecDepth 100000 in
theorem keySort (A0 : Option Addr) (c0 : Nat) (l : List K) (w : World) (hr : kp.C w A0 l.length l) (hl : l.length ≤ 1000000) :
    Calls Tryd.prog 59 #[.int .u64 mn, .slice A0 l.length c0] w fun e w' => ∃ (v0_ : Value) (l' : List K), e = .returned v0_ ∧ kp.R 47 w' w.heap.size (fun _ => True) v0_ l' ∧ l'.Perm l ∧ Srd cv l' 0 l.length ∧ Below w.heap.size w w' := by
  have HR := Aside0.mk (Kd.C_below hr ((Below.refl _ w).alloc (Nat.le_refl _) (.cells #[.int .u64 mn] 22)))
  have HC := Aside0.mk (cmp_30 hc w.heap.size)
  have HB0 := Aside0.mk (below_alloc (Below.refl w.heap.size w) (.cells #[.int .u64 mn] 22))
  have HX := Aside0.mk (blk_new w (.cells #[.int .u64 mn] 22))
  clear hr hc
  go_enter Tryd.func59, Tryd.ntmps59
  go_wp2_with (go_at_call 79; (with_reducible refine (clone_any A0 c0 l _ HR.out hl).mono ?_); rintro e w1 ⟨v0, rfl, hR, hb⟩; have HR1 := Aside0.mk hR; have HB1 := Aside0.mk (below_step HB0.out hb); have HX1 := Aside0.mk (blk_below HX.out hb); clear hR hb)
  rcases Nat.eq_zero_or_pos l.length with h0 | h0
  · obtain rfl := List.eq_nil_of_length_eq_zero h0
    obtain ⟨A, c, rfl⟩ := Kd.R_slice HR1.out
    refine (sortStable0 A c _ _).mono ?_
    rintro e w3 ⟨rfl, rfl⟩
    go_wp2
    go_ret
    exact ⟨_, [], rfl, Kd.R_lower HR1.out (by simp), List.Perm.refl _, fun i j h1 h2 h3 => by simp at h3, HB1.out⟩
  · obtain ⟨g, cap, rs, rfl, hg, _, hn, hm, hs, hA⟩ := R_arr HR1.out h0
    have hg' : w.heap.size + 1 ≤ g := by simpa using hg
    have HA := Aside0.mk hA
    have HX2 := Aside0.mk ((blk_cell HX1.out 0).trans rfl)
    have hne : w.heap.size ≠ g := by omega
    clear hA hg HR1 HR HX HX1
    refine (sortStable O HC.out g l.length cap hne l _ HA.out HX2.out rfl hl).mono ?_
    rintro e w3 ⟨rfl, ⟨l', hA3, hP3, hS3⟩, hG3⟩
    have HA3 := Aside0.mk hA3
    have HP3 := Aside0.mk hP3
    have HS3 := Aside0.mk hS3
    have HG3 := Aside0.mk hG3
    clear hA3 hP3 hS3 hG3
    go_wp2
    go_ret
    have e1 := HP3.out.length_eq
    refine ⟨_, l', rfl, ?_, HP3.out, HS3.out, Below.grown HB1.out HG3.out HB1.out.size (fun k hk => by injection hk with hk; omega)⟩
    have h := arr_R (base := w.heap.size) (cap := cap) (ok := fun _ => True) HA3.out (by omega) trivial (by omega) hm (by rw [e1]; exact hs)
    rwa [e1] at h
end
end Go.Proofs.YtnkhnnojdlgfjaaDoor.Srt
end
section
namespace Go.Proofs.YtnkhnnojdlgfjaaDoor.Qw
open Go.RowKit Go Go.Proofs Go.Proofs.YtnkhnnojdlgfjaaDoor Go.Proofs.YtnkhnnojdlgfjaaDoor.Tr Go.Proofs.YtnkhnnojdlgfjaaDoor.Tk Go.Proofs.YtnkhnnojdlgfjaaDoor.Tm Go.Proofs.YtnkhnnojdlgfjaaDoor.Qu Go.Proofs.YtnkhnnojdlgfjaaDoorW.PrintWords Go.Proofs.YtnkhnnojdlgfjaaDoorW.PrintLast Go.Proofs.YtnkhnnojdlgfjaaDoorW.PrintMore
set_option linter.unusedVariables false
set_option linter.unusedSimpArgs false
abbrev ki : Kd Int := Kd.int .i64
abbrev qc (A : Option Addr) (c : Nat) (B : Option Addr) (d : Nat) (q : Q) : Array Value := #[.int .i64 q.t.rt, .slice A q.t.ns.length c, .int .i64 q.cur, .int .u64 q.v, .int .u64 q.mn, .int .i64 q.load, .slice B q.ws.length d]
structure Ag (S : Nat → Prop) (w W : World) : Prop where mk ::
  size : w.heap.size ≤ W.heap.size
  out : ∀ k, k < w.heap.size → ¬ S k → W.heap[k]? = w.heap[k]?
theorem Ag.refl (S : Nat → Prop) (w : World) : Ag S w w := ⟨Nat.le_refl _, fun _ _ _ => rfl⟩
theorem Ag.trans {S : Nat → Prop} {w W W' : World} (h : Ag S w W) (k : Ag S W W') : Ag S w W' := ⟨Nat.le_trans h.size k.size, fun i h1 h2 => (k.out i (Nat.lt_of_lt_of_le h1 h.size) h2).trans (h.out i h1 h2)⟩
theorem Ag.of_below {S : Nat → Prop} {w W : World} (h : Below w.heap.size w W) : Ag S w W := ⟨h.size, fun k h1 _ => h.block k h1⟩
theorem Ag.set {S : Nat → Prop} {w W : World} (h : Ag S w W) {p : Addr} (hp : S p.block ∨ w.heap.size ≤ p.block) (u : Value) : Ag S w (W.setCell p u) := ⟨by simpa [World.setCell] using h.size, fun k h1 h2 => (Below.heap_setCell W p u k (by
  intro e
  subst e
  rcases hp with hp | hp
  · exact h2 hp
  · omega)).trans (h.out k h1 h2)⟩
structure QIn (S : Nat → Prop) (A : Option Addr) (c : Nat) (B : Option Addr) (d : Nat) (w : World) (q : Q) : Prop where mk ::
  sl : ∀ k, S k → k < w.heap.size
  tr : ∀ W, Ag S w W → kn.C W A q.t.ns.length q.t.ns
  tl : q.t.ns.length ≤ 1000000
  tc : q.t.ns.length ≤ c
  wr : ∀ W, Ag S w W → ki.C W B q.ws.length q.ws
  wl : q.ws.length ≤ 1000000
  wc : q.ws.length ≤ d
section
variable {S S' : Nat → Prop} {A B : Option Addr} {c d : Nat} {w w' : World} {q : Q}
theorem QIn.trC (h : QIn S A c B d w q) : kn.C w A q.t.ns.length q.t.ns := h.tr w (Ag.refl _ _)
theorem QIn.wrC (h : QIn S A c B d w q) : ki.C w B q.ws.length q.ws := h.wr w (Ag.refl _ _)
theorem QIn.ag (h : QIn S A c B d w q) (hb : Ag S w w') : QIn S A c B d w' q := ⟨fun k hk => Nat.lt_of_lt_of_le (h.sl k hk) hb.size, fun W hW => h.tr W (hb.trans hW), h.tl, h.tc, fun W hW => h.wr W (hb.trans hW), h.wl, h.wc⟩
theorem QIn.below (h : QIn S A c B d w q) (hb : Below w.heap.size w w') : QIn S A c B d w' q := h.ag (Ag.of_below hb)
theorem QIn.more (h : QIn S A c B d w q) (hb : Below w.heap.size w w') (hs : ∀ k, S' k → S k ∨ w.heap.size ≤ k) (hl : ∀ k, S' k → k < w'.heap.size) : QIn S' A c B d w' q := by
  have hag : ∀ W, Ag S' w' W → Ag S w W := fun W hW => ⟨Nat.le_trans hb.size hW.size, fun k h1 h2 => (hW.out k (Nat.lt_of_lt_of_le h1 hb.size) (fun e => by
    rcases hs k e with e | e
    · exact h2 e
    · omega)).trans (hb.block k h1)⟩
  exact ⟨hl, fun W hW => h.tr W (hag W hW), h.tl, h.tc, fun W hW => h.wr W (hag W hW), h.wl, h.wc⟩
theorem QIn.less (h : QIn S' A c B d w q) (hs : ∀ k, S k → S' k) : QIn S A c B d w q := by
  have hag : ∀ W, Ag S w W → Ag S' w W := fun W hW => ⟨hW.size, fun k h1 h2 => hW.out k h1 (fun e => h2 (hs k e))⟩
  exact ⟨fun k hk => h.sl k (hs k hk), fun W hW => h.tr W (hag W hW), h.tl, h.tc, fun W hW => h.wr W (hag W hW), h.wl, h.wc⟩
theorem QIn.zero (S : Nat → Prop) (w : World) (hs : ∀ k, S k → k < w.heap.size) : QIn S none 0 none 0 w q0 := ⟨hs, fun W _ => Kd.C_nil kn W, Nat.zero_le _, Nat.le_refl _, fun W _ => Kd.C_nil ki W, Nat.zero_le _, Nat.le_refl _⟩
theorem QIn.tree {w0 : World} {A' : Option Addr} {c' : Nat} {t' : St} (h : QIn S A c B d w q) (hR : kn.R 74 w w0.heap.size (fun _ => True) (.slice A' t'.ns.length c') t'.ns) (hs : ∀ k, S k → k < w0.heap.size) (hl : t'.ns.length ≤ 1000000) : QIn S A' c' B d w { q with t := t' } :=
  ⟨h.sl, fun W hW => (Kd.R_reads' (Kd.R_step (Kd.R_bound hR) (fun k hk hlt => hW.out k hlt (fun e => by have := hs k e; have := hk.2.1; omega)))).2.2, hl, (Kd.R_reads' hR).2.1, h.wr, h.wl, h.wc⟩
theorem QIn.weights {w0 : World} {B' : Option Addr} {d' : Nat} {ws' : List Int} (h : QIn S A c B d w q) (hR : ki.R 3 w w0.heap.size (fun _ => True) (.slice B' ws'.length d') ws') (hs : ∀ k, S k → k < w0.heap.size) (hl : ws'.length ≤ 1000000) : QIn S A c B' d' w { q with ws := ws' } :=
  ⟨h.sl, h.tr, h.tl, h.tc, fun W hW => (Kd.R_reads' (Kd.R_step (Kd.R_bound hR) (fun k hk hlt => hW.out k hlt (fun e => by have := hs k e; have := hk.2.1; omega)))).2.2, hl, (Kd.R_reads' hR).2.1⟩
theorem QIn.fields (h : QIn S A c B d w q) {q' : Q} (h1 : q'.t.ns = q.t.ns) (h2 : q'.ws = q.ws) : QIn S A c B d w q' := by
  obtain ⟨⟨ns, rt⟩, cur, v, mn, load, ws⟩ := q
  obtain ⟨⟨ns', rt'⟩, cur', v', mn', load', ws'⟩ := q'
  obtain rfl : ns' = ns := h1
  obtain rfl : ws' = ws := h2
  exact ⟨h.sl, h.tr, h.tl, h.tc, h.wr, h.wl, h.wc⟩
structure QPost (S : Nat → Prop) (w : World) (q : Q) (u : Value) (w' : World) : Prop where mk ::
  out : ∃ A c B d, u = .agg (qc A c B d q) ∧ QIn S A c B d w' q ∧ Below w.heap.size w w'
end
structure QB (rt : Int) (A : Option Addr) (n c : Nat) (cur v mn load : Int) (B : Option Addr) (m d : Nat) (W : World) (g : Nat) : Prop where mk ::
  out : W.heap[g]? = some (.cells #[.int .i64 rt, .slice A n c, .int .i64 cur, .int .u64 v, .int .u64 mn, .int .i64 load, .slice B m d] 28 (0, 0))
section
variable {A B : Option Addr} {c d n m : Nat} {W W' : World} {rt cur v mn load : Int} {g : Nat}
theorem QB.moved (h : QB rt A n c cur v mn load B m d W g) (hb : W'.heap[g]? = W.heap[g]?) : QB rt A n c cur v mn load B m d W' g := ⟨hb.trans h.out⟩
theorem QB.below (h : QB rt A n c cur v mn load B m d W g) (hb : Below W.heap.size W W') : QB rt A n c cur v mn load B m d W' g := ⟨blk_below h.out hb⟩
theorem QB.c0 (h : QB rt A n c cur v mn load B m d W g) : W.cell? ⟨g, 0, none⟩ = some (.int .i64 rt) := (blk_cell h.out 0).trans rfl
theorem QB.c1 (h : QB rt A n c cur v mn load B m d W g) : W.cell? ⟨g, 1, none⟩ = some (.slice A n c) := (blk_cell h.out 1).trans rfl
theorem QB.c2 (h : QB rt A n c cur v mn load B m d W g) : W.cell? ⟨g, 2, none⟩ = some (.int .i64 cur) := (blk_cell h.out 2).trans rfl
theorem QB.c3 (h : QB rt A n c cur v mn load B m d W g) : W.cell? ⟨g, 3, none⟩ = some (.int .u64 v) := (blk_cell h.out 3).trans rfl
theorem QB.c4 (h : QB rt A n c cur v mn load B m d W g) : W.cell? ⟨g, 4, none⟩ = some (.int .u64 mn) := (blk_cell h.out 4).trans rfl
theorem QB.c5 (h : QB rt A n c cur v mn load B m d W g) : W.cell? ⟨g, 5, none⟩ = some (.int .i64 load) := (blk_cell h.out 5).trans rfl
theorem QB.c6 (h : QB rt A n c cur v mn load B m d W g) : W.cell? ⟨g, 6, none⟩ = some (.slice B m d) := (blk_cell h.out 6).trans rfl
theorem QB.new (w : World) (rt : Int) (A : Option Addr) (n c : Nat) (cur v mn load : Int) (B : Option Addr) (m d : Nat) : QB rt A n c cur v mn load B m d (w.alloc (.cells #[.int .i64 rt, .slice A n c, .int .i64 cur, .int .u64 v, .int .u64 mn, .int .i64 load, .slice B m d] 28)) w.heap.size := ⟨blk_new w _⟩
theorem QB.frozen (h : QB rt A n c cur v mn load B m d W g) (i : Nat) : W.frozen? ⟨g, i, none⟩ = false := blk_frozen h.out i
theorem QB.lt (h : QB rt A n c cur v mn load B m d W g) : g < W.heap.size := World.block_lt_of_cell? W _ h.c0
theorem QB.st2 (h : QB rt A n c cur v mn load B m d W g) (x : Int) : QB rt A n c x v mn load B m d (W.setCell ⟨g, 2, none⟩ (.int .i64 x)) g := ⟨(blk_set h.out 2 _).trans rfl⟩
theorem QB.st3 (h : QB rt A n c cur v mn load B m d W g) (x : Int) : QB rt A n c cur x mn load B m d (W.setCell ⟨g, 3, none⟩ (.int .u64 x)) g := ⟨(blk_set h.out 3 _).trans rfl⟩
theorem QB.st4 (h : QB rt A n c cur v mn load B m d W g) (x : Int) : QB rt A n c cur v x load B m d (W.setCell ⟨g, 4, none⟩ (.int .u64 x)) g := ⟨(blk_set h.out 4 _).trans rfl⟩
theorem QB.st5 (h : QB rt A n c cur v mn load B m d W g) (x : Int) : QB rt A n c cur v mn x B m d (W.setCell ⟨g, 5, none⟩ (.int .i64 x)) g := ⟨(blk_set h.out 5 _).trans rfl⟩
theorem QB.st6 (h : QB rt A n c cur v mn load B m d W g) (B' : Option Addr) (m' d' : Nat) : QB rt A n c cur v mn load B' m' d' (W.setCell ⟨g, 6, none⟩ (.slice B' m' d')) g := ⟨(blk_set h.out 6 _).trans rfl⟩
theorem QB.st01 (h : QB rt A n c cur v mn load B m d W g) (rt' : Int) (A' : Option Addr) (n' c' : Nat) : QB rt' A' n' c' cur v mn load B m d ((W.setCell ⟨g, 0, none⟩ (.int .i64 rt')).setCell ⟨g, 1, none⟩ (.slice A' n' c')) g := ⟨(blk_set (blk_set h.out 0 _) 1 _).trans rfl⟩
theorem QB.far (h : QB rt A n c cur v mn load B m d W g) {k : Nat} (hk : g ≠ k) (i : Nat) (u : Value) : QB rt A n c cur v mn load B m d (W.setCell ⟨k, i, none⟩ u) g := ⟨blk_far h.out (p := ⟨k, i, none⟩) hk u⟩
def set7 (W : World) (g : Nat) (v0 v1 v2 v3 v4 v5 v6 : Value) : World := ((((((W.setCell ⟨g, 0, none⟩ v0).setCell ⟨g, 1, none⟩ v1).setCell ⟨g, 2, none⟩ v2).setCell ⟨g, 3, none⟩ v3).setCell ⟨g, 4, none⟩ v4).setCell ⟨g, 5, none⟩ v5).setCell ⟨g, 6, none⟩ v6
theorem set7_out {cs : Array Value} {ty : TypeId} (h : W.heap[g]? = some (.cells cs ty (0, 0))) (hs : cs.size = 7) (v0 v1 v2 v3 v4 v5 v6 : Value) : (set7 W g v0 v1 v2 v3 v4 v5 v6).heap[g]? = some (.cells #[v0, v1, v2, v3, v4, v5, v6] ty (0, 0)) := by
  unfold set7
  rw [blk_set (blk_set (blk_set (blk_set (blk_set (blk_set (blk_set h 0 v0) 1 v1) 2 v2) 3 v3) 4 v4) 5 v5) 6 v6]
  obtain ⟨l⟩ := cs
  match l, hs with
  | [_, _, _, _, _, _, _], _ => rfl
theorem set7_other {k : Nat} (hk : k ≠ g) (v0 v1 v2 v3 v4 v5 v6 : Value) : (set7 W g v0 v1 v2 v3 v4 v5 v6).heap[k]? = W.heap[k]? := by
  unfold set7
  rw [Below.heap_setCell _ _ _ _ (by simpa using hk), Below.heap_setCell _ _ _ _ (by simpa using hk), Below.heap_setCell _ _ _ _ (by simpa using hk), Below.heap_setCell _ _ _ _ (by simpa using hk), Below.heap_setCell _ _ _ _ (by simpa using hk), Below.heap_setCell _ _ _ _ (by simpa using hk), Below.heap_setCell _ _ _ _ (by simpa using hk)]
theorem set7_below {M : Nat} {w0 : World} (h : Below M w0 W) (hg : M ≤ g) (v0 v1 v2 v3 v4 v5 v6 : Value) : Below M w0 (set7 W g v0 v1 v2 v3 v4 v5 v6) :=
  Below.setCell (Below.setCell (Below.setCell (Below.setCell (Below.setCell (Below.setCell (Below.setCell h (p := ⟨g, 0, none⟩) hg _) (p := ⟨g, 1, none⟩) hg _) (p := ⟨g, 2, none⟩) hg _) (p := ⟨g, 3, none⟩) hg _) (p := ⟨g, 4, none⟩) hg _) (p := ⟨g, 5, none⟩) hg _) (p := ⟨g, 6, none⟩) hg _
end
section
variable {S : Nat → Prop} {A B : Option Addr} {c d : Nat} {w w' : World} {q : Q}
set_option maxHeartbeats 2000000 in
set_option maxRecDepth 100000 in
theorem weighed_ (x : Int) (w : World) : Calls Tryd.prog 24 #[.int .i64 x] w fun e w' => e = .returned (.bool (weighedA x)) ∧ Below w.heap.size w w' := by
  have HB := Aside0.mk (Below.refl w.heap.size w)
  unfold weighedA
  by_cases h : 1 ≤ x
  · have e1 : decide (1 ≤ x) = true := decide_eq_true h
    rw [e1, Bool.true_and]
    go_enter Tryd.func24, Tryd.ntmps24
    go_wp2
    go_ret
    exact ⟨rfl, HB.out⟩
  · have e1 : decide (1 ≤ x) = false := decide_eq_false h
    rw [e1, Bool.false_and]
    go_enter Tryd.func24, Tryd.ntmps24
    go_wp2
    go_ret
    exact ⟨rfl, HB.out⟩
set_option maxHeartbeats 2000000 in
set_option maxRecDepth 100000 in
theorem known_ (id : Int) (h : QIn S A c B d w q) : Calls Tryd.prog 23 #[.agg (qc A c B d q), .int .i64 id] w fun e w' => e = .returned (.bool (knownA q id)) ∧ Below w.heap.size w w' := by
  obtain ⟨⟨ns, rt⟩, cur, v, mn, load, ws⟩ := q
  clear h
  show Calls Tryd.prog 23 #[.agg #[.int .i64 rt, .slice A ns.length c, .int .i64 cur, .int .u64 v, .int .u64 mn, .int .i64 load, .slice B ws.length d], .int .i64 id] w fun e w' => e = .returned (.bool (decide (0 ≤ id) && decide (id < (ws.length : Int)))) ∧ Below w.heap.size w w'
  generalize ws.length = n
  generalize ns.length = m
  have HB := Aside0.mk (below_alloc (Below.refl w.heap.size w) (.cells #[.int .i64 rt, .slice A m c, .int .i64 cur, .int .u64 v, .int .u64 mn, .int .i64 load, .slice B n d] 28))
  by_cases h : 0 ≤ id
  · have e1 : decide (0 ≤ id) = true := decide_eq_true h
    rw [e1, Bool.true_and]
    go_enter Tryd.func23, Tryd.ntmps23
    go_wp2
    go_ret
    exact ⟨rfl, HB.out⟩
  · have e1 : decide (0 ≤ id) = false := decide_eq_false h
    rw [e1, Bool.false_and]
    go_enter Tryd.func23, Tryd.ntmps23
    go_wp2
    go_ret
    exact ⟨rfl, HB.out⟩
set_option maxHeartbeats 4000000 in
set_option maxRecDepth 100000 in
theorem here_ (id : Int) (h : QIn S A c B d w q) (h0 : 0 ≤ id) (h1 : id < q.t.ns.length) : Calls Tryd.prog 26 #[.agg (qc A c B d q), .int .i64 id] w fun e w' => e = .returned (.bool (hereA q id)) ∧ Below w.heap.size w w' := by
  obtain ⟨⟨ns, rt⟩, cur, v, mn, load, ws⟩ := q
  have HB := Aside0.mk (below_alloc (Below.refl w.heap.size w) (.cells #[.int .i64 rt, .slice A ns.length c, .int .i64 cur, .int .u64 v, .int .u64 mn, .int .i64 load, .slice B ws.length d] 28))
  obtain ⟨ad, e0, d0, d1, d2, d3, d4, d5⟩ := kn_at (Kd.C_below h.trC HB.out) id h0 h1
  clear d1 d2 d3 d4 d5 h
  subst e0
  replace h1 : id < (ns.length : Int) := h1
  show Calls Tryd.prog 26 #[.agg #[.int .i64 rt, .slice (some ad) ns.length c, .int .i64 cur, .int .u64 v, .int .u64 mn, .int .i64 load, .slice B ws.length d], .int .i64 id] w fun e w' => e = .returned (.bool (cur == id || inA ⟨ns, rt⟩ id)) ∧ Below w.heap.size w w'
  replace d0 : (w.alloc (.cells #[.int .i64 rt, .slice (some ad) ns.length c, .int .i64 cur, .int .u64 v, .int .u64 mn, .int .i64 load, .slice B ws.length d] 28)).cell? (ad.add (id.toNat * 6)) = some (.bool (inA ⟨ns, rt⟩ id)) := d0
  generalize inA ⟨ns, rt⟩ id = bi at d0 ⊢
  generalize ws.length = n at d0 HB ⊢
  generalize ns.length = m at d0 HB h1 ⊢
  cases e1 : (cur == id) with
  | true =>
    rw [Bool.true_or]
    clear d0
    go_enter Tryd.func26, Tryd.ntmps26
    go_wp2
    go_ret
    exact ⟨rfl, HB.out⟩
  | false =>
    rw [Bool.false_or]
    go_enter Tryd.func26, Tryd.ntmps26
    go_wp2
    go_ret
    exact ⟨rfl, HB.out⟩
end
end Go.Proofs.YtnkhnnojdlgfjaaDoor.Qw
end
