/- Parts of the proof, joined: Rm6, Rm7. -/
import Derived.Test.YtfapmcpmfeigbaaDoorUD21
import Derived.Test.YtfapmcpmfeigbaaDoorUD22
import Derived.Test.YtfapmcpmfeigbaaDoorUD8
import Derived.Deep.RegionHeld3
import Derived.Test.YtfapmcpmfeigbaaDoorUD15
section
namespace Go.Proofs.YtfapmcpmfeigbaaDoor.Tm
open Go.RowKit Go Go.Proofs Go.Proofs.YtfapmcpmfeigbaaDoor Go.Proofs.YtfapmcpmfeigbaaDoor.Tr Go.Proofs.YtfapmcpmfeigbaaDoor.Tk Go.Proofs.YtfapmcpmfeigbaaDoorW.PrintWords Go.Proofs.YtfapmcpmfeigbaaDoorW.PrintLast Go.Proofs.YtfapmcpmfeigbaaDoorW.PrintMore
set_option linter.unusedVariables false
set_option linter.unusedSimpArgs false
variable {w : World} {t : St}
set_option maxHeartbeats 4000000 in
set_option maxRecDepth 100000 in
theorem rin_ (A : Option Addr) (c : Nat) (l : List Int) (hr : (Kd.int .i64).C w A l.length l) (hl : l.length ≤ 1000000) (x : Int) :
  Calls Tryd.prog 77 #[.slice A l.length c, .int .i64 x] w fun e w' => e = .returned (.bool (decide (x ∈ l))) ∧ w' = w := by
 have HR := zA.mk hr; clear hr
 go_enter Tryd.func77, Tryd.ntmps77
 go_wp2
 go_loopw [5] (fun vi wr => ∃ i : Nat, i ≤ l.length ∧ vi = .int .i64 i ∧ zA (wr = w) ∧ zA (x ∉ l.take i)) (fun vi _ => l.length - (intOf vi).toNat)
 case atStart => exact ⟨0, Nat.zero_le _, rfl, ⟨rfl⟩, ⟨by simp⟩⟩
 case round =>
  obtain ⟨i, hi, rfl, HW, HP⟩ := hrel
  obtain rfl := HW.out; clear HW
  by_cases hlt : i < l.length
  rotate_left
  ·obtain rfl : i = l.length := by omega
   have HS := zA.mk (show decide (x ∈ l) = false from decide_eq_false (by have := HP.out; rw [List.take_length] at this; exact this))
   go_wp2
   go_ret
   rw [HS.out]
   exact ⟨rfl, rfl⟩
  have hn : (i : Int) < (l.length : Int) := by omega
  have HN1 := zA.mk (show ((i : Int) + 1).toNat = i + 1 by omega)
  obtain ⟨ad, e1, c1⟩ := int_at HR.out i hlt
  subst e1
  obtain ⟨y, hy⟩ : ∃ y, y = l.getD i 0 := ⟨_, rfl⟩
  rw [← hy] at c1
  have HY := zA.mk (show y = l[i] by rw [hy, List.getD_eq_getElem?_getD, List.getElem?_eq_getElem hlt]; rfl)
  have HTK := zA.mk (List.take_succ_eq_append_getElem hlt)
  clear hy
  by_cases he : y = x
  ·have hq : (y == x) = true := by simpa using he
   have HS := zA.mk (show decide (x ∈ l) = true from decide_eq_true (by rw [← he, HY.out]; exact List.getElem_mem hlt))
   clear he
   go_wp2
   go_ret
   rw [HS.out]
   exact ⟨rfl, rfl⟩
  have hq : (y == x) = false := by simpa using he
  have HE := zA.mk he; clear he
  go_wp2
  refine ⟨⟨i + 1, by omega, by simp, ⟨by first | trivial | rfl⟩, ⟨?_⟩⟩, ?_⟩
  ·rw [HTK.out, ← HY.out]
   intro h
   rcases List.mem_append.1 h with h | h
   ·exact HP.out h
   ·exact HE.out (List.mem_singleton.1 h).symm
  ·show l.length - ((i : Int) + 1).toNat < l.length - (i : Int).toNat
   rw [HN1.out]
   omega
structure Nb (w0 w : World) (g k : Nat) (t : St) (A : Option Addr) (c : Nat) (n : Nd) : Prop where mk ::
 tb : w.heap[g]? = some (.cells #[.int .i64 t.rt, .slice A t.ns.length c] 24 (0, 0))
 nb : w.heap[k]? = some (.cells #[.bool n.inn, .bool n.red, .int .u64 n.v, .int .i64 n.l, .int .i64 n.r, .int .i64 n.u] 57 (0, 0))
 bb : Below w0.heap.size w0 w
 rd : kn.C w A t.ns.length t.ns
section
variable {w0 w1 : World} {g k : Nat} {A : Option Addr} {c : Nat} {n : Nd}
theorem Nb.below (h : Nb w0 w g k t A c n) (hb : Below w.heap.size w w1) : Nb w0 w1 g k t A c n := ⟨zK h.tb hb, zK h.nb hb, zT h.bb hb, Kd.zY h.rd hb⟩
theorem Nb.drew (h : Nb w0 w g k t A c n) : Nb w0 w.drew g k t A c n := h.below (Below.drew (Below.refl _ _))
theorem Nb.a0 (h : Nb w0 w g k t A c n) : w.cell? ⟨g, 0, none⟩ = some (.int .i64 t.rt) := (zF h.tb 0).trans rfl
theorem Nb.a1 (h : Nb w0 w g k t A c n) : w.cell? ⟨g, 1, none⟩ = some (.slice A t.ns.length c) := (zF h.tb 1).trans rfl
theorem Nb.b0 (h : Nb w0 w g k t A c n) : w.cell? ⟨k, 0, none⟩ = some (.bool n.inn) := (zF h.nb 0).trans rfl
theorem Nb.b1 (h : Nb w0 w g k t A c n) : w.cell? ⟨k, 1, none⟩ = some (.bool n.red) := (zF h.nb 1).trans rfl
theorem Nb.b3 (h : Nb w0 w g k t A c n) : w.cell? ⟨k, 3, none⟩ = some (.int .i64 n.l) := (zF h.nb 3).trans rfl
theorem Nb.b4 (h : Nb w0 w g k t A c n) : w.cell? ⟨k, 4, none⟩ = some (.int .i64 n.r) := (zF h.nb 4).trans rfl
theorem Nb.b5 (h : Nb w0 w g k t A c n) : w.cell? ⟨k, 5, none⟩ = some (.int .i64 n.u) := (zF h.nb 5).trans rfl
end
def blR (a : T) : Int := if (blA a).2 = true then (blA a).1 else -1
theorem blR_B (cl : Bool) (l : T) (x : Nat) (r : T) : blR (.B cl l x r) = if blR l < 0 then -1 else if blR l ≠ blR r then -1 else if cl = true ∧ (l.red = true ∨ r.red = true) then -1 else if cl = true then blR l else blR l + 1 := by
 have h1 := wR l
 have h2 := wR r
 unfold blR
 rw [blA]
 cases e1 : (blA l).2 <;> cases e2 : (blA r).2 <;> simp only [reduceCtorEq, if_true, if_false] <;> repeat' split
 all_goals first | rfl | omega | simp_all
set_option maxHeartbeats 8000000 in
set_option maxRecDepth 100000 in
theorem rblacks_ : ∀ (a : T) (w : World) (u : Option Int) (A : Option Addr) (c : Nat), kn.C w A t.ns.length t.ns → Lay t a u → a.size ≤ 1000000 →
  Calls Tryd.prog 59 #[.agg #[.int .i64 t.rt, .slice A t.ns.length c], .int .i64 a.rt] w fun e w' => e = .returned (.int .i64 (blR a)) ∧ Below w.heap.size w w' := by
 intro a
 induction a with
 | E =>
  intro w u A c hr _ _
  have HB1 := zA.mk (zH (Below.refl w.heap.size w) (.cells #[.int .i64 t.rt, .slice A t.ns.length c] 24))
  clear hr
  change Calls Tryd.prog 59 #[.agg #[.int .i64 t.rt, .slice A t.ns.length c], .int .i64 (-1)] w _
  go_enter Tryd.func59, Tryd.ntmps59
  go_wp2
  go_ret
  exact ⟨rfl, HB1.out⟩
 | B cl l x r ihl ihr =>
  intro w u A c hr hL hs
  have hs2 : l.size + r.size + 1 ≤ 1000000 := hs
  obtain ⟨h1, h2, h3, h4, h5, h6, h7, h8⟩ := hL
  have HIL := zA.mk (fun (W : World) (hr : kn.C W A t.ns.length t.ns) => ihl W _ A c hr h7 (by omega))
  have HIR := zA.mk (fun (W : World) (hr : kn.C W A t.ns.length t.ns) => ihr W _ A c hr h8 (by omega))
  have HRL := zA.mk (jY h7)
  have HRR := zA.mk (jY h8)
  have HLN := zA.mk (wO h7.loose)
  have HRN := zA.mk (wO h8.loose)
  have HBL := zA.mk (show -1 ≤ blR l ∧ blR l ≤ 1000000 by have := wR l; unfold blR; split <;> omega)
  have HBB := zA.mk (blR_B cl l x r)
  have hx0 : (0 : Int) ≤ (x : Int) := by omega
  have hx1 : (x : Int) < (t.ns.length : Int) := by omega
  have HB1 := zA.mk (zH (Below.refl w.heap.size w) (.cells #[.int .i64 t.rt, .slice A t.ns.length c] 24))
  have HX1 := zA.mk (yM w (.cells #[.int .i64 t.rt, .slice A t.ns.length c] 24))
  have HR1 := zA.mk (Kd.zY hr HB1.out)
  change Calls Tryd.prog 59 #[.agg #[.int .i64 t.rt, .slice A t.ns.length c], .int .i64 (x : Int)] w _
  obtain ⟨X, hX⟩ : ∃ X : Int, (x : Int) = X := ⟨_, rfl⟩
  have HD := zA.mk (show redA t X = cl by rw [← hX]; unfold redA; rw [decide_eq_true hx0, Int.toNat_natCast, h3]; rfl)
  have HDL := zA.mk (show kidA t X false = l.rt by rw [← hX]; unfold kidA; rw [Int.toNat_natCast, ← h4]; rfl)
  have HDR := zA.mk (show kidA t X true = r.rt by rw [← hX]; unfold kidA; rw [Int.toNat_natCast, ← h5]; rfl)
  rw [hX] at hx0 hx1 ⊢
  clear hX; clear hr ihl ihr h2 h3 h4 h5 h6 h7 h8 hs hs2
  go_enter Tryd.func59, Tryd.ntmps59
  go_upto_region 1 with (fail)
  generalize w.alloc (.cells #[.int .i64 t.rt, .slice A t.ns.length c] 24) = W1 at HB1 HX1 HR1 ⊢
  have a0 := (show W1.cell? ⟨w.heap.size, 0, none⟩ = some (.int .i64 t.rt) from (zF HX1.out 0).trans rfl)
  have a1 := (show W1.cell? ⟨w.heap.size, 1, none⟩ = some (.slice A t.ns.length c) from (zF HX1.out 1).trans rfl)
  obtain ⟨ad, rfl, d0, d1, d2, d3, d4, d5⟩ := zbK HR1.out X hx0 hx1
  rw [HD.out] at d1
  rw [HDL.out] at d3
  rw [HDR.out] at d4
  go_upto_region 4 with (fail)
  obtain ⟨n, hn⟩ : ∃ n : Nd, n = ⟨(gn t X.toNat).inn, cl, (gn t X.toNat).v, l.rt, r.rt, upA t X⟩ := ⟨_, rfl⟩
  have NB : zA (Nb w (W1.alloc (.cells #[.bool (gn t X.toNat).inn, .bool cl, .int .u64 (gn t X.toNat).v, .int .i64 l.rt, .int .i64 r.rt, .int .i64 (upA t X)] 57)) w.heap.size W1.heap.size t (some ad) c n) :=
   ⟨⟨zK HX1.out (zH (Below.refl _ _) _), by rw [hn]; exact yM _ _, zT HB1.out (zH (Below.refl _ _) _), Kd.zY HR1.out (zH (Below.refl _ _) _)⟩⟩
  have HNL := zA.mk (show n.l = l.rt by rw [hn])
  have HNR := zA.mk (show n.r = r.rt by rw [hn])
  have HNC := zA.mk (show n.red = cl by rw [hn])
  clear a0 a1 d0 d1 d2 d3 d4 d5 hn
  generalize W1.alloc (.cells #[.bool (gn t X.toNat).inn, .bool cl, .int .u64 (gn t X.toNat).v, .int .i64 l.rt, .int .i64 r.rt, .int .i64 (upA t X)] 57) = W2 at NB ⊢
  generalize W1.heap.size = kb at NB ⊢
  have a0 := NB.out.a0
  have a1 := NB.out.a1
  have b1 := NB.out.b1
  have b3 := NB.out.b3
  have b4 := NB.out.b4
  rw [HNL.out] at b3
  rw [HNR.out] at b4
  rw [HNC.out] at b1
  obtain ⟨bl, hbl⟩ : ∃ bl, bl = blR l := ⟨_, rfl⟩
  obtain ⟨br, hbr⟩ : ∃ br, br = blR r := ⟨_, rfl⟩
  have HL := zA.mk hbl.symm
  have HR := zA.mk hbr.symm
  rw [← hbl, ← hbr] at HBB
  rw [← hbl] at HBL
  clear hbl hbr
  have hb1 := HBL.out.1
  have hb2 := HBL.out.2
  go_upto_region 5 with (go_at_call 59; (with_reducible refine (HIL.out _ NB.out.rd).mono ?_); rintro e wq ⟨rfl, hB⟩; rw [HL.out]; replace NB := zA.mk (NB.out.below hB); replace a0 := NB.out.a0; replace a1 := NB.out.a1; replace b1 := NB.out.b1; replace b3 := NB.out.b3; replace b4 := NB.out.b4; rw [HNL.out] at b3; rw [HNR.out] at b4; rw [HNC.out] at b1; clear hB)
  go_upto_region 6 with (go_at_call 59; (with_reducible refine (HIR.out _ NB.out.rd).mono ?_); rintro e wq ⟨rfl, hB⟩; rw [HR.out]; replace NB := zA.mk (NB.out.below hB); replace a0 := NB.out.a0; replace a1 := NB.out.a1; replace b1 := NB.out.b1; replace b3 := NB.out.b3; replace b4 := NB.out.b4; rw [HNL.out] at b3; rw [HNR.out] at b4; rw [HNC.out] at b1; clear hB)
  by_cases c1 : bl < 0
  ·have e1 : decide (bl < 0) = true := decide_eq_true c1
   have HE := zA.mk (show blR (.B cl l x r) = -1 by rw [HBB.out, if_pos c1])
   clear c1
   go_wp2
   go_ret
   rw [HE.out]
   exact ⟨rfl, NB.out.bb⟩
  have e1 : decide (bl < 0) = false := decide_eq_false c1
  by_cases c2 : bl = br
  rotate_left
  ·have e2 : (bl != br) = true := by simpa using c2
   have HE := zA.mk (show blR (.B cl l x r) = -1 by rw [HBB.out, if_neg c1, if_pos c2])
   clear c2
   go_wp2
   go_ret
   rw [HE.out]
   exact ⟨rfl, NB.out.bb⟩
  ·subst c2
   have e2 : (bl != bl) = false := by simp
   cases cl with
   | false =>
    have HE := zA.mk (show blR (.B false l x r) = bl + 1 by rw [HBB.out, if_neg c1, if_neg (by simp), if_neg (by simp), if_neg (by simp)])
    go_wp2
    go_ret
    rw [HE.out]
    exact ⟨rfl, NB.out.bb⟩
   | true =>
    cases hrl : l.red with
    | true =>
     have HRL2 := zA.mk (HRL.out.trans hrl)
     have HE := zA.mk (show blR (.B true l x r) = -1 by rw [HBB.out, if_neg c1, if_neg (by simp), if_pos ⟨rfl, Or.inl hrl⟩])
     clear hrl
     go_wp2_with ((go_at_call_of 58 (Value.int IntKind.i64 l.rt); (with_reducible refine (xW (t := t) (some ad) c NB.out.rd l.rt HLN.out true HRL2.out).mono ?_); rintro e wq ⟨rfl, hB⟩; replace NB := zA.mk (NB.out.below hB); replace a0 := NB.out.a0; replace a1 := NB.out.a1; replace b1 := NB.out.b1; replace b3 := NB.out.b3; replace b4 := NB.out.b4; rw [HNL.out] at b3; rw [HNR.out] at b4; rw [HNC.out] at b1; clear hB))
     go_ret
     rw [HE.out]
     exact ⟨rfl, NB.out.bb⟩
    | false =>
     have HRL2 := zA.mk (HRL.out.trans hrl)
     cases hrr : r.red with
     | true =>
      have HRR2 := zA.mk (HRR.out.trans hrr)
      have HE := zA.mk (show blR (.B true l x r) = -1 by rw [HBB.out, if_neg c1, if_neg (by simp), if_pos ⟨rfl, Or.inr hrr⟩])
      clear hrl hrr
      go_wp2_with (first | (go_at_call_of 58 (Value.int IntKind.i64 l.rt); (with_reducible refine (xW (t := t) (some ad) c NB.out.rd l.rt HLN.out false HRL2.out).mono ?_); rintro e wq ⟨rfl, hB⟩; replace NB := zA.mk (NB.out.below hB); replace a0 := NB.out.a0; replace a1 := NB.out.a1; replace b1 := NB.out.b1; replace b3 := NB.out.b3; replace b4 := NB.out.b4; rw [HNL.out] at b3; rw [HNR.out] at b4; rw [HNC.out] at b1; clear hB) | (go_at_call_of 58 (Value.int IntKind.i64 r.rt); (with_reducible refine (xW (t := t) (some ad) c NB.out.rd r.rt HRN.out true HRR2.out).mono ?_); rintro e wq ⟨rfl, hB⟩; replace NB := zA.mk (NB.out.below hB); replace a0 := NB.out.a0; replace a1 := NB.out.a1; replace b1 := NB.out.b1; replace b3 := NB.out.b3; replace b4 := NB.out.b4; rw [HNL.out] at b3; rw [HNR.out] at b4; rw [HNC.out] at b1; clear hB))
      go_ret
      rw [HE.out]
      exact ⟨rfl, NB.out.bb⟩
     | false =>
      have HRR2 := zA.mk (HRR.out.trans hrr)
      have HE := zA.mk (show blR (.B true l x r) = bl by rw [HBB.out, if_neg c1, if_neg (by simp), if_neg (by rw [hrl, hrr]; simp), if_pos rfl])
      clear hrl hrr
      go_wp2_with (first | (go_at_call_of 58 (Value.int IntKind.i64 l.rt); (with_reducible refine (xW (t := t) (some ad) c NB.out.rd l.rt HLN.out false HRL2.out).mono ?_); rintro e wq ⟨rfl, hB⟩; replace NB := zA.mk (NB.out.below hB); replace a0 := NB.out.a0; replace a1 := NB.out.a1; replace b1 := NB.out.b1; replace b3 := NB.out.b3; replace b4 := NB.out.b4; rw [HNL.out] at b3; rw [HNR.out] at b4; rw [HNC.out] at b1; clear hB) | (go_at_call_of 58 (Value.int IntKind.i64 r.rt); (with_reducible refine (xW (t := t) (some ad) c NB.out.rd r.rt HRN.out false HRR2.out).mono ?_); rintro e wq ⟨rfl, hB⟩; replace NB := zA.mk (NB.out.below hB); replace a0 := NB.out.a0; replace a1 := NB.out.a1; replace b1 := NB.out.b1; replace b3 := NB.out.b3; replace b4 := NB.out.b4; rw [HNL.out] at b3; rw [HNR.out] at b4; rw [HNC.out] at b1; clear hB))
      go_ret
      rw [HE.out]
      exact ⟨rfl, NB.out.bb⟩
theorem blR_iff (a : T) : decide (0 ≤ blR a) = (blA a).2 := by
 have := wR a
 unfold blR
 cases e : (blA a).2 with
 | true => rw [if_pos rfl]; exact decide_eq_true (by omega)
 | false => rw [if_neg (by simp)]; rfl
end Go.Proofs.YtfapmcpmfeigbaaDoor.Tm
end
section
namespace Go.Proofs.YtfapmcpmfeigbaaDoor.Tm
open Go.RowKit Go Go.Proofs Go.Proofs.YtfapmcpmfeigbaaDoor Go.Proofs.YtfapmcpmfeigbaaDoor.Tr Go.Proofs.YtfapmcpmfeigbaaDoor.Tk Go.Proofs.YtfapmcpmfeigbaaDoorW.PrintWords Go.Proofs.YtfapmcpmfeigbaaDoorW.PrintLast Go.Proofs.YtfapmcpmfeigbaaDoorW.PrintMore
set_option linter.unusedVariables false
set_option linter.unusedSimpArgs false
variable {w : World} {t : St}
structure Hb (w0 w : World) (g : Nat) (t : St) (A : Option Addr) (c : Nat) : Prop where mk ::
 tb : w.heap[g]? = some (.cells #[.int .i64 t.rt, .slice A t.ns.length c] 24 (0, 0))
 bb : Below w0.heap.size w0 w
 rd : kn.C w A t.ns.length t.ns
section
variable {w0 w1 : World} {g k : Nat} {A : Option Addr} {c : Nat}
theorem Hb.below (h : Hb w0 w g t A c) (hb : Below w.heap.size w w1) : Hb w0 w1 g t A c := ⟨zK h.tb hb, zT h.bb hb, Kd.zY h.rd hb⟩
theorem Hb.drew (h : Hb w0 w g t A c) : Hb w0 w.drew g t A c := h.below (Below.drew (Below.refl _ _))
theorem Hb.a0 (h : Hb w0 w g t A c) : w.cell? ⟨g, 0, none⟩ = some (.int .i64 t.rt) := (zF h.tb 0).trans rfl
theorem Hb.a1 (h : Hb w0 w g t A c) : w.cell? ⟨g, 1, none⟩ = some (.slice A t.ns.length c) := (zF h.tb 1).trans rfl
theorem Hb.start (h : kn.C w A t.ns.length t.ns) : Hb w (w.alloc (.cells #[.int .i64 t.rt, .slice A t.ns.length c] 24)) w.heap.size t A c :=
 ⟨yM _ _, zH (Below.refl _ _) _, Kd.zY h (zH (Below.refl _ _) _)⟩
end
end Go.Proofs.YtfapmcpmfeigbaaDoor.Tm
end
