/- Parts of the proof, joined: Rm5. -/
import Derived.Test.YtfapmcpmfeigbaaDoorUD20
import Derived.Test.YtfapmcpmfeigbaaDoorUD14
import Derived.StillTailTactics
namespace Go.Proofs.YtfapmcpmfeigbaaDoor.Tm
open Go.RowKit Go Go.Proofs Go.Proofs.YtfapmcpmfeigbaaDoor Go.Proofs.YtfapmcpmfeigbaaDoor.Tr Go.Proofs.YtfapmcpmfeigbaaDoor.Tk Go.Proofs.YtfapmcpmfeigbaaDoorW.PrintWords Go.Proofs.YtfapmcpmfeigbaaDoorW.PrintLast Go.Proofs.YtfapmcpmfeigbaaDoorW.PrintMore
set_option linter.unusedVariables false
set_option linter.unusedSimpArgs false
variable {w : World} {t : St}
theorem u64w (x : Int) : IntKind.u64.wrap x = x % 18446744073709551616 := by unfold IntKind.wrap; simp [IntKind.signed, IntKind.bits]
theorem cvf_lt {mn : Int} {x y : K} : cvf mn x y < 0 ↔ lagf mn x.1 < lagf mn y.1 ∨ lagf mn x.1 = lagf mn y.1 ∧ x.2 < y.2 := by
 unfold cvf
 repeat' split
 all_goals omega
set_option maxHeartbeats 4000000 in
set_option maxRecDepth 100000 in
theorem rlag_ (v mn : Int) : Calls Tryd.prog 69 #[.int .u64 v, .int .u64 mn] w fun e w' => e = .returned (.int .i64 (lagf mn v)) ∧ w' = w := by
 obtain ⟨d, hd⟩ : ∃ d, d = IntKind.u64.wrap (v - mn) := ⟨_, rfl⟩
 have hd0 : 0 ≤ d ∧ d < 18446744073709551616 := by rw [hd, u64w]; omega
 have hw := hd.symm
 have HL := zA.mk (show lagf mn v = wrap64 d by rw [hd]; rfl)
 obtain ⟨h0, h1⟩ := hd0
 by_cases hc : d < 9223372036854775808
 ·have hcd : decide (d < 9223372036854775808) = true := decide_eq_true hc
  clear hd
  go_enter Tryd.func69, Tryd.ntmps69
  go_wp2
  go_ret
  refine ⟨?_, rfl⟩
  rw [HL.out, show wrap64 d = d by unfold wrap64; omega]
  rfl
 have hcd : decide (d < 9223372036854775808) = false := decide_eq_false hc
 clear hd
 go_enter Tryd.func69, Tryd.ntmps69
 go_wp2
 go_ret
 refine ⟨?_, rfl⟩
 rw [HL.out, show wrap64 d = -1 - (18446744073709551615 - d) by unfold wrap64; omega]
 rfl
set_option maxHeartbeats 4000000 in
set_option maxRecDepth 100000 in
theorem rless_ (mn : Int) (x y : K) : Calls Tryd.prog 39 #[.int .u64 mn, .agg #[.int .u64 x.1, .int .i64 x.2], .agg #[.int .u64 y.1, .int .i64 y.2]] w fun e w' => e = .returned (.bool (decide (cvf mn x y < 0))) ∧ Below w.heap.size w w' := by
 have HB0 := zA.mk (zH (zH (Below.refl w.heap.size w) (.cells #[.int .u64 x.1, .int .i64 x.2] 27)) (.cells #[.int .u64 y.1, .int .i64 y.2] 27))
 obtain ⟨x0, x1⟩ := x
 obtain ⟨y0, y1⟩ := y
 simp only at HB0 ⊢
 obtain ⟨a, ha⟩ : ∃ a, a = lagf mn x0 := ⟨_, rfl⟩
 obtain ⟨b, hb⟩ : ∃ b, b = lagf mn y0 := ⟨_, rfl⟩
 have HA := zA.mk ha.symm
 have HB := zA.mk hb.symm
 have HC := zA.mk (show cvf mn (x0, x1) (y0, y1) < 0 ↔ a < b ∨ a = b ∧ x1 < y1 by rw [cvf_lt, ← ha, ← hb])
 clear ha hb
 by_cases h1 : a < b
 ·have hr := zA.mk (show decide (cvf mn (x0, x1) (y0, y1) < 0) = true from decide_eq_true (HC.out.2 (Or.inl h1)))
  have hd : decide (a < b) = true := decide_eq_true h1
  go_enter Tryd.func39, Tryd.ntmps39
  go_wp2_with (first | (go_at_call_of 69 (Value.int IntKind.u64 x0); (with_reducible refine (rlag_ x0 mn).mono ?_); rintro e wq ⟨rfl, rfl⟩; rw [HA.out]) | (go_at_call_of 69 (Value.int IntKind.u64 y0); (with_reducible refine (rlag_ y0 mn).mono ?_); rintro e wq ⟨rfl, rfl⟩; rw [HB.out]))
  go_ret
  rw [hr.out]
  exact ⟨rfl, HB0.out⟩
 have hd : decide (a < b) = false := decide_eq_false h1
 by_cases h2 : a = b
 rotate_left
 ·have hr := zA.mk (show decide (cvf mn (x0, x1) (y0, y1) < 0) = false from decide_eq_false (by rw [HC.out]; omega))
  have h3 : (a == b) = false := by simpa using h2
  go_enter Tryd.func39, Tryd.ntmps39
  go_wp2_with (first | (go_at_call_of 69 (Value.int IntKind.u64 x0); (with_reducible refine (rlag_ x0 mn).mono ?_); rintro e wq ⟨rfl, rfl⟩; rw [HA.out]) | (go_at_call_of 69 (Value.int IntKind.u64 y0); (with_reducible refine (rlag_ y0 mn).mono ?_); rintro e wq ⟨rfl, rfl⟩; rw [HB.out]))
  go_ret
  rw [hr.out]
  exact ⟨rfl, HB0.out⟩
 subst h2
 have hr := zA.mk (show decide (cvf mn (x0, x1) (y0, y1) < 0) = decide (x1 < y1) from by rw [decide_eq_decide, HC.out]; omega)
 have h3 : (a == a) = true := by simp
 clear h1
 go_enter Tryd.func39, Tryd.ntmps39
 go_wp2_with (first | (go_at_call_of 69 (Value.int IntKind.u64 x0); (with_reducible refine (rlag_ x0 mn).mono ?_); rintro e wq ⟨rfl, rfl⟩; rw [HA.out]) | (go_at_call_of 69 (Value.int IntKind.u64 y0); (with_reducible refine (rlag_ y0 mn).mono ?_); rintro e wq ⟨rfl, rfl⟩; rw [HB.out]))
 go_ret
 rw [hr.out]
 exact ⟨rfl, HB0.out⟩
def goodP (mn : Int) (l : List K) (j i : Nat) : Prop := cvf mn (gt l j) (gt l i) < 0 ∧ (gt l j).2 ≠ (gt l i).2
theorem cvf_trans {mn : Int} {x y z : K} (h : cvf mn x y < 0) (k : cvf mn y z < 0) : cvf mn x z < 0 := by
 rw [cvf_lt] at *
 omega
theorem sorted_good {mn : Int} {l : List K} (h : ∀ i, i < l.length → ∀ j, j < i → goodP mn l j i) : qQ (cvf mn) l = true := by
 unfold qQ
 refine decide_eq_true (fun i hi => ⟨?_, fun j hj => (h i hi j hj).2⟩)
 rcases Nat.eq_zero_or_pos i with h0 | h0
 ·exact Or.inl h0
 ·exact Or.inr (h i hi (i - 1) (by omega)).1
theorem zbS {mn : Int} {l : List K} (h : qQ (cvf mn) l = true) : ∀ i, i < l.length → ∀ j, j < i → goodP mn l j i := by
 unfold qQ at h
 have h := of_decide_eq_true h
 have H : ∀ d j, j + d + 1 < l.length → cvf mn (gt l j) (gt l (j + d + 1)) < 0 := by
  intro d
  induction d with
  | zero => intro j hj; exact ((h (j + 1) (by omega)).1.resolve_left (by omega))
  | succ d ih => intro j hj; exact cvf_trans (ih j (by omega)) ((h (j + (d + 1) + 1) hj).1.resolve_left (by omega))
 intro i hi j hj
 refine ⟨?_, (h i hi).2 j hj⟩
 have e : j + (i - j - 1) + 1 = i := by omega
 have := H (i - j - 1) j (by omega)
 rw [e] at this
 exact this
set_option maxHeartbeats 8000000 in
set_option maxRecDepth 100000 in
theorem rsorted_ (mn : Int) (A0 : Option Addr) (c0 : Nat) (l : List K) (hr : kp.C w A0 l.length l) (hl : l.length ≤ 1000000) :
  Calls Tryd.prog 60 #[.int .u64 mn, .slice A0 l.length c0] w fun e w' => e = .returned (.bool (qQ (cvf mn) l)) ∧ Below w.heap.size w w' := by
 have HR := zA.mk hr; have HL := zA.mk hl
 have HB0 := zA.mk (Below.refl w.heap.size w)
 clear hr
 go_enter Tryd.func60, Tryd.ntmps60
 go_wp2
 go_loopw [5] (fun vi wr => ∃ i : Nat, i ≤ l.length ∧ vi = .int .i64 i ∧ zA (Below w.heap.size w wr) ∧ zA (∀ x, x < i → ∀ y, y < x → goodP mn l y x)) (fun vi _ => l.length - (intOf vi).toNat)
 case atStart => exact ⟨0, Nat.zero_le _, rfl, HB0, ⟨fun x hx => by omega⟩⟩
 case round =>
  clear HB0
  obtain ⟨i, hi, rfl, HB, HP⟩ := hrel
  by_cases hlt : i < l.length
  rotate_left
  ·obtain rfl : i = l.length := by omega
   have HS := zA.mk (sorted_good HP.out)
   go_wp2
   go_ret
   rw [HS.out]
   exact ⟨rfl, HB.out⟩
  have hn : (i : Int) < (l.length : Int) := by omega
  have hd : decide ((i : Int) < (l.length : Int)) = true := decide_eq_true hn
  have HN1 := zA.mk (show ((i : Int) + 1).toNat = i + 1 by omega)
  go_wp2
  go_loopw [6] (fun vk wx => ∃ k : Nat, k ≤ i ∧ vk = .int .i64 k ∧ zA (Below w.heap.size w wx) ∧ zA (∀ y, y < k → goodP mn l y i)) (fun vk _ => i - (intOf vk).toNat)
  case atStart => exact ⟨0, Nat.zero_le _, rfl, HB, ⟨fun y hy => by omega⟩⟩
  case round =>
   clear HB
   obtain ⟨k, hk, rfl, HBx, HPx⟩ := hrel
   by_cases hki : k < i
   rotate_left
   ·obtain rfl : k = i := by omega
    go_wp2
    refine ⟨⟨k + 1, by omega, by simp, HBx, ⟨fun x hx y hy => ?_⟩⟩, ?_⟩
    ·rcases Nat.lt_or_ge x k with h | h
     ·exact HP.out x h y hy
     ·obtain rfl : x = k := by omega
      exact HPx.out y hy
    ·show l.length - ((k : Int) + 1).toNat < l.length - (k : Int).toNat
     rw [HN1.out]
     omega
   have hkn : (k : Int) < (i : Int) := by omega
   have hkd : decide ((k : Int) < (i : Int)) = true := decide_eq_true hkn
   have HK1 := zA.mk (show ((k : Int) + 1).toNat = k + 1 by omega)
   obtain ⟨ad, e1, c1, c2⟩ := C_at (Kd.zY HR.out HBx.out) k (by omega)
   subst e1
   obtain ⟨ad2, e2, c3, c4⟩ := C_at (Kd.zY HR.out HBx.out) i (by omega)
   obtain rfl := Option.some.inj e2
   have hkl : (k : Int) < (l.length : Int) := by omega
   obtain ⟨x, hx⟩ : ∃ x, x = gt l k := ⟨_, rfl⟩
   obtain ⟨y, hy⟩ : ∃ y, y = gt l i := ⟨_, rfl⟩
   have HG := zA.mk (show goodP mn l k i ↔ cvf mn x y < 0 ∧ x.2 ≠ y.2 by rw [hx, hy]; exact Iff.rfl)
   rw [← hx] at c1 c2
   rw [← hy] at c3 c4
   have HC := zA.mk (And.intro c1 (And.intro c2 (And.intro c3 c4)))
   clear hx hy e2
   go_upto_region 7 with (fail)
   go_still_tail 9, (by kernel_rfl)
   change wpList _ _ _ _ _ (World.drew _)
   have HBd := zA.mk (Below.drew HBx.out)
   clear HBx c1 c2 c3 c4
   have HCd := zA.mk (show wr.drew.cell? (ad.add (k * 2)) = _ ∧ wr.drew.cell? ⟨(ad.add (k * 2)).block, (ad.add (k * 2)).off + 1, none⟩ = _ ∧ wr.drew.cell? (ad.add (i * 2)) = _ ∧ wr.drew.cell? ⟨(ad.add (i * 2)).block, (ad.add (i * 2)).off + 1, none⟩ = _ from HC.out)
   clear HC
   generalize wr.drew = w1 at HBd HCd ⊢
   by_cases hcv : cvf mn x y < 0
   rotate_left
   ·have HCV := zA.mk (show decide (cvf mn x y < 0) = false from decide_eq_false hcv)
    have HS := zA.mk (show qQ (cvf mn) l = false by
     cases hs : qQ (cvf mn) l with
     | false => rfl
     | true => exact absurd (HG.out.1 (zbS hs i hlt k hki)).1 hcv)
    clear hcv
    go_upto_region 8 with (go_at_call 39; (with_reducible refine (rless_ mn x y).mono ?_); rintro e w2 ⟨rfl, hb⟩; rw [HCV.out]; have HBz := zA.mk (zT HBd.out hb); clear hb)
    go_quiet (fail)
    have HBy := zA.mk (zI HBz.out nq)
    go_wp2
    go_ret
    rw [HS.out]
    exact ⟨rfl, HBy.out⟩
   have HCV := zA.mk (show decide (cvf mn x y < 0) = true from decide_eq_true hcv)
   have HV := zA.mk hcv; clear hcv
   go_upto_region 8 with (go_at_call 39; (with_reducible refine (rless_ mn x y).mono ?_); rintro e w2 ⟨rfl, hb⟩; rw [HCV.out]; have HBz := zA.mk (zT HBd.out hb); have HCz := zA.mk (And.intro (yZ HCd.out.1 hb) (And.intro (yZ HCd.out.2.1 hb) (And.intro (yZ HCd.out.2.2.1 hb) (yZ HCd.out.2.2.2 hb)))); clear hb)
   have c2 := HCz.out.2.1
   have c4 := HCz.out.2.2.2
   by_cases he : x.2 = y.2
   ·have hq : (x.2 == y.2) = true := by simpa using he
    have HS := zA.mk (show qQ (cvf mn) l = false by
     cases hs : qQ (cvf mn) l with
     | false => rfl
     | true => exact absurd he (HG.out.1 (zbS hs i hlt k hki)).2)
    have HE := zA.mk he; clear he
    rw [HE.out] at c2
    go_quiet (fail)
    have HBy := zA.mk (zI HBz.out nq)
    go_wp2
    go_ret
    rw [HS.out]
    exact ⟨rfl, HBy.out⟩
   have hq : (x.2 == y.2) = false := by simpa using he
   have HE := zA.mk he; clear he
   go_quiet (fail)
   have HBy := zA.mk (zI HBz.out nq)
   go_wp2
   refine ⟨⟨k + 1, by omega, by simp, HBy, ⟨fun q hq => ?_⟩⟩, ?_⟩
   ·rcases Nat.lt_or_ge q k with h | h
    ·exact HPx.out q h
    ·obtain rfl : q = k := by omega
     exact HG.out.2 ⟨HV.out, HE.out⟩
   ·show i - ((k : Int) + 1).toNat < i - (k : Int).toNat
    rw [HK1.out]
    omega
end Go.Proofs.YtfapmcpmfeigbaaDoor.Tm
