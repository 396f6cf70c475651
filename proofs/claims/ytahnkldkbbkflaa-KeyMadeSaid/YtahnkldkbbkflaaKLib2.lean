/- key.Sort, key.Less, slices.MinFunc, key.First, slices.IndexFunc, key.find at keys. No condition but lengths. Written by hand. -/
import Derived.Test.YtahnkldkbbkflaaKLib
namespace Go.Proofs.Ytahnkldkbbkflaa.Srt
open Go.RowKit Go Go.Proofs Go.Proofs.Ytahnkldkbbkflaa Go.Proofs.Ytahnkldkbbkflaa.Ky Go.Proofs.YtahnkldkbbkflaaW.PrintWords Go.Proofs.YtahnkldkbbkflaaW.PrintLast Go.Proofs.YtahnkldkbbkflaaW.PrintMore
set_option linter.unusedVariables false
set_option linter.unusedSimpArgs false
variable {rs : List Value}
set_option maxHeartbeats 4000000 in
set_option maxRecDepth 100000 in
theorem insertion0 (A : Option Addr) (c : Nat) (F : Value) (w : World) : Calls Try.prog 46 #[.slice A 0 c, .int .i64 0, .int .i64 0, F] w fun e w' => e = .returned (.tuple #[]) ∧ w = w' := by
  go_enter Try.func46, Try.ntmps46
  go_wp2
  go_loopw [8] (fun i wr => i = .int .i64 1 ∧ w = wr) (fun _ _ => 0)
  case atStart => exact ⟨by simp, rfl⟩
  case round =>
    obtain ⟨rfl, rfl⟩ := hrel
    go_wp2
    go_end0
    exact ⟨rfl, rfl⟩
set_option maxHeartbeats 4000000 in
set_option maxRecDepth 100000 in
theorem stable0 (A : Option Addr) (c : Nat) (F : Value) (w : World) : Calls Try.prog 41 #[.slice A 0 c, .int .i64 0, F] w fun e w' => e = .returned (.tuple #[]) ∧ w = w' := by
  go_enter Try.func41, Try.ntmps41
  go_wp2
  go_loopw [7, 8] (fun i j wr => i = .int .i64 0 ∧ j = .int .i64 20 ∧ w = wr) (fun _ _ _ => 0)
  case atStart => exact ⟨by simp, by simp, rfl⟩
  case round =>
    obtain ⟨rfl, rfl, rfl⟩ := hrel
    go_wp2_with (go_at_call 46; (with_reducible refine (insertion0 A c F _).mono ?_); rintro e w' ⟨rfl, rfl⟩)
    go_loopw [6] (fun i wr => i = .int .i64 20 ∧ w = wr) (fun _ _ => 0)
    case atStart => exact ⟨by simp, rfl⟩
    case round =>
      obtain ⟨rfl, rfl⟩ := hrel
      go_wp2
      go_end0
      exact ⟨rfl, rfl⟩
set_option maxHeartbeats 4000000 in
set_option maxRecDepth 100000 in
theorem sortStable0 (A : Option Addr) (c : Nat) (F : Value) (w : World) : Calls Try.prog 29 #[.slice A 0 c, F] w fun e w' => e = .returned (.tuple #[]) ∧ w = w' := by
  go_enter Try.func29, Try.ntmps29
  go_wp2_with (go_at_call 41; (with_reducible refine (stable0 A c F _).mono ?_); rintro e w' ⟨rfl, rfl⟩)
  go_end0
  exact ⟨rfl, rfl⟩
section
variable {mn : Int} {cv : K → K → Int} (O : Ord cv) (hc : Cmp26 mn cv)
include O hc
set_option maxHeartbeats 4000000 in
set_option maxRecDepth 100000 in
theorem keySort (A0 : Option Addr) (c0 : Nat) (l : List K) (w : World) (hr : kp.C w A0 l.length l) (hl : l.length ≤ 1000000) :
    Calls Try.prog 17 #[.int .u64 mn, .slice A0 l.length c0] w fun e w' => ∃ (v0_ : Value) (l' : List K), e = .returned v0_ ∧ kp.R 26 w' w.heap.size (fun _ => True) v0_ l' ∧ l'.Perm l ∧ Srd cv l' 0 l.length ∧ Below w.heap.size w w' := by
  have HR := Aside0.mk (Kd.C_below hr ((Below.refl _ w).alloc (Nat.le_refl _) (.cells #[.int .u64 mn] 22)))
  have HC := Aside0.mk (cmp_30 hc w.heap.size)
  have HB0 := Aside0.mk (below_alloc (Below.refl w.heap.size w) (.cells #[.int .u64 mn] 22))
  have HX := Aside0.mk (blk_new w (.cells #[.int .u64 mn] 22))
  clear hr hc
  go_enter Try.func17, Try.ntmps17
  go_wp2_with (go_at_call 28; (with_reducible refine (clone_any A0 c0 l _ HR.out hl).mono ?_); rintro e w1 ⟨v0, rfl, hR, hb⟩; have HR1 := Aside0.mk hR; have HB1 := Aside0.mk (below_step HB0.out hb); have HX1 := Aside0.mk (blk_below HX.out hb); clear hR hb)
  rcases Nat.eq_zero_or_pos l.length with h0 | h0
  · obtain rfl := List.eq_nil_of_length_eq_zero h0
    obtain ⟨A, c, rfl⟩ := Kd.R_slice HR1.out
    refine (sortStable0 A c _ _).mono ?_
    rintro e w3 ⟨rfl, rfl⟩
    go_wp2
    go_ret
    exact ⟨_, [], rfl, Kd.R_lower HR1.out (by simp), List.Perm.refl _, fun i j h1 h2 h3 => by simp at h3, HB1.out⟩
  · obtain ⟨g, cap, rs, rfl, hg, _, hn, hm, hs, hA⟩ := R_arr HR1.out h0
    have hg' : w.heap.size + 1 ≤ g := by simpa using hg
    have HA := Aside0.mk hA
    have HX2 := Aside0.mk ((blk_cell HX1.out 0).trans rfl)
    have hne : w.heap.size ≠ g := by omega
    clear hA hg HR1 HR HX HX1
    refine (sortStable O HC.out g l.length cap hne l _ HA.out HX2.out rfl hl).mono ?_
    rintro e w3 ⟨rfl, ⟨l', hA3, hP3, hS3⟩, hG3⟩
    have HA3 := Aside0.mk hA3
    have HP3 := Aside0.mk hP3
    have HS3 := Aside0.mk hS3
    have HG3 := Aside0.mk hG3
    clear hA3 hP3 hS3 hG3
    go_wp2
    go_ret
    have e1 := HP3.out.length_eq
    refine ⟨_, l', rfl, ?_, HP3.out, HS3.out, Below.grown HB1.out HG3.out HB1.out.size (fun k hk => by injection hk with hk; omega)⟩
    have h := arr_R (base := w.heap.size) (cap := cap) (ok := fun _ => True) HA3.out (by omega) trivial (by omega) hm (by rw [e1]; exact hs)
    rwa [e1] at h
omit O
set_option maxHeartbeats 4000000 in
set_option maxRecDepth 100000 in
theorem keyLess (x y : K) (w : World) : Calls Try.prog 12 #[.int .u64 mn, .agg #[.int .u64 x.1, .int .i64 x.2], .agg #[.int .u64 y.1, .int .i64 y.2]] w fun e w' => e = .returned (.bool (decide (cv x y < 0))) ∧ Below w.heap.size w w' := by
  have H := Aside0.mk hc
  have HB0 := Aside0.mk (below_alloc (below_alloc (Below.refl w.heap.size w) (.cells #[.int .u64 x.1, .int .i64 x.2] 26)) (.cells #[.int .u64 y.1, .int .i64 y.2] 26))
  clear hc
  go_enter Try.func12, Try.ntmps12
  go_wp2_with (go_at_call 26; (with_reducible refine (H.out.out _ x y).mono ?_); rintro e w3 ⟨rfl, hb⟩; have HB1 := Aside0.mk (below_step HB0.out hb); clear hb)
  go_ret
  exact ⟨rfl, HB1.out⟩
set_option maxHeartbeats 4000000 in
set_option maxRecDepth 100000 in
theorem cmp_25 (B : Nat) (W : World) (x y : K) (hB : W.cell? ⟨B, 0, none⟩ = some (.int .u64 mn)) :
    Calls Try.prog 25 #[.agg #[.int .u64 x.1, .int .i64 x.2], .agg #[.int .u64 y.1, .int .i64 y.2], .pointer (some ⟨B, 0, none⟩)] W fun e w' => e = .returned (.int .i64 (cv x y)) ∧ Below W.heap.size W w' := by
  have H := Aside0.mk hc
  have HB0 := Aside0.mk (below_alloc (below_alloc (Below.refl W.heap.size W) (.cells #[.int .u64 x.1, .int .i64 x.2] 26)) (.cells #[.int .u64 y.1, .int .i64 y.2] 26))
  have hlt := World.block_lt_of_cell? W _ hB
  clear hc
  go_enter Try.func25, Try.ntmps25
  go_wp2_with (go_at_call 26; (with_reducible refine (H.out.out _ x y).mono ?_); rintro e w3 ⟨rfl, hb⟩; have HB1 := Aside0.mk (below_step HB0.out hb); clear hb)
  go_ret
  exact ⟨rfl, HB1.out⟩
/-- the closure of Put: is k ahead of x? -/
theorem less_34 (B D : Nat) (W : World) (k x : K) (hB : W.cell? ⟨B, 0, none⟩ = some (.int .u64 mn)) (hD : W.cell? ⟨D, 0, none⟩ = some (.int .u64 k.1)) (hD2 : W.cell? ⟨D, 1, none⟩ = some (.int .i64 k.2)) :
    Calls Try.prog 34 #[.agg #[.int .u64 x.1, .int .i64 x.2], .pointer (some ⟨B, 0, none⟩), .pointer (some ⟨D, 0, none⟩)] W fun e w' => e = .returned (.bool (decide (cv k x < 0))) ∧ Below W.heap.size W w' := by
  have H := Aside0.mk hc
  have HB0 := Aside0.mk (below_alloc (Below.refl W.heap.size W) (.cells #[.int .u64 x.1, .int .i64 x.2] 26))
  have hlt := World.block_lt_of_cell? W _ hB
  have hlt2 := World.block_lt_of_cell? W _ hD
  clear hc
  go_enter Try.func34, Try.ntmps34
  go_wp2_with (go_at_call 12; (with_reducible refine (keyLess H.out k x _).mono ?_); rintro e w3 ⟨rfl, hb⟩; have HB1 := Aside0.mk (below_step HB0.out hb); clear hb)
  go_ret
  exact ⟨rfl, HB1.out⟩
omit hc
theorem is_42 (B : Nat) (W : World) (id : Int) (x : K) (hB : W.cell? ⟨B, 0, none⟩ = some (.int .i64 id)) :
    Calls Try.prog 42 #[.agg #[.int .u64 x.1, .int .i64 x.2], .pointer (some ⟨B, 0, none⟩)] W fun e w' => e = .returned (.bool (x.2 == id)) ∧ Below W.heap.size W w' := by
  have HB0 := Aside0.mk (below_alloc (Below.refl W.heap.size W) (.cells #[.int .u64 x.1, .int .i64 x.2] 26))
  have hlt := World.block_lt_of_cell? W _ hB
  go_enter Try.func42, Try.ntmps42
  go_wp2
  go_ret
  exact ⟨rfl, HB0.out⟩
end
end Go.Proofs.Ytahnkldkbbkflaa.Srt
