/- key.Put, key.Drop at keys. No condition but lengths. Written by hand. -/
import Derived.Test.YtahnkldkbbkflaaKLib8
import Derived.Test.YtahnkldkbbkflaaCmp
namespace Go.Proofs.Ytahnkldkbbkflaa.Srt
open Go.RowKit Go Go.Proofs Go.Proofs.Ytahnkldkbbkflaa Go.Proofs.Ytahnkldkbbkflaa.Ky Go.Proofs.YtahnkldkbbkflaaW.PrintWords Go.Proofs.YtahnkldkbbkflaaW.PrintLast Go.Proofs.YtahnkldkbbkflaaW.PrintMore
set_option linter.unusedVariables false
set_option linter.unusedSimpArgs false
def putK (cv : K → K → Int) (l : List K) (k : K) : List K × Int :=
  if sortedK cv l = false then ([], 4) else if 0 ≤ idxI (fun x => x.2 == k.2) l then ([], 1)
  else (l.take (l.findIdx (fun x => decide (cv k x < 0))) ++ k :: l.drop (l.findIdx (fun x => decide (cv k x < 0))), 0)
def dropK (cv : K → K → Int) (l : List K) (id : Int) : List K × Int :=
  if sortedK cv l = false then ([], 4) else if idxI (fun x => x.2 == id) l < 0 then ([], 8)
  else (l.take (idxI (fun x => x.2 == id) l).toNat ++ l.drop ((idxI (fun x => x.2 == id) l).toNat + 1), 0)
theorem idxI_ge (p : K → Bool) (l : List K) : -1 ≤ idxI p l ∧ idxI p l < l.length ∨ idxI p l = -1 := by
  unfold idxI
  split
  · left; constructor <;> omega
  · right; rfl
/-- slices.Insert of one, whatever room there is -/
theorem insertAny (v : Value) (l : List K) (V base i : Nat) (I : Int) (hI : I = i) (k : K) (w : World) (hR : kp.R 26 w base (fun b => b ≠ V) v l) (hl : l.length ≤ 1000000) (hi : i ≤ l.length) (hb : base ≤ w.heap.size) (hV : w.heap[V]? = some (.cells #[.int .u64 k.1, .int .i64 k.2] 26 (0, 0))) :
    Calls Try.prog 35 #[v, .int .i64 I, .slice (some ⟨V, 0, none⟩) 1 1] w fun e w' => ∃ v0 : Value, e = .returned v0 ∧ kp.R 26 w' base (fun _ => True) v0 (l.take i ++ k :: l.drop i) ∧ Below base w w' := by
  subst hI
  rcases Nat.lt_or_ge i l.length with h | h
  · obtain ⟨g, cap, rs, rfl, hg, hne, hn, hm, hs, hA⟩ := R_arr hR (by omega)
    have hlen : (l.take i ++ k :: l.drop i).length = l.length + 1 := by simp; omega
    rcases Nat.lt_or_ge l.length cap with hc | hc
    · refine (insertRoom g l.length cap i V l k w hA rfl hl h hc hm hs hV (fun e => hne e.symm)).mono ?_
      rintro e w' ⟨rfl, hA2, hG⟩
      refine ⟨_, rfl, ?_, Below.grown (Below.refl base w) hG hb (fun q hq => by injection hq with hq; omega)⟩
      have h2 := arr_R (base := base) (cap := cap) (ok := fun _ => True) hA2 hg trivial (by omega) hm (by rw [hlen, List.length_drop]; omega)
      rwa [hlen] at h2
    · have hcap : l.length = cap := by omega
      refine (insertGrow g l.length cap i V l k w hA rfl hl h hcap hV).mono ?_
      rintro e w' ⟨C, rs', rfl, hC1, hC2, hs2, hA2, hB⟩
      refine ⟨_, rfl, ?_, hB.mono hb⟩
      have h2 := arr_R (base := base) (cap := C) (ok := fun _ => True) hA2 hb trivial (by omega) hC2 (by rw [hlen]; exact hs2)
      rwa [hlen] at h2
  · obtain rfl : i = l.length := by omega
    rw [List.take_length, List.drop_length]
    exact insertEnd v l V base k w (Kd.R_mono hR (fun _ _ => trivial)) hl hb hV
section
variable {mn : Int} {cv : K → K → Int} (hc : Cmp26 mn cv)
include hc
set_option maxHeartbeats 8000000 in
set_option maxRecDepth 100000 in
theorem keyDrop (id : Int) (A0 : Option Addr) (c0 : Nat) (l : List K) (w : World) (hr : kp.C w A0 l.length l) (hl : l.length ≤ 1000000) (hid : ∀ k ∈ l, inI k.2) :
    Calls Try.prog 21 #[.int .u64 mn, .slice A0 l.length c0, .int .i64 id] w fun e w' => ∃ v0 : Value, e = .returned (.tuple #[v0, .int .i64 (dropK cv l id).2]) ∧ kp.R 26 w' w.heap.size (fun _ => True) v0 (dropK cv l id).1 ∧ Below w.heap.size w w' := by
  have HR := Aside0.mk hr
  have H := Aside0.mk hc
  have HID := Aside0.mk hid
  have hix := idxI_ge (fun x => x.2 == id) l
  obtain ⟨q, hq⟩ : ∃ q, q = idxI (fun x => x.2 == id) l := ⟨_, rfl⟩
  have HQ := Aside0.mk hq
  have hfind : ∀ w, kp.C w A0 l.length l → Calls Try.prog 32 #[.slice A0 l.length c0, .int .i64 id] w fun e w' => e = .returned (.int .i64 q) ∧ Below w.heap.size w w' := fun w h => by rw [hq]; exact keyFind id A0 c0 l w h hl
  have HF := Aside0.mk hfind
  rw [← hq] at hix
  have hdk : dropK cv l id = if sortedK cv l = false then ([], 4) else if q < 0 then ([], 8) else (l.take q.toNat ++ l.drop (q.toNat + 1), 0) := by rw [hq]; rfl
  clear hr hc hid hq hfind
  cases hs : sortedK cv l with
  | false =>
    rw [hdk, if_pos hs]
    have HS := Aside0.mk hs
    clear hs hdk
    go_enter Try.func21, Try.ntmps21
    go_wp2_with (first | (go_at_call 32; (with_reducible refine (HF.out _ HR.out).mono ?_); rintro e w1 ⟨rfl, hb⟩; have HB1 := Aside0.mk hb; clear hb) | (go_at_call 14; (with_reducible refine (keySorted H.out A0 c0 l _ (Kd.C_below HR.out HB1.out) hl HID.out).mono ?_); rintro e w2 ⟨rfl, hb⟩; rw [HS.out]; have HB2 := Aside0.mk (below_step HB1.out hb); clear hb))
    go_ret2
    exact ⟨_, rfl, Kd.R_nil _ _ _ _ _, HB2.out⟩
  | true =>
    rw [hdk, if_neg (by rw [hs]; simp)]
    have HS := Aside0.mk hs
    clear hs hdk
    by_cases hq0 : q < 0
    · rw [if_pos hq0]
      go_enter Try.func21, Try.ntmps21
      go_wp2_with (first | (go_at_call 32; (with_reducible refine (HF.out _ HR.out).mono ?_); rintro e w1 ⟨rfl, hb⟩; have HB1 := Aside0.mk hb; clear hb) | (go_at_call 14; (with_reducible refine (keySorted H.out A0 c0 l _ (Kd.C_below HR.out HB1.out) hl HID.out).mono ?_); rintro e w2 ⟨rfl, hb⟩; rw [HS.out]; have HB2 := Aside0.mk (below_step HB1.out hb); clear hb))
      go_ret2
      exact ⟨_, rfl, Kd.R_nil _ _ _ _ _, HB2.out⟩
    · rw [if_neg hq0]
      obtain ⟨i, rfl⟩ : ∃ i : Nat, q = i := ⟨q.toNat, by omega⟩
      have hil : i < l.length := by omega
      rw [Int.toNat_natCast]
      go_enter Try.func21, Try.ntmps21
      go_wp2_with (first | (go_at_call 32; (with_reducible refine (HF.out _ HR.out).mono ?_); rintro e w1 ⟨rfl, hb⟩; have HB1 := Aside0.mk hb; clear hb) | (go_at_call 14; (with_reducible refine (keySorted H.out A0 c0 l _ (Kd.C_below HR.out HB1.out) hl HID.out).mono ?_); rintro e w2 ⟨rfl, hb⟩; rw [HS.out]; have HB2 := Aside0.mk (below_step HB1.out hb); clear hb))
      refine (clone_any A0 c0 l _ (Kd.C_below HR.out HB2.out) hl).mono ?_
      rintro e w3 ⟨v0, rfl, hR3, hb⟩
      have hsz := HB2.out.size
      have HB3 := Aside0.mk (below_step HB2.out hb)
      obtain ⟨g, cap, rs, rfl, hg, _, hn, hm, hs, hA⟩ := R_arr hR3 (by omega)
      have HA := Aside0.mk hA
      have HS2 := Aside0.mk hs
      have hgw : w.heap.size ≤ g := Nat.le_trans hsz hg
      clear hR3 hb hA hs hg
      have hlen : (l.take i ++ l.drop (i + 1)).length = l.length - 1 := by simp; omega
      have HLEN := Aside0.mk hlen
      clear hlen
      go_wp2_with (go_at_call 37; (with_reducible refine (deleteOne g l.length cap i l _ HA.out rfl hl hil hn hm HS2.out _ rfl).mono ?_); rintro e w4 ⟨rfl, hA4, hG4⟩; have HA4 := Aside0.mk hA4; have HG4 := Aside0.mk hG4; clear hA4 hG4)
      go_ret2
      refine ⟨_, rfl, ?_, Below.grown HB3.out HG4.out HB3.out.size (fun q hq => by injection hq with hq; omega)⟩
      have h := arr_R (base := w.heap.size) (cap := cap) (ok := fun _ => True) HA4.out hgw trivial (by rw [HLEN.out]; omega) hm (by rw [HLEN.out, List.length_cons, List.length_cons]; have := HS2.out; omega)
      rwa [HLEN.out] at h
omit hc in
theorem own_new {w w1 : World} {base : Nat} {v : Value} {l : List K} (h : kp.R 26 w base (fun _ => True) v l) (hb : Below w.heap.size w w1) : kp.R 26 w1 base (fun b => b ≠ w.heap.size) v l :=
  Kd.R_below (Kd.R_mono (Kd.R_bound h) (fun k hk => by have := hk.2.2.1; omega)) hb
omit hc in
theorem own_old {w : World} {base V : Nat} {v : Value} {l : List K} (h : kp.R 26 w base (fun _ => True) v l) (hV : V < base) : kp.R 26 w base (fun b => b ≠ V) v l :=
  Kd.R_mono (Kd.R_bound h) (fun k hk => by have := hk.2.1; omega)
set_option maxHeartbeats 8000000 in
set_option maxRecDepth 100000 in
theorem keyPut (k : K) (A0 : Option Addr) (c0 : Nat) (l : List K) (w : World) (hr : kp.C w A0 l.length l) (hl : l.length ≤ 1000000) (hid : ∀ k ∈ l, inI k.2) :
    Calls Try.prog 19 #[.int .u64 mn, .slice A0 l.length c0, .agg #[.int .u64 k.1, .int .i64 k.2]] w fun e w' => ∃ v0 : Value, e = .returned (.tuple #[v0, .int .i64 (putK cv l k).2]) ∧ kp.R 26 w' w.heap.size (fun _ => True) v0 (putK cv l k).1 ∧ Below w.heap.size w w' := by
  have HB0 := Aside0.mk (below_alloc (below_alloc (Below.refl w.heap.size w) (.cells #[.int .u64 mn] 22)) (.cells #[.int .u64 k.1, .int .i64 k.2] 26))
  have HX0 : Aside0 (((w.alloc (.cells #[.int .u64 mn] 22)).alloc (.cells #[.int .u64 k.1, .int .i64 k.2] 26)).heap[w.heap.size]? = some (.cells #[.int .u64 mn] 22 (0, 0))) := ⟨blk_below (blk_new w (.cells #[.int .u64 mn] 22)) (below_alloc (Below.refl _ _) _)⟩
  have HK0 : Aside0 (((w.alloc (.cells #[.int .u64 mn] 22)).alloc (.cells #[.int .u64 k.1, .int .i64 k.2] 26)).heap[w.heap.size + 1]? = some (.cells #[.int .u64 k.1, .int .i64 k.2] 26 (0, 0))) := ⟨by have := blk_new (w.alloc (.cells #[.int .u64 mn] 22)) (.cells #[.int .u64 k.1, .int .i64 k.2] 26); simpa using this⟩
  have HR := Aside0.mk hr
  have H := Aside0.mk hc
  have HID := Aside0.mk hid
  obtain ⟨q, hq⟩ : ∃ q, q = idxI (fun x => x.2 == k.2) l := ⟨_, rfl⟩
  obtain ⟨j, hj⟩ : ∃ j, j = l.findIdx (fun x => decide (cv k x < 0)) := ⟨_, rfl⟩
  have hjl : j ≤ l.length := by rw [hj]; exact List.findIdx_le_length
  have hpk : putK cv l k = if sortedK cv l = false then ([], 4) else if 0 ≤ q then ([], 1) else (l.take j ++ k :: l.drop j, 0) := by rw [hq, hj]; rfl
  obtain ⟨J, hJ⟩ : ∃ J, J = idxI (fun x => decide (cv k x < 0)) l := ⟨_, rfl⟩
  have hJ2 : J = if j < l.length then (j : Int) else -1 := by rw [hJ, hj]; rfl
  have HF : Aside0 (∀ w, kp.C w A0 l.length l → Calls Try.prog 32 #[.slice A0 l.length c0, .int .i64 k.2] w fun e w' => e = .returned (.int .i64 q) ∧ Below w.heap.size w w') := ⟨fun w h => by rw [hq]; exact keyFind k.2 A0 c0 l w h hl⟩
  have HIX : Aside0 (∀ W : World, kp.C W A0 l.length l → W.heap[w.heap.size]? = some (.cells #[.int .u64 mn] 22 (0, 0)) → W.heap[w.heap.size + 1]? = some (.cells #[.int .u64 k.1, .int .i64 k.2] 26 (0, 0)) →
      Calls Try.prog 33 #[.slice A0 l.length c0, .func (.func 34) #[] #[.pointer (some ⟨w.heap.size, 0, none⟩), .pointer (some ⟨w.heap.size + 1, 0, none⟩)]] W fun e w' => e = .returned (.int .i64 J) ∧ Below W.heap.size W w') := ⟨fun W h hB hD => by
    rw [hJ]
    exact indexFunc34 (fun x => decide (cv k x < 0)) A0 c0 l W w.heap.size (w.heap.size + 1) h hl (fun W2 x hb => less_34 H.out _ _ W2 k x ((blk_cell (blk_below hB hb) 0).trans rfl) ((blk_cell (blk_below hD hb) 0).trans rfl) ((blk_cell (blk_below hD hb) 1).trans rfl))⟩
  have hcz := (blk_cell HX0.out 0).trans rfl
  clear hr hc hid hq hj hJ
  cases hs : sortedK cv l with
  | false =>
    rw [hpk, if_pos hs]
    have HS := Aside0.mk hs
    clear hs hpk hJ2
    go_enter Try.func19, Try.ntmps19
    go_wp2_with (go_at_call 14; (with_reducible refine (keySorted H.out A0 c0 l _ (Kd.C_below HR.out HB0.out) hl HID.out).mono ?_); rintro e w2 ⟨rfl, hb⟩; rw [HS.out]; have HB2 := Aside0.mk (below_step HB0.out hb); clear hb)
    go_ret2
    exact ⟨_, rfl, Kd.R_nil _ _ _ _ _, HB2.out⟩
  | true =>
    rw [hpk, if_neg (by rw [hs]; simp)]
    have HS := Aside0.mk hs
    clear hs hpk
    by_cases hq0 : 0 ≤ q
    · rw [if_pos hq0]
      go_enter Try.func19, Try.ntmps19
      go_wp2_with (first | (go_at_call 14; (with_reducible refine (keySorted H.out A0 c0 l _ (Kd.C_below HR.out HB0.out) hl HID.out).mono ?_); rintro e w2 ⟨rfl, hb⟩; rw [HS.out]; have HB2 := Aside0.mk (below_step HB0.out hb); have HK2 := Aside0.mk (blk_below HK0.out hb); have c5 := (blk_cell HK2.out 1).trans rfl; clear hb) | (go_at_call 32; (with_reducible refine (HF.out _ (Kd.C_below HR.out HB2.out)).mono ?_); rintro e w3 ⟨rfl, hb⟩; have HB3 := Aside0.mk (below_step HB2.out hb); clear hb))
      go_ret2
      exact ⟨_, rfl, Kd.R_nil _ _ _ _ _, HB3.out⟩
    · rw [if_neg hq0]
      have hq1 : decide (0 ≤ q) = false := decide_eq_false hq0
      have hq2 : q < 0 := by omega
      go_enter Try.func19, Try.ntmps19
      go_upto_region 6 with (first | (go_at_call 14; (with_reducible refine (keySorted H.out A0 c0 l _ (Kd.C_below HR.out HB0.out) hl HID.out).mono ?_); rintro e w2 ⟨rfl, hb⟩; rw [HS.out]; have HB2 := Aside0.mk (below_step HB0.out hb); have HK2 := Aside0.mk (blk_below HK0.out hb); have HX2 := Aside0.mk (blk_below HX0.out hb); have c5 := (blk_cell HK2.out 1).trans rfl; clear hb) | (go_at_call 32; (with_reducible refine (HF.out _ (Kd.C_below HR.out HB2.out)).mono ?_); rintro e w3 ⟨rfl, hb⟩; have HB3 := Aside0.mk (below_step HB2.out hb); have HK3 := Aside0.mk (blk_below HK2.out hb); have HX3 := Aside0.mk (blk_below HX2.out hb); clear hb) | (go_at_call 33; (with_reducible refine (HIX.out _ (Kd.C_below HR.out HB3.out) HX3.out HK3.out).mono ?_); rintro e w4 ⟨rfl, hb⟩; have HB4 := Aside0.mk (below_step HB3.out hb); have HK4 := Aside0.mk (blk_below HK3.out hb); clear hb))
      go_upto_if 24 with (fail)
      go_cut [8] (fun s8 wx => s8 = .int .i64 j ∧ w4 = wx)
      case first =>
        by_cases hjl2 : j < l.length
        · rw [if_pos hjl2] at hJ2
          subst hJ2
          have k1 : decide ((j : Int) < 0) = false := decide_eq_false (by omega)
          go_wp2_with fail
          go_meet
          exact ⟨rfl, rfl⟩
        · rw [if_neg hjl2] at hJ2
          subst hJ2
          have hjj : j = l.length := by omega
          go_wp2_with fail
          go_meet
          exact ⟨by rw [hjj], rfl⟩
      case rest =>
        obtain ⟨rfl, rfl⟩ := hcut
        clear hJ2
        have HCd := Aside0.mk (Kd.C_below HR.out (Below.drew HB4.out))
        have HBd := Aside0.mk (Below.drew HB4.out)
        have hsz := HBd.out.size
        have hsz4 : w.heap.size ≤ w4.heap.size := HB4.out.size
        have c1 := (blk_cell HK4.out 0).trans rfl
        have c2 := (blk_cell HK4.out 1).trans rfl
        clear hcz
        go_upto_region 8 with (fail)
        go_region_with (first
          | (go_at_call 28; (with_reducible refine (clone_any A0 c0 l _ (by first | exact HCd.out | exact Kd.C_below HCd.out (below_alloc (Below.refl _ _) _)) hl).mono ?_); rintro e w5 ⟨v0, rfl, hR5, hb⟩; have HR5 := Aside0.mk hR5; have HB5 := Aside0.mk hb; have cc1 := cells_below c1 (show Below w4.heap.size w4 w5 from by first | exact (Below.drew (Below.refl _ _)).trans hb | exact ((Below.drew (Below.refl _ _)).alloc (Nat.le_refl _) _).trans (hb.mono (by simp))); have cc2 := cells_below c2 (show Below w4.heap.size w4 w5 from by first | exact (Below.drew (Below.refl _ _)).trans hb | exact ((Below.drew (Below.refl _ _)).alloc (Nat.le_refl _) _).trans (hb.mono (by simp))); clear hb hR5)
          | (go_at_call 35; (with_reducible refine (insertAny v0 l w5.heap.size w.heap.size j _ rfl k _ (own_new (Kd.R_lower HR5.out hsz) (below_alloc (Below.refl _ _) _)) hl hjl (by have := HB5.out.size; simp; omega) (blk_new w5 _)).mono ?_); rintro e w6 ⟨v6, rfl, hR6, hb6⟩; have HR6 := Aside0.mk hR6; have HB6 : Aside0 (Below w.heap.size w w6) := ⟨((HBd.out.trans (HB5.out.mono hsz)).alloc (Nat.le_trans hsz HB5.out.size) _).trans hb6⟩; clear hR6 hb6)
          | (go_at_call 35; (with_reducible refine (insertAny v0 l w4.heap.size w.heap.size j _ rfl k _ (Kd.R_lower (own_old HR5.out (by simp)) (by simp; omega)) hl hjl (by have := HB5.out.size; simp at this; omega) (blk_below (blk_new w4.drew _) HB5.out)).mono ?_); rintro e w6 ⟨v6, rfl, hR6, hb6⟩; have HR6 := Aside0.mk hR6; have HB6 : Aside0 (Below w.heap.size w w6) := ⟨((HBd.out.alloc hsz _).trans (HB5.out.mono (by simp; omega))).trans hb6⟩; clear hR6 hb6))
        all_goals (go_wp2; go_ret2; exact ⟨v6, rfl, HR6.out, HB6.out⟩)
end
open Go.Proofs.Ytahnkldkbbkflaa.KC
/-- no more than a million keys, each of its kind -/
def okR (l : List K) : Bool := decide (l.length ≤ 1000000) && l.all fun k => decide (0 ≤ k.1 ∧ k.1 ≤ 18446744073709551615) && decide (-9223372036854775808 ≤ k.2 ∧ k.2 ≤ 9223372036854775807)
theorem okR_len {l : List K} (h : okR l = true) : l.length ≤ 1000000 := by
  unfold okR at h
  rw [Bool.and_eq_true] at h
  exact of_decide_eq_true h.1
theorem okR_at {l : List K} (h : okR l = true) (k : K) (hk : k ∈ l) : (0 ≤ k.1 ∧ k.1 ≤ 18446744073709551615) ∧ (-9223372036854775808 ≤ k.2 ∧ k.2 ≤ 9223372036854775807) := by
  unfold okR at h
  rw [Bool.and_eq_true] at h
  have h2 := List.all_eq_true.1 h.2 k hk
  rw [Bool.and_eq_true] at h2
  exact ⟨of_decide_eq_true h2.1, of_decide_eq_true h2.2⟩
theorem okR_id {l : List K} (h : okR l = true) : ∀ k ∈ l, inI k.2 := fun k hk => (okR_at h k hk).2
theorem lag_inj {mn a b : Int} (ha : 0 ≤ a ∧ a ≤ 18446744073709551615) (hb : 0 ≤ b ∧ b ≤ 18446744073709551615) (h : lagf mn a = lagf mn b) : a = b := by
  unfold lagf wrap64 at h
  have w : ∀ x : Int, IntKind.u64.wrap x = x % 18446744073709551616 := fun x => by unfold IntKind.wrap; simp [IntKind.signed, IntKind.bits]
  rw [w, w] at h
  omega
theorem cv_antisymm {mn : Int} {x y : K} (hx : 0 ≤ x.1 ∧ x.1 ≤ 18446744073709551615) (hy : 0 ≤ y.1 ∧ y.1 ≤ 18446744073709551615) (h1 : ¬ cvf mn x y < 0) (h2 : ¬ cvf mn y x < 0) : x = y := by
  have e : lagf mn x.1 = lagf mn y.1 ∧ x.2 = y.2 := by
    unfold cvf at h1 h2
    repeat' split at h1
    all_goals (repeat' split at h2) <;> omega
  exact Prod.ext (lag_inj hx hy e.1) e.2
def sortK (mn : Int) (l : List K) : List K := l.mergeSort fun x y => decide (¬ cvf mn y x < 0)
theorem sortK_perm (mn : Int) (l : List K) : (sortK mn l).Perm l := List.mergeSort_perm _ _
theorem sortK_pw (mn : Int) (l : List K) : (sortK mn l).Pairwise (fun x y => ¬ cvf mn y x < 0) := by
  have h := List.pairwise_mergeSort (le := fun x y => decide (¬ cvf mn y x < 0)) (fun a b c h1 h2 => by
    have h1 := of_decide_eq_true h1
    have h2 := of_decide_eq_true h2
    exact decide_eq_true ((ord mn).trans a b c h1 h2)) (fun a b => by
    rw [Bool.or_eq_true]
    by_cases e : cvf mn b a < 0
    · exact Or.inr (decide_eq_true ((ord mn).asym _ _ e))
    · exact Or.inl (decide_eq_true e)) l
  exact h.imp fun h => of_decide_eq_true h
theorem pw_unique {mn : Int} {a b : List K} (ha : ∀ k ∈ a, 0 ≤ k.1 ∧ k.1 ≤ 18446744073709551615) (h1 : a.Pairwise (fun x y => ¬ cvf mn y x < 0)) (h2 : b.Pairwise (fun x y => ¬ cvf mn y x < 0)) (hp : a.Perm b) : a = b :=
  List.Perm.eq_of_pairwise (fun x y hx hy h3 h4 => cv_antisymm (ha x hx) (ha y (hp.mem_iff.2 hy)) h4 h3) h1 h2 hp
theorem srd_pw {cv : K → K → Int} {l : List K} {n : Nat} (hn : n = l.length) (h : Srd cv l 0 n) : l.Pairwise (fun x y => ¬ cv y x < 0) := by
  subst hn
  rw [List.pairwise_iff_getElem]
  intro i j hi hj hij
  have := h i j (Nat.zero_le _) (by omega) hj
  rw [gt_of l i hi, gt_of l j hj] at this
  exact this
theorem sortK_eq {mn : Int} {l l' : List K} (h : okR l = true) (hp : l'.Perm l) (hs : Srd (cvf mn) l' 0 l.length) : sortK mn l = l' :=
  pw_unique (fun k hk => (okR_at h k ((sortK_perm mn l).mem_iff.1 hk)).1) (sortK_pw mn l) (srd_pw hp.length_eq.symm hs) ((sortK_perm mn l).trans hp.symm)
def firstK (cv : K → K → Int) (l : List K) : K := if l.length = 0 then (0, 0) else minTo cv l (l.length - 1)
def madeK (mn : Int) (l : List Int) : List K := (l.take 40).foldl (fun (out : List K) x => if out.any (fun k => k.2 == x % 64) then out else out ++ [(IntKind.u64.wrap (IntKind.u64.wrap (mn + x / 64) - 300), x % 64)]) []
end Go.Proofs.Ytahnkldkbbkflaa.Srt
