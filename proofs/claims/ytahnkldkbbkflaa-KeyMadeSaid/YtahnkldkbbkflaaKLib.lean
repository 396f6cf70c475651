/- Rows of keys as the print tells them and as the walks tell them; slices.Clone, key.Sort at keys. No condition but lengths. Written by hand. -/
import Derived.Test.YtahnkldkbbkflaaSrt4
import Derived.Lib.Hide
namespace Go.Proofs.Ytahnkldkbbkflaa.Srt
open Go.RowKit Go Go.Proofs Go.Proofs.Ytahnkldkbbkflaa Go.Proofs.Ytahnkldkbbkflaa.Ky Go.Proofs.YtahnkldkbbkflaaW.PrintWords Go.Proofs.YtahnkldkbbkflaaW.PrintLast Go.Proofs.YtahnkldkbbkflaaW.PrintMore
set_option linter.unusedVariables false
set_option linter.unusedSimpArgs false
theorem info26 : (Try.prog.info? 26).map (fun i => (i.zero, i.size, i.bytes)) = some (some (.agg #[(.int .u64 0), (.int .i64 0)]), 2, 16) := by kernel_rfl
def kp : Kd K := Kd.pair (Kd.int .u64) (Kd.int .i64)
theorem kp_open {w : World} {x : K} {cs : List Value} (h : kp.K w x cs) : cs = [.int .u64 x.1, .int .i64 x.2] := by
  obtain ⟨_, _, rfl, rfl, rfl⟩ := h
  exact rfl
theorem kp_openM {w : World} {base : Nat} {ok : Nat → Prop} {x : K} {cs : List Value} (h : kp.M w base ok x cs) : cs = [.int .u64 x.1, .int .i64 x.2] := by
  obtain ⟨_, _, rfl, rfl, rfl⟩ := h
  exact rfl
theorem kp_mk (w : World) (x : K) : kp.K w x [.int .u64 x.1, .int .i64 x.2] := ⟨[.int .u64 x.1], [.int .i64 x.2], rfl, rfl, rfl⟩
theorem kp_mkM (w : World) (base : Nat) (ok : Nat → Prop) (x : K) : kp.M w base ok x [.int .u64 x.1, .int .i64 x.2] := ⟨[.int .u64 x.1], [.int .i64 x.2], rfl, rfl, rfl⟩
theorem reps_iso {α β : Type} {R : α → List Value → Prop} {n : Nat} {f : β → α} {xs : List β} {cs : List Value} : Reps (fun x c => R (f x) c) n xs cs ↔ Reps R n (xs.map f) cs := by
  unfold Reps
  rw [List.length_map]
  refine and_congr Iff.rfl ⟨fun h j p hp => ?_, fun h j p hp => ?_⟩
  · rw [List.getElem?_map, Option.map_eq_some_iff] at hp
    obtain ⟨q, hq, rfl⟩ := hp
    exact h j q hq
  · exact h j (f p) (by rw [List.getElem?_map, hp]; rfl)
theorem R_iso {α β : Type} {d : Kd α} {f : β → α} {e : Nat} {w : World} {base : Nat} {ok : Nat → Prop} {v : Value} {xs : List β} : (Kd.iso d f).R e w base ok v xs ↔ d.R e w base ok v (xs.map f) := by
  unfold Kd.R OwnRow
  refine and_congr Iff.rfl ⟨fun ⟨i, h1, h2⟩ => ⟨i, by rw [List.length_map]; exact h1, (reps_iso (R := d.M w base (fun k => ok k ∧ some k ≠ v.ownBlock)) (f := f)).1 h2⟩, fun ⟨i, h1, h2⟩ => ⟨i, by rw [List.length_map] at h1; exact h1, (reps_iso (R := d.M w base (fun k => ok k ∧ some k ≠ v.ownBlock)) (f := f)).2 h2⟩⟩
theorem C_iso {α β : Type} {d : Kd α} {f : β → α} {w : World} {A : Option Addr} {n : Nat} {xs : List β} : (Kd.iso d f).C w A n xs ↔ d.C w A n (xs.map f) := by
  unfold Kd.C ReadsRow
  rw [List.length_map]
  refine and_congr Iff.rfl (and_congr Iff.rfl (forall_congr' fun h0 => exists_congr fun ad => and_congr Iff.rfl ⟨fun h j p hp => ?_, fun h j p hp => ?_⟩))
  · rw [List.getElem?_map, Option.map_eq_some_iff] at hp
    obtain ⟨q, hq, rfl⟩ := hp
    exact h j q hq
  · exact h j (f p) (by rw [List.getElem?_map, hp]; rfl)
theorem C_at {w : World} {A : Option Addr} {n : Nat} {l : List K} (h : kp.C w A n l) (i : Nat) (h1 : i < n) : ∃ ad, A = some ad ∧ w.cell? (ad.add (i * 2)) = some (.int .u64 (gt l i).1) ∧ w.cell? ⟨(ad.add (i * 2)).block, (ad.add (i * 2)).off + 1, none⟩ = some (.int .i64 (gt l i).2) := by
  obtain ⟨ad, c, e, _, hK, hc0⟩ := Kd.C_get h (0, 0) (i : Int) (by omega) (by omega)
  have hc : ∀ j u, c[j]? = some u → w.cell? (ad.add (((i : Int)).toNat * 2 + j)) = some u := hc0
  obtain rfl := kp_open hK
  rw [Int.toNat_natCast] at hc
  refine ⟨ad, e, hc 0 _ rfl, ?_⟩
  rw [← add_field ad (i * 2) 1 (by omega)]
  exact hc 1 _ rfl
theorem reps_flat : ∀ {l : List K} {cs : List Value}, Reps (fun (x : K) c => c = [.int .u64 x.1, .int .i64 x.2]) 2 l cs → cs = flat l
  | [], cs, h => by
    have := h.1
    simp only [List.length_nil, Nat.zero_mul] at this
    exact List.eq_nil_of_length_eq_zero this
  | x :: t, cs, h => by
    have h0 := h.2 0 x rfl
    rw [Nat.zero_mul, List.drop_zero] at h0
    have h1 : Reps (fun (x : K) c => c = [.int .u64 x.1, .int .i64 x.2]) 2 t (cs.drop 2) := by
      refine ⟨by rw [List.length_drop, h.1, List.length_cons]; omega, fun j p hp => ?_⟩
      rw [List.drop_drop, show 2 + j * 2 = (j + 1) * 2 by omega]
      exact h.2 (j + 1) p hp
    rw [flat, ← reps_flat h1, ← List.take_append_drop 2 cs, h0]
    rfl
theorem flat_reps : ∀ l : List K, Reps (fun (x : K) c => c = [.int .u64 x.1, .int .i64 x.2]) 2 l (flat l)
  | [] => Reps.none _ _
  | x :: t => by
    refine ⟨by rw [flat_length], fun j p hp => ?_⟩
    match j with
    | 0 => injection hp with hp; subst hp; rfl
    | j + 1 =>
      rw [show (j + 1) * 2 = j * 2 + 1 + 1 by omega, flat, List.drop_succ_cons, List.drop_succ_cons]
      exact (flat_reps t).2 j p hp
theorem R_arr {w : World} {base : Nat} {ok : Nat → Prop} {v : Value} {l : List K} (h : kp.R 26 w base ok v l) (h0 : 0 < l.length) : ∃ g cap rs, v = .slice (some ⟨g, 0, none⟩) l.length cap ∧ base ≤ g ∧ ok g ∧ l.length ≤ cap ∧ cap ≤ maxLen ∧ l.length * 2 + rs.length = cap * 2 ∧ Arr rs w g l := by
  obtain ⟨hok, inner, ⟨hl, ho⟩, hr⟩ := h
  have hr' : Reps (fun (x : K) c => c = [.int .u64 x.1, .int .i64 x.2]) 2 l inner := ⟨hr.1, fun j p hp => kp_openM (hr.2 j p hp)⟩
  have hi := reps_flat hr'
  rcases ho with ⟨_, hn⟩ | ⟨g, cap, cur, rfl, hg, hh, hn, hm, hs, ht⟩
  · omega
  · have hs' : cur.size = cap * 2 := hs
    have ht' : cur.toList.take (l.length * 2) = inner := ht
    refine ⟨g, cap, cur.toList.drop (l.length * 2), rfl, hg, hok g rfl, hn, hm, ?_, ⟨cur, hh, ?_⟩⟩
    · have h2 : l.length * 2 ≤ cap * 2 := by omega
      rw [List.length_drop, show cur.toList.length = cap * 2 from hs']; omega
    · rw [← hi, ← ht', List.take_append_drop]
theorem arr_R {rs : List Value} {w : World} {g base cap : Nat} {ok : Nat → Prop} {l : List K} (h : Arr rs w g l) (hb : base ≤ g) (hok : ok g) (hn : l.length ≤ cap) (hm : cap ≤ maxLen) (hs : l.length * 2 + rs.length = cap * 2) : kp.R 26 w base ok (.slice (some ⟨g, 0, none⟩) l.length cap) l := by
  obtain ⟨cur, h1, h2⟩ := h.out
  have hsz : cur.size = cap * 2 := by rw [← Array.length_toList, h2, List.length_append, flat_length, hs]
  refine ⟨fun k hk => by injection hk with hk; subst hk; exact hok, flat l, ⟨flat_length l, .inr ⟨g, cap, cur, rfl, hb, h1, hn, hm, hsz, ?_⟩⟩, ?_⟩
  · show cur.toList.take (l.length * 2) = flat l
    rw [h2, ← flat_length, List.take_left]
  · exact ⟨(flat_reps l).1, fun j p hp => by rw [show ((flat l).drop (j * kp.sz)).take kp.sz = [.int .u64 p.1, .int .i64 p.2] from (flat_reps l).2 j p hp]; exact kp_mkM _ _ _ _⟩
theorem nil_of_none {w : World} {l : List K} (hr : kp.C w none l.length l) : l = [] := by
  cases l with
  | nil => rfl
  | cons x t =>
    exfalso
    obtain ⟨ad, c, h, _⟩ := ReadsRow.get_ hr (0, 0) 0 (by omega) (by simp)
    cases h
set_option maxHeartbeats 2000000 in
set_option maxRecDepth 100000 in
theorem clone_any (A0 : Option Addr) (c0 : Nat) (l0 : List K) (w : World) (hr : kp.C w A0 l0.length l0) (hl : l0.length ≤ 1000000) :
    Calls Try.prog 28 #[.slice A0 l0.length c0] w fun e w' => ∃ v0_ : Value, e = .returned v0_ ∧ kp.R 26 w' w.heap.size (fun _ => True) v0_ l0 ∧ Below w.heap.size w w' := by
  have q22 : ∀ (w : World) (a : Option Addr) (n c n' c' : Nat), (binOp .eql 23 (.slice a n c) (.slice none n' c')).run Try.prog w = .ok (.bool a.isNone) w := fun w a n c n' c' => Lib.run_eql_slice_nil w _ _ a n c n' c' Try.underlying23
  cases A0 with
  | none =>
    obtain rfl := nil_of_none hr
    clear hr
    go_enter Try.func28, Try.ntmps28
    go_wp2
    go_ret
    exact ⟨_, rfl, Kd.R_nil _ _ _ _ _, Below.refl _ _⟩
  | some a =>
    have H := Aside0.mk hr
    clear hr
    go_enter Try.func28, Try.ntmps28
    go_wp2_with (at_builtin; refine Kd.R_append_rows kp (Rr := kp.K (w.alloc (.cells #[] 26))) (w0 := w) w.heap.size rfl (.tmp 5) (.tmp 6) 23 26 (.agg #[(.int .u64 0), (.int .i64 0)]) 16 rfl Try.underlying23 info26 rfl (show 0 < kp.sz by show 0 < 2; omega) (by omega) _ [] l0 (some a) l0.length c0 (fun _ => True) (fun _ => False) rfl rfl ?aO ?aR ?aK (fun _ h => h.elim) (fun _ _ => trivial) ?aB ?aS ?aL ?_)
    case aO => exact ⟨fun _ _ => trivial, [], World.ownsRow_made w #[] 0 (Nat.le_refl _) (Nat.zero_le _) (by simp), Reps.none _ _⟩
    case aR => exact (Kd.C_below H.out ((Below.refl _ w).alloc (Nat.le_refl _) _))
    case aK => intro x cs h; rw [kp_open h]; exact kp_mkM _ _ _ _
    case aB => exact (Below.refl _ w).alloc (Nat.le_refl _) _
    case aS => simp
    case aL => simp; omega
    intro v1 w1 hR hB hg _
    have HR := Aside0.mk hR
    clear hR hg
    go_wp2
    go_ret
    exact ⟨v1, rfl, by simpa using HR.out, hB⟩
/-- what key.compare comes to -/
structure Cmp26 (mn : Int) (cv : K → K → Int) : Prop where mk ::
  out : ∀ (W : World) (x y : K), Calls Try.prog 26 #[.int .u64 mn, .agg #[.int .u64 x.1, .int .i64 x.2], .agg #[.int .u64 y.1, .int .i64 y.2]] W fun e w' => e = .returned (.int .i64 (cv x y)) ∧ Below W.heap.size W w'
set_option maxHeartbeats 2000000 in
set_option maxRecDepth 100000 in
theorem cmp_30 {mn : Int} {cv : K → K → Int} (h : Cmp26 mn cv) (B : Nat) : CmpOk cv B mn := fun W x y hB => by
  have H := Aside0.mk h
  have HB0 := Aside0.mk (below_alloc (below_alloc (Below.refl W.heap.size W) (.cells #[.int .u64 x.1, .int .i64 x.2] 26)) (.cells #[.int .u64 y.1, .int .i64 y.2] 26))
  have hlt := World.block_lt_of_cell? W _ hB
  clear h
  go_enter Try.func30, Try.ntmps30
  go_wp2_with (go_at_call 26; (with_reducible refine (H.out.out _ x y).mono ?_); rintro e w3 ⟨rfl, hb⟩; have HB1 := Aside0.mk (below_step HB0.out hb); clear hb)
  go_ret
  exact ⟨rfl, HB1.out⟩
end Go.Proofs.Ytahnkldkbbkflaa.Srt
