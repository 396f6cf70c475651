/- Parts of the proof, joined: Tm10, Tm11. -/
import Derived.Test.YtnkhnnojdlgfjaaDoorUF8
import Derived.Test.YtnkhnnojdlgfjaaDoorUF10
import Derived.Test.YtnkhnnojdlgfjaaDoorUF11
import Derived.Test.YtnkhnnojdlgfjaaDoorUF14
section
namespace Go.Proofs.YtnkhnnojdlgfjaaDoor.Tm
open Go.RowKit Go Go.Proofs Go.Proofs.YtnkhnnojdlgfjaaDoor Go.Proofs.YtnkhnnojdlgfjaaDoor.Tr Go.Proofs.YtnkhnnojdlgfjaaDoor.Tk Go.Proofs.YtnkhnnojdlgfjaaDoorW.PrintWords Go.Proofs.YtnkhnnojdlgfjaaDoorW.PrintLast Go.Proofs.YtnkhnnojdlgfjaaDoorW.PrintMore
set_option linter.unusedVariables false
set_option linter.unusedSimpArgs false
def keysOf (t : St) (l : List Nat) : List K := l.map fun z => ((gn t z).v, (z : Int))
def walkA (t : St) : List K := match ordA t with
  | some a => keysOf t a.ids
  | none => []
def rightA (t : St) (mn : Int) : Bool := match ordA t with
  | some a => if a.red = true then false else if (blA a).2 = false then false else sortedK (cvf mn) (keysOf t a.ids)
  | none => false
structure KPost (w : World) (l : List K) (e : Ending) (w' : World) : Prop where mk ::
  out : ∃ v, e = .returned v ∧ kp.R 47 w' w.heap.size (fun _ => True) v l ∧ Below w.heap.size w w'
variable {w : World} {t : St}
theorem walkA_none (h : ordA t = none) : walkA t = [] := by unfold walkA; rw [h]
theorem walkA_some {a : T} (h : ordA t = some a) : walkA t = keysOf t a.ids := by unfold walkA; rw [h]
theorem kn_at {w : World} {A : Option Addr} {n : Nat} {l : List Nd} (h : kn.C w A n l) (i : Int) (h0 : 0 ≤ i) (h1 : i < n) : ∃ ad, A = some ad ∧ w.cell? (ad.add (i.toNat * 6)) = some (.bool (l.getD i.toNat emp).inn) ∧ w.cell? ⟨(ad.add (i.toNat * 6)).block, (ad.add (i.toNat * 6)).off + 1, none⟩ = some (.bool (l.getD i.toNat emp).red) ∧ w.cell? ⟨(ad.add (i.toNat * 6)).block, (ad.add (i.toNat * 6)).off + 2, none⟩ = some (.int .u64 (l.getD i.toNat emp).v) ∧ w.cell? ⟨(ad.add (i.toNat * 6)).block, (ad.add (i.toNat * 6)).off + 3, none⟩ = some (.int .i64 (l.getD i.toNat emp).l) ∧ w.cell? ⟨(ad.add (i.toNat * 6)).block, (ad.add (i.toNat * 6)).off + 4, none⟩ = some (.int .i64 (l.getD i.toNat emp).r) ∧ w.cell? ⟨(ad.add (i.toNat * 6)).block, (ad.add (i.toNat * 6)).off + 5, none⟩ = some (.int .i64 (l.getD i.toNat emp).u) := by
  obtain ⟨ad, c, e, _, hK, hc0⟩ := Kd.C_get h emp i h0 h1
  have hc : ∀ j u, c[j]? = some u → w.cell? (ad.add (i.toNat * 6 + j)) = some u := hc0
  obtain rfl := kn_open hK
  exact ⟨ad, e, hc 0 _ rfl, by rw [← add_field _ _ 1 (by omega)]; exact hc 1 _ rfl, by rw [← add_field _ _ 2 (by omega)]; exact hc 2 _ rfl, by rw [← add_field _ _ 3 (by omega)]; exact hc 3 _ rfl, by rw [← add_field _ _ 4 (by omega)]; exact hc 4 _ rfl, by rw [← add_field _ _ 5 (by omega)]; exact hc 5 _ rfl⟩
theorem int_at {w : World} {A : Option Addr} {n : Nat} {l : List Int} (h : (Kd.int .i64).C w A n l) (i : Nat) (h1 : i < n) : ∃ ad, A = some ad ∧ w.cell? (ad.add i) = some (.int .i64 (l.getD i 0)) := by
  obtain ⟨ad, c, e, _, hK, hc⟩ := Kd.C_get h 0 (i : Int) (by omega) (by omega)
  refine ⟨ad, e, ?_⟩
  have hq := hc 0 (.int .i64 (l.getD ((i : Int)).toNat 0)) (by rw [show c = [.int .i64 (l.getD ((i : Int)).toNat 0)] from hK]; rfl)
  rw [Int.toNat_natCast] at hq
  have h1 : (Kd.int .i64).sz = 1 := rfl
  rw [h1, Nat.mul_one, Nat.add_zero] at hq
  exact hq
theorem iz_at (l : List Nat) (i : Nat) (h : i < l.length) : (iz l).getD i 0 = (l[i] : Int) := by
  unfold iz
  rw [List.getD_eq_getElem?_getD, List.getElem?_map, List.getElem?_eq_getElem h]
  rfl
theorem iz_len (l : List Nat) : (iz l).length = l.length := List.length_map _
theorem keys_take (t : St) (l : List Nat) (k : Nat) (h : k < l.length) : keysOf t (l.take (k + 1)) = keysOf t (l.take k) ++ [((gn t l[k]).v, (l[k] : Int))] := by
  unfold keysOf
  rw [List.take_succ_eq_append_getElem h, List.map_append]
  rfl
set_option maxHeartbeats 8000000 in
set_option maxRecDepth 100000 in
theorem Walk_ (A0 : Option Addr) (c0 : Nat) (hr : kn.C w A0 t.ns.length t.ns) (hl : t.ns.length ≤ 1000000) (hT : Emp w) :
    Calls Tryd.prog 58 #[.agg #[.int .i64 t.rt, .slice A0 t.ns.length c0]] w fun e w' => KPost w (walkA t) e w' := by
  have HR := Aside0.mk hr
  have HL := Aside0.mk hl
  have HT := Aside0.mk hT
  clear hr hl hT
  go_enter Tryd.func58, Tryd.ntmps58
  go_upto_region 1 with (fail)
  have HB1 := Aside0.mk (below_alloc (Below.refl w.heap.size w) (.cells #[.int .i64 t.rt, .slice A0 t.ns.length c0] 25))
  have HX1 := Aside0.mk (show (w.alloc (.cells #[.int .i64 t.rt, .slice A0 t.ns.length c0] 25)).heap[w.heap.size]? = some (.cells #[.int .i64 t.rt, .slice A0 t.ns.length c0] 25 (0, 0)) from blk_new w _)
  generalize w.alloc (.cells #[.int .i64 t.rt, .slice A0 t.ns.length c0] 25) = W1 at HB1 HX1 ⊢
  have a0 := (show W1.cell? ⟨w.heap.size, 0, none⟩ = some (.int .i64 t.rt) from (blk_cell HX1.out 0).trans rfl)
  have a1 := (show W1.cell? ⟨w.heap.size, 1, none⟩ = some (.slice A0 t.ns.length c0) from (blk_cell HX1.out 1).trans rfl)
  have HT1 := Aside0.mk (HT.out.below HB1.out)
  cases hO : ordA t with
  | none =>
    have HO := Aside0.mk hO
    clear hO
    go_wp2_with (first
      | (go_at_call 52; refine (begin_ A0 c0 t _ (Kd.C_below HR.out HB1.out) HL.out).mono ?_; rintro e wq ⟨A, c, g, b, rfl, hW, hg, hb, hB, hc, hn⟩; have HW2 := Aside0.mk hW; have HB2 := Aside0.mk (below_step HB1.out hB); have HT2 := Aside0.mk (HT1.out.below hB); clear hW hg hb hB hc hn)
      | (go_at_call 73; refine (order_ HW2.out HT2.out).mono ?_; rintro e wr ⟨hB, hno, hyes⟩; have HB3 := Aside0.mk (below_step HB2.out hB); obtain rfl := hno HO.out; clear hB hno hyes))
    go_loopw [5, 16] (fun v i wr => v = .slice none 0 0 ∧ i = .int .i64 0 ∧ Aside0 (Below w.heap.size w wr)) (fun v i wr => 0)
    case atStart => exact ⟨rfl, rfl, HB3⟩
    case round =>
      clear HB3
      obtain ⟨rfl, rfl, HB4⟩ := hrel
      go_wp2
      go_ret
      exact ⟨_, rfl, by rw [walkA_none HO.out]; exact Kd.R_nil _ _ _ _ _, HB4.out⟩
  | some a =>
    have HO := Aside0.mk hO
    have HKE := Aside0.mk (walkA_some hO)
    have hwh := (ordA_iff.1 hO).2
    have hwn := (ordA_iff.1 hO).1
    have HID := Aside0.mk (show ∀ z ∈ a.ids, z < t.ns.length from fun z hz => hwh.lay.lt z hz)
    have HLI := Aside0.mk (show a.ids.length ≤ t.ns.length from nodup_len hwh.nd HID.out)
    clear hO hwh
    go_upto_region 3 with (first
      | (go_at_call 52; refine (begin_ A0 c0 t _ (Kd.C_below HR.out HB1.out) HL.out).mono ?_; rintro e wq ⟨A, c, g, b, rfl, hW, hg, hb, hB, hc, hn⟩; have HW2 := Aside0.mk hW; have HX2 := Aside0.mk (blk_below HX1.out hB); have HB2 := Aside0.mk (below_step HB1.out hB); have HT2 := Aside0.mk (HT1.out.below hB); clear hW hg hb hB hc hn)
      | (go_at_call 73; refine (order_ HW2.out HT2.out).mono ?_; rintro e w9 ⟨hB, hno, hyes⟩; have HB3 := Aside0.mk (below_step HB2.out hB); obtain ⟨v, rfl, hv⟩ := hyes a HO.out; obtain ⟨A3, c3, hv3, hlc, _⟩ := Kd.R_reads hv; subst hv3; have HV := Aside0.mk hv; have HX3 := Aside0.mk (blk_below HX2.out hB); clear hB hno hyes hv hlc))
    have HVC := Aside0.mk (Kd.R_reads' HV.out).2.2
    rw [iz_len] at HVC ⊢
    have HWL := Aside0.mk (Below.refl w9.heap.size w9)
    clear HV HW2 HT2 HB2 HX2 HT1 HX1 a0 a1
    go_wp2
    go_loopw [5, 16] (fun v i wr => ∃ k : Nat, k ≤ a.ids.length ∧ i = .int .i64 k ∧ Aside0 (Below w9.heap.size w9 wr) ∧ Aside0 (kp.R 47 wr w9.heap.size (fun _ => True) v (keysOf t (a.ids.take k)))) (fun v i wr => a.ids.length - (intOf i).toNat)
    case atStart => exact ⟨0, Nat.zero_le _, rfl, HWL, ⟨Kd.R_nil _ _ _ _ _⟩⟩
    case round =>
      clear HWL
      obtain ⟨k, hk, rfl, HB4, HR4⟩ := hrel
      by_cases hlt : k < a.ids.length
      · have hn1 : (k : Int) < (a.ids.length : Int) := by omega
        obtain ⟨ad, e1, c1⟩ := int_at (Kd.C_below HVC.out HB4.out) k hlt
        subst e1
        rw [iz_at _ _ hlt] at c1
        have HKT := Aside0.mk (keys_take t a.ids k hlt)
        have HXI := Aside0.mk (HID.out a.ids[k] (List.getElem_mem hlt))
        generalize a.ids[k] = x at c1 HKT HXI
        have hxn := HXI.out
        have hxi : (x : Int) < (t.ns.length : Int) := by omega
        obtain ⟨ad2, e2, d0, d1, d2, d3, d4, d5⟩ := kn_at (Kd.C_below HR.out (HB3.out.trans (HB4.out.mono HB3.out.size))) (x : Int) (by omega) hxi
        subst e2
        rw [Int.toNat_natCast] at d2
        have d6 : wr.cell? ⟨(ad2.add (x * 6)).block, (ad2.add (x * 6)).off + 2, none⟩ = some (.int .u64 (gn t x).v) := d2
        have a1 := (show wr.cell? ⟨w.heap.size, 1, none⟩ = some (.slice (some ad2) t.ns.length c0) from (blk_cell (blk_below HX3.out HB4.out) 1).trans rfl)
        clear d0 d1 d2 d3 d4 d5
        generalize (gn t x).v = vx at d6 HKT
        have HR5 := Aside0.mk HR4.out
        obtain ⟨A6, c6, hv6, _, _⟩ := Kd.R_reads HR4.out
        have HLK := Aside0.mk (show (keysOf t (a.ids.take k)).length = k by unfold keysOf; rw [List.length_map, List.length_take]; omega)
        have HKN := Aside0.mk (show k < 1000000 by have := HLI.out; have := HL.out; omega)
        subst hv6
        have hkn := HKN.out
        have hbd : w9.heap.size ≤ wr.heap.size := HB4.out.size
        go_wp2_with (at_builtin; refine Kd.R_append kp (w0 := w9) w9.heap.size rfl (.tmp 20) (.tmp 29) 44 47 (.agg #[(.int .u64 0), (.int .i64 0)]) 16 rfl Tryd.underlying44 info26 rfl (show 0 < kp.sz by show 0 < 2; omega) (by omega) _ (keysOf t (a.ids.take k)) (vx, (x : Int)) [.int .u64 vx, .int .i64 (x : Int)] (fun _ => True) (fun _ => False) rfl rfl (kp_mkM _ _ _ _) (fun _ hk => hk.elim) (fun _ _ => trivial) HR5.out HB4.out hbd (by rw [HLK.out]; have := HKN.out; omega) ?_; intro v2 w2 hR2 hB2 hg2 hat2; have HR6 := Aside0.mk hR2; have HB6 := Aside0.mk hB2; clear hR2 hB2 hg2 hat2)
        refine ⟨⟨k + 1, by omega, by simp, HB6, ⟨by rw [HKT.out]; exact HR6.out⟩⟩, ?_⟩
        show a.ids.length - ((k : Int) + 1).toNat < a.ids.length - (k : Int).toNat
        omega
      · obtain rfl : k = a.ids.length := by omega
        go_wp2
        go_ret
        refine ⟨_, rfl, ?_, HB3.out.trans (HB4.out.mono HB3.out.size)⟩
        rw [HKE.out, ← List.take_length (l := a.ids)]
        exact Kd.R_lower HR4.out HB3.out.size
end Go.Proofs.YtnkhnnojdlgfjaaDoor.Tm
end
section
namespace Go.Proofs.YtnkhnnojdlgfjaaDoor.Tm
open Go.RowKit Go Go.Proofs Go.Proofs.YtnkhnnojdlgfjaaDoor Go.Proofs.YtnkhnnojdlgfjaaDoor.Tr Go.Proofs.YtnkhnnojdlgfjaaDoor.Tk Go.Proofs.YtnkhnnojdlgfjaaDoorW.PrintWords Go.Proofs.YtnkhnnojdlgfjaaDoorW.PrintLast Go.Proofs.YtnkhnnojdlgfjaaDoorW.PrintMore
set_option linter.unusedVariables false
set_option linter.unusedSimpArgs false
variable {w : World} {t : St}
theorem size_le {a : T} (h : ordA t = some a) : a.size ≤ 1000000 := by
  obtain ⟨h1, h2⟩ := ordA_iff.1 h
  rw [← size_ids]
  have := nodup_len h2.nd (fun z hz => h2.lay.lt z hz)
  omega
theorem rightA_none (mn : Int) (h : ordA t = none) : rightA t mn = false := by unfold rightA; rw [h]
theorem rightA_some (mn : Int) {a : T} (h : ordA t = some a) : rightA t mn = if a.red = true then false else if (blA a).2 = false then false else sortedK (cvf mn) (walkA t) := by
  rw [walkA_some h]; unfold rightA; rw [h]
theorem keys_ids {l : List Nat} (h : ∀ z ∈ l, z < 1000000) : ∀ k ∈ keysOf t l, inI k.2 := fun k hk => by
  obtain ⟨z, hz, rfl⟩ := List.mem_map.1 hk
  have := h z hz
  exact ⟨by show -9223372036854775808 ≤ (z : Int); omega, by show (z : Int) ≤ 9223372036854775807; omega⟩
set_option maxHeartbeats 8000000 in
set_option maxRecDepth 100000 in
theorem Right_ (A0 : Option Addr) (c0 : Nat) (mn : Int) (hr : kn.C w A0 t.ns.length t.ns) (hl : t.ns.length ≤ 1000000) (hT : Emp w) :
    Calls Tryd.prog 47 #[.agg #[.int .i64 t.rt, .slice A0 t.ns.length c0], .int .u64 mn] w fun e w' => e = .returned (.bool (rightA t mn)) ∧ Below w.heap.size w w' := by
  have HR := Aside0.mk hr
  have HL := Aside0.mk hl
  have HT := Aside0.mk hT
  clear hr hl hT
  go_enter Tryd.func47, Tryd.ntmps47
  go_upto_region 1 with (fail)
  have HB1 := Aside0.mk (below_alloc (Below.refl w.heap.size w) (.cells #[.int .i64 t.rt, .slice A0 t.ns.length c0] 25))
  have HX1 := Aside0.mk (show (w.alloc (.cells #[.int .i64 t.rt, .slice A0 t.ns.length c0] 25)).heap[w.heap.size]? = some (.cells #[.int .i64 t.rt, .slice A0 t.ns.length c0] 25 (0, 0)) from blk_new w _)
  generalize w.alloc (.cells #[.int .i64 t.rt, .slice A0 t.ns.length c0] 25) = W1 at HB1 HX1 ⊢
  have a0 := (show W1.cell? ⟨w.heap.size, 0, none⟩ = some (.int .i64 t.rt) from (blk_cell HX1.out 0).trans rfl)
  have a1 := (show W1.cell? ⟨w.heap.size, 1, none⟩ = some (.slice A0 t.ns.length c0) from (blk_cell HX1.out 1).trans rfl)
  have HT1 := Aside0.mk (HT.out.below HB1.out)
  cases hO : ordA t with
  | none =>
    have HO := Aside0.mk hO
    have HE := Aside0.mk (rightA_none mn hO)
    clear hO
    go_wp2_with (first
      | (go_at_call 52; refine (begin_ A0 c0 t _ (Kd.C_below HR.out HB1.out) HL.out).mono ?_; rintro e wq ⟨A, c, g, b, rfl, hW, hg, hb, hB, hc, hn⟩; have HW2 := Aside0.mk hW; have HB2 := Aside0.mk (below_step HB1.out hB); have HT2 := Aside0.mk (HT1.out.below hB); clear hW hg hb hB hc hn)
      | (go_at_call 73; refine (order_ HW2.out HT2.out).mono ?_; rintro e w9 ⟨hB, hno, hyes⟩; have HB3 := Aside0.mk (below_step HB2.out hB); obtain rfl := hno HO.out; clear hB hno hyes))
    go_quiet (fail)
    go_wp2
    go_ret
    exact ⟨by rw [HE.out]; rfl, pw_below_drewN HB3.out _⟩
  | some a =>
    have HO := Aside0.mk hO
    have HSZ := Aside0.mk (size_le hO)
    have HWH := Aside0.mk (ordA_iff.1 hO).2
    have HKI := Aside0.mk (show ∀ k ∈ walkA t, inI k.2 by rw [walkA_some hO]; exact keys_ids (fun z hz => by have := HWH.out.lay.lt z hz; have := HL.out; omega))
    have HKL := Aside0.mk (show (walkA t).length ≤ 1000000 by rw [walkA_some hO]; unfold keysOf; rw [List.length_map]; have := nodup_len HWH.out.nd (fun z hz => HWH.out.lay.lt z hz); have := HL.out; omega)
    have HE := Aside0.mk (rightA_some mn hO)
    clear hO
    go_upto_region 3 with (first
      | (go_at_call 52; refine (begin_ A0 c0 t _ (Kd.C_below HR.out HB1.out) HL.out).mono ?_; rintro e wq ⟨A, c, g, b, rfl, hW, hg, hb, hB, hc, hn⟩; have HW2 := Aside0.mk hW; have HX2 := Aside0.mk (blk_below HX1.out hB); have HB2 := Aside0.mk (below_step HB1.out hB); have HT2 := Aside0.mk (HT1.out.below hB); clear hW hg hb hB hc hn)
      | (go_at_call 73; refine (order_ HW2.out HT2.out).mono ?_; rintro e w9 ⟨hB, hno, hyes⟩; have HB3 := Aside0.mk (below_step HB2.out hB); obtain ⟨v, rfl, hv⟩ := hyes a HO.out; obtain ⟨A3, c3, hv3, hlc, _⟩ := Kd.R_reads hv; subst hv3; have HW3 := Aside0.mk (HW2.out.below hB); have HX3 := Aside0.mk (blk_below HX2.out hB); have HT3 := Aside0.mk (HT2.out.below hB); clear hB hno hyes hv hlc))
    have c1 := HW3.out.c1
    rw [HWH.out.rt] at c1
    have HRL := Aside0.mk (show a.rt < (t.ns.length : Int) from rt_ltI HWH.out.lay.loose)
    have HRE := Aside0.mk (red_lay HWH.out.lay)
    cases hr : a.red with
    | true =>
      rw [hr] at HRE HE
      have HE2 := Aside0.mk (HE.out.trans (if_pos rfl))
      clear hr HE
      go_quiet ((go_at_call 62; exact Calls.quiet_of_same (red_v (by first | exact HW3.out | exact HW3.out.drewN _) a.rt HRL.out true HRE.out)))
      go_wp2
      go_ret
      exact ⟨by rw [HE2.out]; rfl, pw_below_drewN HB3.out _⟩
    | false =>
      rw [hr] at HRE HE
      have HE2 := Aside0.mk (HE.out.trans (if_neg (by simp)))
      clear hr HE
      go_quiet ((go_at_call 62; exact Calls.quiet_of_same (red_v (by first | exact HW3.out | exact HW3.out.drewN _) a.rt HRL.out false HRE.out)))
      have HB4 := Aside0.mk (pw_below_drewN HB3.out nq)
      have HW4 := Aside0.mk (HW3.out.drewN nq)
      have HX4 := Aside0.mk (blk_drewN HX3.out nq)
      have HT4 := Aside0.mk (HT3.out.drewN nq)
      clear c1
      generalize w9.drewN nq = w4 at HB4 HW4 HX4 HT4 ⊢
      have c1 := HW4.out.c1
      rw [HWH.out.rt] at c1
      go_upto_region 6 with (go_at_call 74; refine (blacks_ a _ _ HW4.out HWH.out.lay HSZ.out).mono ?_; rintro e w8 ⟨rfl, m, rfl⟩; have HB5 := Aside0.mk (pw_below_drewN HB4.out m); have HX5 := Aside0.mk (blk_drewN HX4.out m); have HT5 := Aside0.mk (HT4.out.drewN m))
      generalize w4.drewN m = w5 at HB5 HX5 HT5 ⊢
      cases hb : (blA a).2 with
      | false =>
        rw [hb] at HE2
        have HE3 := Aside0.mk (HE2.out.trans (if_pos rfl))
        clear hb HE2
        go_wp2
        go_ret
        exact ⟨by rw [HE3.out]; rfl, HB5.out⟩
      | true =>
        rw [hb] at HE2
        have HE3 := Aside0.mk (HE2.out.trans (if_neg (by simp)))
        clear hb HE2
        have b0 := (show w5.cell? ⟨w.heap.size, 0, none⟩ = some (.int .i64 t.rt) from (blk_cell HX5.out 0).trans rfl)
        have b1 := (show w5.cell? ⟨w.heap.size, 1, none⟩ = some (.slice A0 t.ns.length c0) from (blk_cell HX5.out 1).trans rfl)
        go_wp2_with (first
          | (go_at_call 58; refine (Walk_ A0 c0 (Kd.C_below HR.out HB5.out) HL.out HT5.out).mono ?_; rintro e w6 ⟨v, rfl, hR6, hB6⟩; obtain ⟨A6, c6, hv6, hlc6, hC6⟩ := Kd.R_reads hR6; subst hv6; have HC6 := Aside0.mk hC6; have HB6 := Aside0.mk (below_step HB5.out hB6); clear hR6 hB6 hC6 hlc6)
          | (go_at_call 75; refine (keySorted (cmp26 mn) A6 c6 (walkA t) _ HC6.out HKL.out HKI.out).mono ?_; rintro e w7 ⟨rfl, hB7⟩; have HB7 := Aside0.mk (below_step HB6.out hB7); clear hB7))
        go_ret
        exact ⟨by rw [HE3.out]; rfl, HB7.out⟩
end Go.Proofs.YtnkhnnojdlgfjaaDoor.Tm
end
