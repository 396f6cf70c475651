/- Parts of the proof, joined: Tm10, Tm11. -/
import Derived.Test.YtfapmcpmfeigbaaDoorUD8
import Derived.Test.YtfapmcpmfeigbaaDoorUD10
import Derived.Test.YtfapmcpmfeigbaaDoorUD11
import Derived.Test.YtfapmcpmfeigbaaDoorUD14
section
namespace Go.Proofs.YtfapmcpmfeigbaaDoor.Tm
open Go.RowKit Go Go.Proofs Go.Proofs.YtfapmcpmfeigbaaDoor Go.Proofs.YtfapmcpmfeigbaaDoor.Tr Go.Proofs.YtfapmcpmfeigbaaDoor.Tk Go.Proofs.YtfapmcpmfeigbaaDoorW.PrintWords Go.Proofs.YtfapmcpmfeigbaaDoorW.PrintLast Go.Proofs.YtfapmcpmfeigbaaDoorW.PrintMore
set_option linter.unusedVariables false
set_option linter.unusedSimpArgs false
def keysOf (t : St) (l : List Nat) : List K := l.map fun z => ((gn t z).v, (z : Int))
def jF (t : St) : List K := match ordA t with
 | some a => keysOf t a.ids
 | none => []
def qO (t : St) (mn : Int) : Bool := match ordA t with
 | some a => if a.red = true then false else if (blA a).2 = false then false else qQ (cvf mn) (keysOf t a.ids)
 | none => false
def zaM (t : St) : Int := match ordA t with
 | some a => hgt a
 | none => 0
structure KPost (w : World) (l : List K) (e : Ending) (w' : World) : Prop where mk ::
 out : ∃ v, e = .returned v ∧ kp.R 27 w' w.heap.size (fun _ => True) v l ∧ Below w.heap.size w w'
variable {w : World} {t : St}
theorem walkA_none (h : ordA t = none) : jF t = [] := by unfold jF; rw [h]
theorem kU {a : T} (h : ordA t = some a) : jF t = keysOf t a.ids := by unfold jF; rw [h]
theorem zaA {w : World} {A : Option Addr} {n : Nat} {l : List Nd} (h : kn.C w A n l) (i : Int) (h0 : 0 ≤ i) (h1 : i < n) : ∃ ad, A = some ad ∧ w.cell? (ad.add (i.toNat * 6)) = some (.bool (l.getD i.toNat emp).inn) ∧ w.cell? ⟨(ad.add (i.toNat * 6)).block, (ad.add (i.toNat * 6)).off + 1, none⟩ = some (.bool (l.getD i.toNat emp).red) ∧ w.cell? ⟨(ad.add (i.toNat * 6)).block, (ad.add (i.toNat * 6)).off + 2, none⟩ = some (.int .u64 (l.getD i.toNat emp).v) ∧ w.cell? ⟨(ad.add (i.toNat * 6)).block, (ad.add (i.toNat * 6)).off + 3, none⟩ = some (.int .i64 (l.getD i.toNat emp).l) ∧ w.cell? ⟨(ad.add (i.toNat * 6)).block, (ad.add (i.toNat * 6)).off + 4, none⟩ = some (.int .i64 (l.getD i.toNat emp).r) ∧ w.cell? ⟨(ad.add (i.toNat * 6)).block, (ad.add (i.toNat * 6)).off + 5, none⟩ = some (.int .i64 (l.getD i.toNat emp).u) := by
 obtain ⟨ad, c, e, _, hK, hc0⟩ := Kd.C_get h emp i h0 h1
 have hc : ∀ j u, c[j]? = some u → w.cell? (ad.add (i.toNat * 6 + j)) = some u := hc0
 obtain rfl := kn_open hK
 exact ⟨ad, e, hc 0 _ rfl, by rw [← xY _ _ 1 (by omega)]; exact hc 1 _ rfl, by rw [← xY _ _ 2 (by omega)]; exact hc 2 _ rfl, by rw [← xY _ _ 3 (by omega)]; exact hc 3 _ rfl, by rw [← xY _ _ 4 (by omega)]; exact hc 4 _ rfl, by rw [← xY _ _ 5 (by omega)]; exact hc 5 _ rfl⟩
theorem int_at {w : World} {A : Option Addr} {n : Nat} {l : List Int} (h : (Kd.int .i64).C w A n l) (i : Nat) (h1 : i < n) : ∃ ad, A = some ad ∧ w.cell? (ad.add i) = some (.int .i64 (l.getD i 0)) := by
 obtain ⟨ad, c, e, _, hK, hc⟩ := Kd.C_get h 0 (i : Int) (by omega) (by omega)
 refine ⟨ad, e, ?_⟩
 have hq := hc 0 (.int .i64 (l.getD ((i : Int)).toNat 0)) (by rw [show c = [.int .i64 (l.getD ((i : Int)).toNat 0)] from hK]; rfl)
 rw [Int.toNat_natCast] at hq
 have h1 : (Kd.int .i64).sz = 1 := rfl
 rw [h1, Nat.mul_one, Nat.add_zero] at hq
 exact hq
theorem iz_at (l : List Nat) (i : Nat) (h : i < l.length) : (iz l).getD i 0 = (l[i] : Int) := by
 unfold iz
 rw [List.getD_eq_getElem?_getD, List.getElem?_map, List.getElem?_eq_getElem h]
 rfl
theorem wD (l : List Nat) : (iz l).length = l.length := List.length_map _
theorem keys_take (t : St) (l : List Nat) (k : Nat) (h : k < l.length) : keysOf t (l.take (k + 1)) = keysOf t (l.take k) ++ [((gn t l[k]).v, (l[k] : Int))] := by
 unfold keysOf
 rw [List.take_succ_eq_append_getElem h, List.map_append]
 rfl
set_option maxHeartbeats 8000000 in
set_option maxRecDepth 100000 in
theorem Walk_ (A0 : Option Addr) (c0 : Nat) (hr : kn.C w A0 t.ns.length t.ns) (hl : t.ns.length ≤ 1000000) (hT : Emp w) :
  Calls Tryd.prog 21 #[.agg #[.int .i64 t.rt, .slice A0 t.ns.length c0]] w fun e w' => KPost w (jF t) e w' := by
 have HR := zA.mk hr; have HL := zA.mk hl; have HT := zA.mk hT; clear hr hl hT
 go_enter Tryd.func21, Tryd.ntmps21
 go_upto_region 1 with (fail)
 have HB1 := zA.mk (zH (Below.refl w.heap.size w) (.cells #[.int .i64 t.rt, .slice A0 t.ns.length c0] 24))
 have HX1 := zA.mk (show (w.alloc (.cells #[.int .i64 t.rt, .slice A0 t.ns.length c0] 24)).heap[w.heap.size]? = some (.cells #[.int .i64 t.rt, .slice A0 t.ns.length c0] 24 (0, 0)) from yM w _)
 generalize w.alloc (.cells #[.int .i64 t.rt, .slice A0 t.ns.length c0] 24) = W1 at HB1 HX1 ⊢
 have a0 := (show W1.cell? ⟨w.heap.size, 0, none⟩ = some (.int .i64 t.rt) from (zF HX1.out 0).trans rfl)
 have a1 := (show W1.cell? ⟨w.heap.size, 1, none⟩ = some (.slice A0 t.ns.length c0) from (zF HX1.out 1).trans rfl)
 have HT1 := zA.mk (HT.out.below HB1.out)
 cases hO : ordA t with
 | none =>
  have HO := zA.mk hO; clear hO
  go_wp2_with (first
   | (go_at_call 32; refine (zaE A0 c0 t _ (Kd.zY HR.out HB1.out) HL.out).mono ?_; rintro e wq ⟨A, c, g, b, rfl, hW, hg, hb, hB, hc, hn⟩; have HW2 := zA.mk hW; have HB2 := zA.mk (zT HB1.out hB); have HT2 := zA.mk (HT1.out.below hB); clear hW hg hb hB hc hn)
   | (go_at_call 54; refine (zbC HW2.out HT2.out).mono ?_; rintro e wr ⟨hB, hno, hyes⟩; have HB3 := zA.mk (zT HB2.out hB); obtain rfl := hno HO.out; clear hB hno hyes))
  go_loopw [5, 16] (fun v i wr => v = .slice none 0 0 ∧ i = .int .i64 0 ∧ zA (Below w.heap.size w wr)) (fun v i wr => 0)
  case atStart => exact ⟨rfl, rfl, HB3⟩
  case round =>
   clear HB3
   obtain ⟨rfl, rfl, HB4⟩ := hrel
   go_wp2
   go_ret
   exact ⟨_, rfl, by rw [walkA_none HO.out]; exact Kd.vE _ _ _ _ _, HB4.out⟩
 | some a =>
  have HO := zA.mk hO
  have HKE := zA.mk (kU hO)
  have hwh := (qD.1 hO).2
  have hwn := (qD.1 hO).1
  have HID := zA.mk (show ∀ z ∈ a.ids, z < t.ns.length from fun z hz => hwh.lay.lt z hz)
  have HLI := zA.mk (show a.ids.length ≤ t.ns.length from xO hwh.nd HID.out)
  clear hO hwh
  go_upto_region 3 with (first
   | (go_at_call 32; refine (zaE A0 c0 t _ (Kd.zY HR.out HB1.out) HL.out).mono ?_; rintro e wq ⟨A, c, g, b, rfl, hW, hg, hb, hB, hc, hn⟩; have HW2 := zA.mk hW; have HX2 := zA.mk (zK HX1.out hB); have HB2 := zA.mk (zT HB1.out hB); have HT2 := zA.mk (HT1.out.below hB); clear hW hg hb hB hc hn)
   | (go_at_call 54; refine (zbC HW2.out HT2.out).mono ?_; rintro e w9 ⟨hB, hno, hyes⟩; have HB3 := zA.mk (zT HB2.out hB); obtain ⟨v, rfl, hv⟩ := hyes a HO.out; obtain ⟨A3, c3, hv3, hlc, _⟩ := Kd.qG hv; subst hv3; have HV := zA.mk hv; have HX3 := zA.mk (zK HX2.out hB); clear hB hno hyes hv hlc))
  have HVC := zA.mk (Kd.yN HV.out).2.2
  rw [wD] at HVC ⊢
  have HWL := zA.mk (Below.refl w9.heap.size w9)
  clear HV HW2 HT2 HB2 HX2 HT1 HX1 a0 a1
  go_wp2
  go_loopw [5, 16] (fun v i wr => ∃ k : Nat, k ≤ a.ids.length ∧ i = .int .i64 k ∧ zA (Below w9.heap.size w9 wr) ∧ zA (kp.R 27 wr w9.heap.size (fun _ => True) v (keysOf t (a.ids.take k)))) (fun v i wr => a.ids.length - (intOf i).toNat)
  case atStart => exact ⟨0, Nat.zero_le _, rfl, HWL, ⟨Kd.vE _ _ _ _ _⟩⟩
  case round =>
   clear HWL
   obtain ⟨k, hk, rfl, HB4, HR4⟩ := hrel
   by_cases hlt : k < a.ids.length
   rotate_left
   ·obtain rfl : k = a.ids.length := by omega
    go_wp2
    go_ret
    refine ⟨_, rfl, ?_, HB3.out.trans (HB4.out.mono HB3.out.size)⟩
    rw [HKE.out, ← List.take_length (l := a.ids)]
    exact Kd.qB HR4.out HB3.out.size
   have hn1 : (k : Int) < (a.ids.length : Int) := by omega
   obtain ⟨ad, e1, c1⟩ := int_at (Kd.zY HVC.out HB4.out) k hlt
   subst e1
   rw [iz_at _ _ hlt] at c1
   have HKT := zA.mk (keys_take t a.ids k hlt)
   have HXI := zA.mk (HID.out a.ids[k] (List.getElem_mem hlt))
   generalize a.ids[k] = x at c1 HKT HXI
   have hxn := HXI.out
   have hxi : (x : Int) < (t.ns.length : Int) := by omega
   obtain ⟨ad2, e2, d0, d1, d2, d3, d4, d5⟩ := zaA (Kd.zY HR.out (HB3.out.trans (HB4.out.mono HB3.out.size))) (x : Int) (by omega) hxi
   subst e2
   rw [Int.toNat_natCast] at d2
   have d6 : wr.cell? ⟨(ad2.add (x * 6)).block, (ad2.add (x * 6)).off + 2, none⟩ = some (.int .u64 (gn t x).v) := d2
   have a1 := (show wr.cell? ⟨w.heap.size, 1, none⟩ = some (.slice (some ad2) t.ns.length c0) from (zF (zK HX3.out HB4.out) 1).trans rfl)
   clear d0 d1 d2 d3 d4 d5
   generalize (gn t x).v = vx at d6 HKT
   have HR5 := zA.mk HR4.out
   obtain ⟨A6, c6, hv6, _, _⟩ := Kd.qG HR4.out
   have HLK := zA.mk (show (keysOf t (a.ids.take k)).length = k by unfold keysOf; rw [List.length_map, List.length_take]; omega)
   have HKN := zA.mk (show k < 1000000 by have := HLI.out; have := HL.out; omega)
   subst hv6; have hkn := HKN.out
   have hbd : w9.heap.size ≤ wr.heap.size := HB4.out.size
   go_wp2_with (at_builtin; refine Kd.zaJ kp (w0 := w9) w9.heap.size rfl (.tmp 20) (.tmp 29) 38 27 (.agg #[(.int .u64 0), (.int .i64 0)]) 16 rfl Tryd.underlying38 info26 rfl (show 0 < kp.sz by show 0 < 2; omega) (by omega) _ (keysOf t (a.ids.take k)) (vx, (x : Int)) [.int .u64 vx, .int .i64 (x : Int)] (fun _ => True) (fun _ => False) rfl rfl (kp_mkM _ _ _ _) (fun _ hk => hk.elim) (fun _ _ => trivial) HR5.out HB4.out hbd (by rw [HLK.out]; have := HKN.out; omega) ?_; intro v2 w2 hR2 hB2 hg2 hat2; have HR6 := zA.mk hR2; have HB6 := zA.mk hB2; clear hR2 hB2 hg2 hat2)
   refine ⟨⟨k + 1, by omega, by simp, HB6, ⟨by rw [HKT.out]; exact HR6.out⟩⟩, ?_⟩
   show a.ids.length - ((k : Int) + 1).toNat < a.ids.length - (k : Int).toNat
   omega
end Go.Proofs.YtfapmcpmfeigbaaDoor.Tm
end
section
namespace Go.Proofs.YtfapmcpmfeigbaaDoor.Tm
open Go.RowKit Go Go.Proofs Go.Proofs.YtfapmcpmfeigbaaDoor Go.Proofs.YtfapmcpmfeigbaaDoor.Tr Go.Proofs.YtfapmcpmfeigbaaDoor.Tk Go.Proofs.YtfapmcpmfeigbaaDoorW.PrintWords Go.Proofs.YtfapmcpmfeigbaaDoorW.PrintLast Go.Proofs.YtfapmcpmfeigbaaDoorW.PrintMore
set_option linter.unusedVariables false
set_option linter.unusedSimpArgs false
variable {w : World} {t : St}
theorem heightA_none (h : ordA t = none) : zaM t = 0 := by unfold zaM; rw [h]
theorem heightA_some {a : T} (h : ordA t = some a) : zaM t = hgt a := by unfold zaM; rw [h]
theorem size_le {a : T} (h : ordA t = some a) : a.size ≤ 1000000 := by
 obtain ⟨h1, h2⟩ := qD.1 h
 rw [← wG]
 have := xO h2.nd (fun z hz => h2.lay.lt z hz)
 omega
set_option maxHeartbeats 8000000 in
set_option maxRecDepth 100000 in
theorem Height_ (A0 : Option Addr) (c0 : Nat) (hr : kn.C w A0 t.ns.length t.ns) (hl : t.ns.length ≤ 1000000) (hT : Emp w) :
  Calls Tryd.prog 23 #[.agg #[.int .i64 t.rt, .slice A0 t.ns.length c0]] w fun e w' => e = .returned (.int .i64 (zaM t)) ∧ Below w.heap.size w w' := by
 have HR := zA.mk hr; have HL := zA.mk hl; have HT := zA.mk hT; clear hr hl hT
 go_enter Tryd.func23, Tryd.ntmps23
 go_upto_region 1 with (fail)
 have HB1 := zA.mk (zH (Below.refl w.heap.size w) (.cells #[.int .i64 t.rt, .slice A0 t.ns.length c0] 24))
 have HX1 := zA.mk (show (w.alloc (.cells #[.int .i64 t.rt, .slice A0 t.ns.length c0] 24)).heap[w.heap.size]? = some (.cells #[.int .i64 t.rt, .slice A0 t.ns.length c0] 24 (0, 0)) from yM w _)
 generalize w.alloc (.cells #[.int .i64 t.rt, .slice A0 t.ns.length c0] 24) = W1 at HB1 HX1 ⊢
 have a0 := (show W1.cell? ⟨w.heap.size, 0, none⟩ = some (.int .i64 t.rt) from (zF HX1.out 0).trans rfl)
 have a1 := (show W1.cell? ⟨w.heap.size, 1, none⟩ = some (.slice A0 t.ns.length c0) from (zF HX1.out 1).trans rfl)
 have HT1 := zA.mk (HT.out.below HB1.out)
 cases hO : ordA t with
 | none =>
  have HO := zA.mk hO
  have HE := zA.mk (heightA_none hO)
  clear hO
  go_wp2_with (first
   | (go_at_call 32; refine (zaE A0 c0 t _ (Kd.zY HR.out HB1.out) HL.out).mono ?_; rintro e wq ⟨A, c, g, b, rfl, hW, hg, hb, hB, hc, hn⟩; have HW2 := zA.mk hW; have HB2 := zA.mk (zT HB1.out hB); have HT2 := zA.mk (HT1.out.below hB); clear hW hg hb hB hc hn)
   | (go_at_call 54; refine (zbC HW2.out HT2.out).mono ?_; rintro e w9 ⟨hB, hno, hyes⟩; have HB3 := zA.mk (zT HB2.out hB); obtain rfl := hno HO.out; clear hB hno hyes))
  go_ret
  exact ⟨by rw [HE.out]; rfl, HB3.out⟩
 | some a =>
  have HO := zA.mk hO
  have HSZ := zA.mk (size_le hO)
  have HWH := zA.mk (qD.1 hO).2
  have HE := zA.mk (heightA_some hO)
  clear hO
  go_upto_region 5 with (first
   | (go_at_call 32; refine (zaE A0 c0 t _ (Kd.zY HR.out HB1.out) HL.out).mono ?_; rintro e wq ⟨A, c, g, b, rfl, hW, hg, hb, hB, hc, hn⟩; have HW2 := zA.mk hW; have HB2 := zA.mk (zT HB1.out hB); have HT2 := zA.mk (HT1.out.below hB); clear hW hg hb hB hc hn)
   | (go_at_call 54; refine (zbC HW2.out HT2.out).mono ?_; rintro e w9 ⟨hB, hno, hyes⟩; have HB3 := zA.mk (zT HB2.out hB); obtain ⟨v, rfl, hv⟩ := hyes a HO.out; obtain ⟨A3, c3, hv3, hlc, _⟩ := Kd.qG hv; subst hv3; have HW3 := zA.mk (HW2.out.below hB); clear hB hno hyes hv hlc))
  have c1 := HW3.out.c1
  rw [HWH.out.rt] at c1
  go_wp2_with (go_at_call 61; refine (height_ a _ _ HW3.out HWH.out.lay HSZ.out).mono ?_; rintro e w8 ⟨rfl, m, rfl⟩; have HB4 := zA.mk (zI HB3.out m))
  go_ret
  exact ⟨by rw [HE.out]; rfl, HB4.out⟩
theorem zaK (mn : Int) (h : ordA t = none) : qO t mn = false := by unfold qO; rw [h]
theorem zbP (mn : Int) {a : T} (h : ordA t = some a) : qO t mn = if a.red = true then false else if (blA a).2 = false then false else qQ (cvf mn) (jF t) := by
 rw [kU h]; unfold qO; rw [h]
theorem keys_ids {l : List Nat} (h : ∀ z ∈ l, z < 1000000) : ∀ k ∈ keysOf t l, inI k.2 := fun k hk => by
 obtain ⟨z, hz, rfl⟩ := List.mem_map.1 hk
 have := h z hz
 exact ⟨by show -9223372036854775808 ≤ (z : Int); omega, by show (z : Int) ≤ 9223372036854775807; omega⟩
set_option maxHeartbeats 8000000 in
set_option maxRecDepth 100000 in
theorem Right_ (A0 : Option Addr) (c0 : Nat) (mn : Int) (hr : kn.C w A0 t.ns.length t.ns) (hl : t.ns.length ≤ 1000000) (hT : Emp w) :
  Calls Tryd.prog 18 #[.agg #[.int .i64 t.rt, .slice A0 t.ns.length c0], .int .u64 mn] w fun e w' => e = .returned (.bool (qO t mn)) ∧ Below w.heap.size w w' := by
 have HR := zA.mk hr; have HL := zA.mk hl; have HT := zA.mk hT; clear hr hl hT
 go_enter Tryd.func18, Tryd.ntmps18
 go_upto_region 1 with (fail)
 have HB1 := zA.mk (zH (Below.refl w.heap.size w) (.cells #[.int .i64 t.rt, .slice A0 t.ns.length c0] 24))
 have HX1 := zA.mk (show (w.alloc (.cells #[.int .i64 t.rt, .slice A0 t.ns.length c0] 24)).heap[w.heap.size]? = some (.cells #[.int .i64 t.rt, .slice A0 t.ns.length c0] 24 (0, 0)) from yM w _)
 generalize w.alloc (.cells #[.int .i64 t.rt, .slice A0 t.ns.length c0] 24) = W1 at HB1 HX1 ⊢
 have a0 := (show W1.cell? ⟨w.heap.size, 0, none⟩ = some (.int .i64 t.rt) from (zF HX1.out 0).trans rfl)
 have a1 := (show W1.cell? ⟨w.heap.size, 1, none⟩ = some (.slice A0 t.ns.length c0) from (zF HX1.out 1).trans rfl)
 have HT1 := zA.mk (HT.out.below HB1.out)
 cases hO : ordA t with
 | none =>
  have HO := zA.mk hO
  have HE := zA.mk (zaK mn hO)
  clear hO
  go_wp2_with (first
   | (go_at_call 32; refine (zaE A0 c0 t _ (Kd.zY HR.out HB1.out) HL.out).mono ?_; rintro e wq ⟨A, c, g, b, rfl, hW, hg, hb, hB, hc, hn⟩; have HW2 := zA.mk hW; have HB2 := zA.mk (zT HB1.out hB); have HT2 := zA.mk (HT1.out.below hB); clear hW hg hb hB hc hn)
   | (go_at_call 54; refine (zbC HW2.out HT2.out).mono ?_; rintro e w9 ⟨hB, hno, hyes⟩; have HB3 := zA.mk (zT HB2.out hB); obtain rfl := hno HO.out; clear hB hno hyes))
  go_quiet (fail)
  go_wp2
  go_ret
  exact ⟨by rw [HE.out]; rfl, zI HB3.out _⟩
 | some a =>
  have HO := zA.mk hO
  have HSZ := zA.mk (size_le hO)
  have HWH := zA.mk (qD.1 hO).2
  have HKI := zA.mk (show ∀ k ∈ jF t, inI k.2 by rw [kU hO]; exact keys_ids (fun z hz => by have := HWH.out.lay.lt z hz; have := HL.out; omega))
  have HKL := zA.mk (show (jF t).length ≤ 1000000 by rw [kU hO]; unfold keysOf; rw [List.length_map]; have := xO HWH.out.nd (fun z hz => HWH.out.lay.lt z hz); have := HL.out; omega)
  have HE := zA.mk (zbP mn hO)
  clear hO
  go_upto_region 3 with (first
   | (go_at_call 32; refine (zaE A0 c0 t _ (Kd.zY HR.out HB1.out) HL.out).mono ?_; rintro e wq ⟨A, c, g, b, rfl, hW, hg, hb, hB, hc, hn⟩; have HW2 := zA.mk hW; have HX2 := zA.mk (zK HX1.out hB); have HB2 := zA.mk (zT HB1.out hB); have HT2 := zA.mk (HT1.out.below hB); clear hW hg hb hB hc hn)
   | (go_at_call 54; refine (zbC HW2.out HT2.out).mono ?_; rintro e w9 ⟨hB, hno, hyes⟩; have HB3 := zA.mk (zT HB2.out hB); obtain ⟨v, rfl, hv⟩ := hyes a HO.out; obtain ⟨A3, c3, hv3, hlc, _⟩ := Kd.qG hv; subst hv3; have HW3 := zA.mk (HW2.out.below hB); have HX3 := zA.mk (zK HX2.out hB); have HT3 := zA.mk (HT2.out.below hB); clear hB hno hyes hv hlc))
  have c1 := HW3.out.c1
  rw [HWH.out.rt] at c1
  have HRL := zA.mk (show a.rt < (t.ns.length : Int) from wO HWH.out.lay.loose)
  have HRE := zA.mk (jY HWH.out.lay)
  cases hr : a.red with
  | true =>
   rw [hr] at HRE HE
   have HE2 := zA.mk (HE.out.trans (if_pos rfl))
   clear hr HE
   go_quiet ((go_at_call 46; exact Calls.quiet_of_same (yS (by first | exact HW3.out | exact HW3.out.drewN _) a.rt HRL.out true HRE.out)))
   go_wp2
   go_ret
   exact ⟨by rw [HE2.out]; rfl, zI HB3.out _⟩
  | false =>
   rw [hr] at HRE HE
   have HE2 := zA.mk (HE.out.trans (if_neg (by simp)))
   clear hr HE
   go_quiet ((go_at_call 46; exact Calls.quiet_of_same (yS (by first | exact HW3.out | exact HW3.out.drewN _) a.rt HRL.out false HRE.out)))
   have HB4 := zA.mk (zI HB3.out nq)
   have HW4 := zA.mk (HW3.out.drewN nq)
   have HX4 := zA.mk (zC HX3.out nq)
   have HT4 := zA.mk (HT3.out.drewN nq)
   clear c1
   generalize w9.drewN nq = w4 at HB4 HW4 HX4 HT4 ⊢
   have c1 := HW4.out.c1
   rw [HWH.out.rt] at c1
   go_upto_region 6 with (go_at_call 55; refine (blacks_ a _ _ HW4.out HWH.out.lay HSZ.out).mono ?_; rintro e w8 ⟨rfl, m, rfl⟩; have HB5 := zA.mk (zI HB4.out m); have HX5 := zA.mk (zC HX4.out m); have HT5 := zA.mk (HT4.out.drewN m))
   generalize w4.drewN m = w5 at HB5 HX5 HT5 ⊢
   cases hb : (blA a).2 with
   | false =>
    rw [hb] at HE2
    have HE3 := zA.mk (HE2.out.trans (if_pos rfl))
    clear hb HE2
    go_wp2
    go_ret
    exact ⟨by rw [HE3.out]; rfl, HB5.out⟩
   | true =>
    rw [hb] at HE2
    have HE3 := zA.mk (HE2.out.trans (if_neg (by simp)))
    clear hb HE2
    have b0 := (show w5.cell? ⟨w.heap.size, 0, none⟩ = some (.int .i64 t.rt) from (zF HX5.out 0).trans rfl)
    have b1 := (show w5.cell? ⟨w.heap.size, 1, none⟩ = some (.slice A0 t.ns.length c0) from (zF HX5.out 1).trans rfl)
    go_wp2_with (first
     | (go_at_call 21; refine (Walk_ A0 c0 (Kd.zY HR.out HB5.out) HL.out HT5.out).mono ?_; rintro e w6 ⟨v, rfl, hR6, hB6⟩; obtain ⟨A6, c6, hv6, hlc6, hC6⟩ := Kd.qG hR6; subst hv6; have HC6 := zA.mk hC6; have HB6 := zA.mk (zT HB5.out hB6); clear hR6 hB6 hC6 hlc6)
     | (go_at_call 56; refine (keySorted (cmp26 mn) A6 c6 (jF t) _ HC6.out HKL.out HKI.out).mono ?_; rintro e w7 ⟨rfl, hB7⟩; have HB7 := zA.mk (zT HB6.out hB7); clear hB7))
    go_ret
    exact ⟨by rw [HE3.out]; rfl, HB7.out⟩
end Go.Proofs.YtfapmcpmfeigbaaDoor.Tm
end
