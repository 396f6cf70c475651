/- Parts of the proof, joined: Tm13. -/
import Derived.Test.YtnkhnnojdlgfjaaDoorUF16
import Derived.Test.YtnkhnnojdlgfjaaDoorUF17
namespace Go.Proofs.YtnkhnnojdlgfjaaDoor.Tm
open Go.RowKit Go Go.Proofs Go.Proofs.YtnkhnnojdlgfjaaDoor Go.Proofs.YtnkhnnojdlgfjaaDoor.Tr Go.Proofs.YtnkhnnojdlgfjaaDoor.Tk Go.Proofs.YtnkhnnojdlgfjaaDoorW.PrintWords Go.Proofs.YtnkhnnojdlgfjaaDoorW.PrintLast Go.Proofs.YtnkhnnojdlgfjaaDoorW.PrintMore
set_option linter.unusedVariables false
set_option linter.unusedSimpArgs false
theorem fillEnd_len {t t' : St} {p b far : Int} {s : Bool} (h : fillEnd t p s b far = some t') : t'.ns.length = t.ns.length := by
  unfold fillEnd at h
  split at h
  · rw [← Option.some.inj h, turn_len, paint_len, paint_len, paint_len]
  · cases h
theorem fillBlack_len {again : St → Int → Bool → Option St} (ha : ∀ {t t' : St} {p : Int} {s : Bool}, again t p s = some t' → t'.ns.length = t.ns.length) {t t' : St} {p b : Int} {s : Bool} (h : fillBlack again t p s b = some t') : t'.ns.length = t.ns.length := by
  unfold fillBlack at h
  split at h
  · cases h
  · split at h
    · rw [ha h, paint_len]
    · split at h
      · rw [fillEnd_len h, turn_len, paint_len, paint_len]
      · exact fillEnd_len h
theorem fill_len : ∀ (k : Nat) {t t' : St} {p : Int} {s : Bool}, fillA k t p s = some t' → t'.ns.length = t.ns.length
  | 0, t, t', p, s, h => by cases h
  | k + 1, t, t', p, s, h => by
    rw [fillA] at h
    split at h
    · split at h
      · rw [← Option.some.inj h, paint_len]
      · split at h
        · rw [fillBlack_len (fun h => fill_len k h) h, turn_len, paint_len, paint_len]
        · exact fillBlack_len (fun h => fill_len k h) h
    · rw [← Option.some.inj h, paint_len]
variable {w : World} {t : St}
def delF (t : St) (mn : Int) (ki : Int) : Option (St × Int) :=
  if rightA t mn = false then some (⟨[], 0⟩, 4)
  else if ki < 0 ∨ (t.ns.length : Int) ≤ ki then some (⟨[], 0⟩, 1)
  else if (gn t ki.toNat).inn = false then some (⟨[], 0⟩, 8)
  else match delA (t.ns.length + 2) t ki.toNat with
    | none => none
    | some t' => some (t', 0)
structure LRel (t : St) (yy : Int) (vy vl : Value) (k : Nat) : Prop where mk ::
  out : ∃ y : Int, vy = .int .i64 y ∧ vl = .int .i64 (kidA t y false) ∧ 0 ≤ y ∧ y < t.ns.length ∧ leftA k t y = some yy
structure LRl (t : St) (yy : Int) (vy vl : Value) : Prop where mk ::
  out : ∃ k, LRel t yy vy vl k
theorem max_of (a b : Int) : max a b = if a < b then b else a := by
  split <;> omega
set_option maxHeartbeats 32000000 in
set_option maxRecDepth 100000 in
theorem Delete_ (A0 : Option Addr) (c0 : Nat) (mn : Int) (ki : Int) (r : St × Int) (hr : kn.C w A0 t.ns.length t.ns) (hl : t.ns.length ≤ 1000000) (hT : Emp w) (hf : delF t mn ki = some r) :
    Calls Tryd.prog 35 #[.agg #[.int .i64 t.rt, .slice A0 t.ns.length c0], .int .u64 mn, .int .i64 ki] w fun e w' => TPost w r e w' := by
  have HR := Aside0.mk hr
  have HL := Aside0.mk hl
  have HT := Aside0.mk hT
  have HF := Aside0.mk hf
  clear hr hl hT hf
  go_enter Tryd.func35, Tryd.ntmps35
  go_upto_region 1 with (fail)
  have HB1 := Aside0.mk (below_alloc (below_alloc (Below.refl w.heap.size w) (.cells #[.int .i64 t.rt, .slice A0 t.ns.length c0] 25)) (.cells #[.int .i64 0, .slice none 0 0] 25))
  have H1 := blk_new w (.cells #[.int .i64 t.rt, .slice A0 t.ns.length c0] 25)
  have H3 := blk_new (w.alloc (.cells #[.int .i64 t.rt, .slice A0 t.ns.length c0] 25)) (.cells #[.int .i64 0, .slice none 0 0] 25)
  have HX1 := Aside0.mk (blk_below H1 (below_alloc (Below.refl _ _) (.cells #[.int .i64 0, .slice none 0 0] 25)))
  have HZ1 := Aside0.mk H3
  clear H1 H3
  simp only [World.size_alloc] at HZ1
  generalize (w.alloc (.cells #[.int .i64 t.rt, .slice A0 t.ns.length c0] 25)).alloc (.cells #[.int .i64 0, .slice none 0 0] 25) = W1 at HB1 HX1 HZ1 ⊢
  have HT1 := Aside0.mk (HT.out.below HB1.out)
  have a0 := (show W1.cell? ⟨w.heap.size, 0, none⟩ = some (.int .i64 t.rt) from (blk_cell HX1.out 0).trans rfl)
  have a1 := (show W1.cell? ⟨w.heap.size, 1, none⟩ = some (.slice A0 t.ns.length c0) from (blk_cell HX1.out 1).trans rfl)
  have stepBox := fun (w2 : World) (hb : Below W1.heap.size W1 w2) => And.intro (blk_below HX1.out hb) (And.intro (blk_below HZ1.out hb) (And.intro (below_step HB1.out hb) (HT1.out.below hb)))
  have SB := Aside0.mk stepBox
  clear stepBox
  have nilEnd := fun (w2 : World) (hz : w2.heap[w.heap.size + 1]? = some (.cells #[.int .i64 0, .slice none 0 0] 25 (0, 0))) (hb : Below w.heap.size w w2) (n : Int) => (show TPost w (⟨[], 0⟩, n) (.returned (.tuple #[.agg #[.int .i64 0, .slice none 0 0], .int .i64 n])) ((w2.setCell ⟨w.heap.size + 1, 0, none⟩ (.int .i64 0)).setCell ⟨w.heap.size + 1, 1, none⟩ (.slice none 0 0)) from
    TPost.nil (Below.setCell (Below.setCell hb (p := ⟨w.heap.size + 1, 0, none⟩) (by show w.heap.size ≤ w.heap.size + 1; omega) _) (p := ⟨w.heap.size + 1, 1, none⟩) (by show w.heap.size ≤ w.heap.size + 1; omega) _))
  have NE := Aside0.mk nilEnd
  clear nilEnd
  cases hri : rightA t mn with
  | false =>
    have hF := HF.out
    rw [delF, hri, if_pos rfl] at hF
    obtain rfl := Option.some.inj hF
    have HRI := Aside0.mk hri
    clear hF hri HF
    go_upto_region 2 with (go_at_call 47; refine (Right_ A0 c0 mn (Kd.C_below HR.out HB1.out) HL.out HT1.out).mono ?_; rintro e w2 ⟨rfl, hB⟩; have HB2 := Aside0.mk hB; clear hB; rw [HRI.out])
    obtain ⟨x2, z2, b2, t2⟩ := SB.out _ HB2.out
    have HZ2 := Aside0.mk z2
    have HBW := Aside0.mk b2
    have f0 := blk_frozen z2 0
    have f1 := blk_frozen z2 1
    have c3 := (show w2.cell? ⟨w.heap.size + 1, 0, none⟩ = some (.int .i64 0) from (blk_cell z2 0).trans rfl)
    have c4 := (show w2.cell? ⟨w.heap.size + 1, 1, none⟩ = some (.slice none 0 0) from (blk_cell z2 1).trans rfl)
    clear x2 z2 b2 t2
    go_wp2
    refine bodyPost_ret (results_ct (cs := #[.int .i64 0, .slice none 0 0]) rfl _ _ (w.heap.size + 1) 25 (0, 0) _ rfl (set2 HZ2.out rfl _ _) Tryd.underlying25 rfl (by kernel_rfl)) rfl ?_
    exact NE.out _ HZ2.out HBW.out 4
  | true =>
    have HRI := Aside0.mk hri
    have HOK := Aside0.mk (right_ok hri)
    have hF := HF.out
    rw [delF, hri, if_neg (by simp)] at hF
    have HF2 := Aside0.mk hF
    clear hF hri HF
    go_upto_region 3 with (go_at_call 47; refine (Right_ A0 c0 mn (Kd.C_below HR.out HB1.out) HL.out HT1.out).mono ?_; rintro e w2 ⟨rfl, hB⟩; have HB2 := Aside0.mk hB; clear hB; rw [HRI.out])
    obtain ⟨x2, z2, b2, t2⟩ := SB.out _ HB2.out
    have HX2 := Aside0.mk x2
    have HZ2 := Aside0.mk z2
    have HBW := Aside0.mk b2
    have HT2 := Aside0.mk t2
    have f0 := blk_frozen z2 0
    have f1 := blk_frozen z2 1
    have c3 := (show w2.cell? ⟨w.heap.size + 1, 0, none⟩ = some (.int .i64 0) from (blk_cell z2 0).trans rfl)
    have c4 := (show w2.cell? ⟨w.heap.size + 1, 1, none⟩ = some (.slice none 0 0) from (blk_cell z2 1).trans rfl)
    have a2 := (show w2.cell? ⟨w.heap.size, 0, none⟩ = some (.int .i64 t.rt) from (blk_cell x2 0).trans rfl)
    have a3 := (show w2.cell? ⟨w.heap.size, 1, none⟩ = some (.slice A0 t.ns.length c0) from (blk_cell x2 1).trans rfl)
    clear x2 z2 b2 t2 a0 a1
    by_cases hbad : ki < 0 ∨ (t.ns.length : Int) ≤ ki
    · have hF := HF2.out
      rw [if_pos hbad] at hF
      obtain rfl := Option.some.inj hF
      clear hF HF2
      by_cases b1 : ki < 0
      · clear hbad
        go_wp2
        refine bodyPost_ret (results_ct (cs := #[.int .i64 0, .slice none 0 0]) rfl _ _ (w.heap.size + 1) 25 (0, 0) _ rfl (set2 HZ2.out rfl _ _) Tryd.underlying25 rfl (by kernel_rfl)) rfl ?_
        exact NE.out _ HZ2.out HBW.out 1
      have b2 := hbad.resolve_left b1
      clear hbad
      have b11 : decide (ki < 0) = false := decide_eq_false b1
      go_wp2
      refine bodyPost_ret (results_ct (cs := #[.int .i64 0, .slice none 0 0]) rfl _ _ (w.heap.size + 1) 25 (0, 0) _ rfl (set2 HZ2.out rfl _ _) Tryd.underlying25 rfl (by kernel_rfl)) rfl ?_
      exact NE.out _ HZ2.out HBW.out 1
    have hF := HF2.out
    rw [if_neg hbad] at hF
    simp only [not_or] at hbad
    obtain ⟨b1, b2⟩ := hbad
    clear HF2
    obtain ⟨id, rfl⟩ : ∃ id : Nat, ki = (id : Int) := ⟨ki.toNat, by omega⟩
    rw [Int.toNat_natCast] at hF
    have HIL := Aside0.mk (show id < t.ns.length by omega)
    have b11 : decide ((id : Int) < 0) = false := decide_eq_false b1
    have b12 : decide ((t.ns.length : Int) ≤ (id : Int)) = false := decide_eq_false b2
    have g1 : 0 ≤ (id : Int) := by omega
    have g2 : (id : Int) < (t.ns.length : Int) := by omega
    have HCW := Aside0.mk (Kd.C_below HR.out HBW.out)
    obtain ⟨ad, e1, d0, _⟩ := kn_at HCW.out (id : Int) g1 g2
    subst e1
    rw [Int.toNat_natCast] at d0
    replace d0 := (show w2.cell? (ad.add (id * 6)) = some (.bool (gn t id).inn) from d0)
    cases hin : (gn t id).inn with
    | false =>
      rw [hin, if_pos rfl] at hF
      obtain rfl := Option.some.inj hF
      rw [hin] at d0
      clear hF hin b1 b2
      go_wp2
      refine bodyPost_ret (results_ct (cs := #[.int .i64 0, .slice none 0 0]) rfl _ _ (w.heap.size + 1) 25 (0, 0) _ rfl (set2 HZ2.out rfl _ _) Tryd.underlying25 rfl (by kernel_rfl)) rfl ?_
      exact NE.out _ HZ2.out HBW.out 8
    | true =>
    rw [hin, if_neg (by simp)] at hF
    rw [hin] at d0
    obtain ⟨t', hdel, hr'⟩ : ∃ t', delA (t.ns.length + 2) t id = some t' ∧ r = (t', 0) := by
      cases hd : delA (t.ns.length + 2) t id with
      | none => rw [hd] at hF; cases hF
      | some t' => rw [hd] at hF; exact ⟨t', rfl, (Option.some.inj hF).symm⟩
    have HDE := Aside0.mk hdel
    have HRR := Aside0.mk hr'
    have HLT2 := Aside0.mk (show w.heap.size + 1 < w2.heap.size from (Array.getElem?_eq_some_iff.1 HZ2.out).1)
    clear hF hdel hr' hin b1 b2
    go_upto_region 8 with (go_at_call 52; refine (begin_ (some ad) c0 t _ HCW.out HL.out).mono ?_; rintro e wq ⟨A, c, g, b, rfl, hW, hg, hb, hB, hc, hn⟩; have HW3 := Aside0.mk hW; have HX3 := Aside0.mk (blk_below HX2.out hB); have HZ3 := Aside0.mk (blk_below HZ2.out hB); have HBW3 := Aside0.mk (below_step HBW.out hB); have HC3 := Aside0.mk (Kd.C_below HCW.out hB); have HNB := Aside0.mk (show w.heap.size + 1 < g ∧ w.heap.size + 1 < b by have := HLT2.out; omega); clear hW hg hb hB hc hn)
    have a2 := (show wq.cell? ⟨w.heap.size, 0, none⟩ = some (.int .i64 t.rt) from (blk_cell HX3.out 0).trans rfl)
    have a3 := (show wq.cell? ⟨w.heap.size, 1, none⟩ = some (.slice (some ad) t.ns.length c0) from (blk_cell HX3.out 1).trans rfl)
    obtain ⟨ad2, e1, d0, d1, d2, d3, d4, d5⟩ := kn_at HC3.out (id : Int) g1 g2
    obtain rfl := Option.some.inj e1
    rw [Int.toNat_natCast] at d0 d1 d2 d3 d4 d5
    change _ = some (Value.bool (gn t id).inn) at d0
    change _ = some (Value.bool (gn t id).red) at d1
    change _ = some (Value.int .u64 (gn t id).v) at d2
    change _ = some (Value.int .i64 (gn t id).l) at d3
    change _ = some (Value.int .i64 (gn t id).r) at d4
    change _ = some (Value.int .i64 (gn t id).u) at d5
    have HUPE := Aside0.mk (show upA t (id : Int) = (gn t id).u by unfold upA; rw [Int.toNat_natCast])
    have HNS := Aside0.mk (HOK.out.ns id)
    have hdel := HDE.out
    rw [delA] at hdel
    generalize (gn t id).l = zl at d3 hdel HNS
    generalize (gn t id).r = zr at d4 hdel HNS
    generalize (gn t id).u = zu at d5 hdel HNS HUPE
    generalize (gn t id).red = zred at d1 hdel
    generalize (gn t id).inn = zin at d0
    generalize (gn t id).v = zv at d2
    have HDL := Aside0.mk hdel
    have HUN := Aside0.mk (show zu < (t.ns.length : Int) from HNS.out.2.2)
    clear hdel e1
    go_upto_region 9 with (fail)
    have HWB := Aside0.mk (HW3.out.alloc (.cells #[.bool zin, .bool zred, .int .u64 zv, .int .i64 zl, .int .i64 zr, .int .i64 zu] 74))
    have HZB := Aside0.mk (blk_below HZ3.out (below_alloc (Below.refl _ _) (.cells #[.bool zin, .bool zred, .int .u64 zv, .int .i64 zl, .int .i64 zr, .int .i64 zu] 74)))
    have HBB := Aside0.mk (below_alloc HBW3.out (.cells #[.bool zin, .bool zred, .int .u64 zv, .int .i64 zl, .int .i64 zr, .int .i64 zu] 74))
    have HVB := Aside0.mk (blk_new wq (.cells #[.bool zin, .bool zred, .int .u64 zv, .int .i64 zl, .int .i64 zr, .int .i64 zu] 74))
    have HVN := Aside0.mk (show g < wq.heap.size ∧ b < wq.heap.size from ⟨HW3.out.ltg, HW3.out.ltb (by omega)⟩)
    have HSZ := Aside0.mk (show wq.heap.size < (wq.alloc (.cells #[.bool zin, .bool zred, .int .u64 zv, .int .i64 zl, .int .i64 zr, .int .i64 zu] 74)).heap.size by simp)
    clear d0 d1 d2 d3 d4 d5 a2 a3 c3 c4 f0 f1
    generalize wq.alloc (.cells #[.bool zin, .bool zred, .int .u64 zv, .int .i64 zl, .int .i64 zr, .int .i64 zu] 74) = wA at HWB HZB HBB HVB HSZ ⊢
    generalize wq.heap.size = zb at HVB HVN HSZ ⊢
    have v1 := (show wA.cell? ⟨zb, 1, none⟩ = some (.bool zred) from (blk_cell HVB.out 1).trans rfl)
    have v5 := (show wA.cell? ⟨zb, 5, none⟩ = some (.int .i64 zu) from (blk_cell HVB.out 5).trans rfl)
    go_quiet ((go_at_call 60; exact Calls.quiet_of_same (on_ (by first | exact HWB.out | exact HWB.out.drewN _) (id : Int) (by omega) (by have := HIL.out; omega) (by rw [HUPE.out]; exact HUN.out))))
    have HWB := Aside0.mk (HWB.out.drewN nq)
    have HZB := Aside0.mk (blk_drewN HZB.out nq)
    have HBB := Aside0.mk (pw_below_drewN HBB.out nq)
    have HVB := Aside0.mk (blk_drewN HVB.out nq)
    have HSZ := Aside0.mk (show zb < (wA.drewN nq).heap.size from HSZ.out)
    clear v1 v5
    generalize wA.drewN nq = wB at HWB HZB HBB HVB HSZ ⊢
    have HGN := Aside0.mk (show w.heap.size ≤ g ∧ w.heap.size ≤ b by have := HNB.out; omega)
    have HLZ := Aside0.mk (show w.heap.size + 1 < wB.heap.size from (Array.getElem?_eq_some_iff.1 HZB.out).1)
    have box := fun (ww : World) (hg : Gs g b wB ww) => And.intro True.intro (And.intro ((hg.block _ HLZ.out (by have := HNB.out; omega) (by have := HNB.out; omega)).trans HZB.out) ((hg.block _ HSZ.out (by have := HVN.out; omega) (by have := HVN.out; omega)).trans HVB.out))
    have BOX := Aside0.mk box
    clear box
    have G0 := Aside0.mk (Gs.refl g b wB)
    have v1 := (show wB.cell? ⟨zb, 1, none⟩ = some (.bool zred) from (blk_cell HVB.out 1).trans rfl)
    have v3 := (show wB.cell? ⟨zb, 3, none⟩ = some (.int .i64 zl) from (blk_cell HVB.out 3).trans rfl)
    have v4 := (show wB.cell? ⟨zb, 4, none⟩ = some (.int .i64 zr) from (blk_cell HVB.out 4).trans rfl)
    have v5 := (show wB.cell? ⟨zb, 5, none⟩ = some (.int .i64 zu) from (blk_cell HVB.out 5).trans rfl)
    by_cases hone : zl < 0 ∨ zr < 0
    · have hmd := HDL.out
      rw [if_pos hone] at hmd
      have HMX := Aside0.mk (show max zl zr < (t.ns.length : Int) by have := HNS.out; omega)
      have HMAX := Aside0.mk (max_of zl zr)
      have OX := Aside0.mk (HOK.out.hang zu (onA t (id : Int)) (max zl zr) HUN.out HMX.out)
      have LX := Aside0.mk (hang_len t zu (onA t (id : Int)) (max zl zr))
      have HCALL := Aside0.mk (hang_ HWB.out zu (max zl zr) (onA t (id : Int)) HUN.out HMX.out)
      have HMD0 := Aside0.mk hmd
      clear hmd
      rw [HMAX.out] at HCALL
      by_cases hl0 : zl < 0
      · by_cases hlt : zl < zr
        · rw [if_pos hlt] at HCALL
          clear hone
          go_upto_region 26 with (go_at_call 54; refine HCALL.out.mono ?_; rintro e w4 ⟨rfl, hW, hG⟩; have WX := Aside0.mk hW; have GX := Aside0.mk (G0.out.trans hG); clear hW hG)
          rw [← show max zl zr = zr by rw [HMAX.out, if_pos (by omega)]] at WX
          clear v1 v3 v4 v5 HCALL
          have hmd := HMD0.out
          generalize hangA t zu (onA t (id : Int)) (max zl zr) = T1 at WX OX LX hmd
          have HBX := Aside0.mk (HBB.out.trans (GX.out.toBelow HGN.out.1 HGN.out.2 HBB.out.size))
          have HTX := Aside0.mk (HT.out.below HBX.out)
          have e0 := HTX.out.c0
          have e1 := HTX.out.c1
          have e2 := HTX.out.c2
          have e3 := HTX.out.c3
          have e4 := HTX.out.c4
          have e5 := HTX.out.c5
          have hid := (show id < T1.ns.length by rw [LX.out]; exact HIL.out)
          have hii := (show (id : Int) < (T1.ns.length : Int) by omega)
          have c0 := WX.out.c0
          rw [WX.out.addr (by omega)] at c0
          have n0 := WX.out.at_ id 0 hid (by omega)
          have n1 := WX.out.at_ id 1 hid (by omega)
          have n2 := WX.out.at_ id 2 hid (by omega)
          have n3 := WX.out.at_ id 3 hid (by omega)
          have n4 := WX.out.at_ id 4 hid (by omega)
          have n5 := WX.out.at_ id 5 hid (by omega)
          have m0 := (show _ = some (Value.bool (gn T1 id).inn) from n0)
          have m1 := (show _ = some (Value.bool (gn T1 id).red) from n1)
          have m2 := (show _ = some (Value.int .u64 (gn T1 id).v) from n2)
          have m3 := (show _ = some (Value.int .i64 (gn T1 id).l) from n3)
          have m4 := (show _ = some (Value.int .i64 (gn T1 id).r) from n4)
          have m5 := (show _ = some (Value.int .i64 (gn T1 id).u) from n5)
          rw [Nat.add_zero] at m0
          have q0 := WX.out.frozenN (by omega) (id * 6)
          have q1 := WX.out.frozenN (by omega) (id * 6 + 1)
          have q2 := WX.out.frozenN (by omega) (id * 6 + 2)
          have q3 := WX.out.frozenN (by omega) (id * 6 + 3)
          have q4 := WX.out.frozenN (by omega) (id * 6 + 4)
          have q5 := WX.out.frozenN (by omega) (id * 6 + 5)
          clear n0 n1 n2 n3 n4 n5
          have HW6 := Aside0.mk ((WX.out.setAll id hid emp).drew)
          have HG6 := Aside0.mk ((((((GX.out.setB (id * 6) (.bool emp.inn)).setB (id * 6 + 1) (.bool emp.red)).setB (id * 6 + 2) (.int .u64 emp.v)).setB (id * 6 + 3) (.int .i64 emp.l)).setB (id * 6 + 4) (.int .i64 emp.r)).setB (id * 6 + 5) (.int .i64 emp.u)).drew
          have T6L := Aside0.mk (show (sn T1 id emp).ns.length = t.ns.length by rw [sn_len]; exact LX.out)
          have T6O := Aside0.mk (show Ok (sn T1 id emp) from OX.out.sn _ _ hid (by show (-1 : Int) < _ ∧ (-1 : Int) < _ ∧ (-1 : Int) < _; omega))
          change Aside0 (Wk A c ((((((World.setCell _ ⟨b, id * 6, none⟩ (.bool false)).setCell ⟨b, id * 6 + 1, none⟩ (.bool false)).setCell ⟨b, id * 6 + 2, none⟩ (.int .u64 0)).setCell ⟨b, id * 6 + 3, none⟩ (.int .i64 (-1))).setCell ⟨b, id * 6 + 4, none⟩ (.int .i64 (-1))).setCell ⟨b, id * 6 + 5, none⟩ (.int .i64 (-1))).drew g b _) at HW6
          change Aside0 (Gs g b _ ((((((World.setCell _ ⟨b, id * 6, none⟩ (.bool false)).setCell ⟨b, id * 6 + 1, none⟩ (.bool false)).setCell ⟨b, id * 6 + 2, none⟩ (.int .u64 0)).setCell ⟨b, id * 6 + 3, none⟩ (.int .i64 (-1))).setCell ⟨b, id * 6 + 4, none⟩ (.int .i64 (-1))).setCell ⟨b, id * 6 + 5, none⟩ (.int .i64 (-1))).drew) at HG6
          go_region
          clear m0 m1 m2 m3 m4 m5 q0 q1 q2 q3 q4 q5 e0 e1 e2 e3 e4 e5 c0 hid hii
          generalize World.drew _ = w6 at HW6 HG6 ⊢
          generalize sn T1 id emp = T6 at HW6 T6L T6O hmd
          cases hgs : zred with
          | true =>
            rw [hgs] at hmd
            obtain rfl : t' = T6 := (Option.some.inj (show some T6 = some t' from hmd)).symm
            clear hmd hgs
            have WE := HW6
            have GE := HG6
            have TEL := T6L
            clear HW6 HG6
            have HBE := Aside0.mk (HBB.out.trans (GE.out.toBelow HGN.out.1 HGN.out.2 HBB.out.size))
            have HZE := Aside0.mk ((BOX.out _ GE.out).2.1)
            have TE0 := Aside0.mk (show 0 < t'.ns.length by rw [TEL.out]; have := HIL.out; omega)
            go_wp2_with (go_at_call 56; refine (tree_ WE.out).mono ?_; rintro e w9 ⟨rfl, hB⟩; have HW9 := Aside0.mk (WE.out.below hB); have HB9 := Aside0.mk (below_step HBE.out hB); have HZ9 := Aside0.mk (blk_below HZE.out hB); clear hB; have z9 := HZ9.out; have f0 := blk_frozen z9 0; have f1 := blk_frozen z9 1; have c3 := (show w9.cell? ⟨w.heap.size + 1, 0, none⟩ = some (.int .i64 0) from (blk_cell z9 0).trans rfl); have c4 := (show w9.cell? ⟨w.heap.size + 1, 1, none⟩ = some (.slice none 0 0) from (blk_cell z9 1).trans rfl))
            refine bodyPost_ret (results_ct (cs := #[.int .i64 t'.rt, .slice A t'.ns.length c]) rfl _ _ (w.heap.size + 1) 25 (0, 0) _ rfl (set2 HZ9.out rfl _ _) Tryd.underlying25 rfl (by kernel_rfl)) rfl ?_
            rw [HRR.out]
            have hN := HNB.out
            have hW := HW9.out.moved (w1 := (w9.setCell ⟨w.heap.size + 1, 0, none⟩ (.int .i64 t'.rt)).setCell ⟨w.heap.size + 1, 1, none⟩ (.slice A t'.ns.length c)) (by rw [Below.heap_setCell _ _ _ _ (by show g ≠ w.heap.size + 1; omega), Below.heap_setCell _ _ _ _ (by show g ≠ w.heap.size + 1; omega)]) (by rw [Below.heap_setCell _ _ _ _ (by show b ≠ w.heap.size + 1; omega), Below.heap_setCell _ _ _ _ (by show b ≠ w.heap.size + 1; omega)])
            exact ⟨_, rfl, hW.toR TE0.out HGN.out.2, Below.setCell (Below.setCell HB9.out (p := ⟨w.heap.size + 1, 0, none⟩) (by show w.heap.size ≤ w.heap.size + 1; omega) _) (p := ⟨w.heap.size + 1, 1, none⟩) (by show w.heap.size ≤ w.heap.size + 1; omega) _⟩
          | false =>
            rw [hgs] at hmd
            have HMD := Aside0.mk (show fillA (t.ns.length + 2) T6 zu (onA t (id : Int)) = some t' from hmd)
            clear hmd hgs
            have TEL := Aside0.mk ((fill_len _ HMD.out).trans T6L.out)
            go_upto_region 29 with (go_at_call 66; refine (fill_ HW6.out T6O.out (by rw [T6L.out]; have := HIL.out; omega) zu (onA t (id : Int)) (by rw [T6L.out]; exact HUN.out) _ t' HMD.out).mono ?_; rintro e w8 ⟨rfl, hW, hG⟩; have WE := Aside0.mk hW; have GE := Aside0.mk (HG6.out.trans hG); clear hW hG)
            have HBE := Aside0.mk (HBB.out.trans (GE.out.toBelow HGN.out.1 HGN.out.2 HBB.out.size))
            have HZE := Aside0.mk ((BOX.out _ GE.out).2.1)
            have TE0 := Aside0.mk (show 0 < t'.ns.length by rw [TEL.out]; have := HIL.out; omega)
            go_wp2_with (go_at_call 56; refine (tree_ WE.out).mono ?_; rintro e w9 ⟨rfl, hB⟩; have HW9 := Aside0.mk (WE.out.below hB); have HB9 := Aside0.mk (below_step HBE.out hB); have HZ9 := Aside0.mk (blk_below HZE.out hB); clear hB; have z9 := HZ9.out; have f0 := blk_frozen z9 0; have f1 := blk_frozen z9 1; have c3 := (show w9.cell? ⟨w.heap.size + 1, 0, none⟩ = some (.int .i64 0) from (blk_cell z9 0).trans rfl); have c4 := (show w9.cell? ⟨w.heap.size + 1, 1, none⟩ = some (.slice none 0 0) from (blk_cell z9 1).trans rfl))
            refine bodyPost_ret (results_ct (cs := #[.int .i64 t'.rt, .slice A t'.ns.length c]) rfl _ _ (w.heap.size + 1) 25 (0, 0) _ rfl (set2 HZ9.out rfl _ _) Tryd.underlying25 rfl (by kernel_rfl)) rfl ?_
            rw [HRR.out]
            have hN := HNB.out
            have hW := HW9.out.moved (w1 := (w9.setCell ⟨w.heap.size + 1, 0, none⟩ (.int .i64 t'.rt)).setCell ⟨w.heap.size + 1, 1, none⟩ (.slice A t'.ns.length c)) (by rw [Below.heap_setCell _ _ _ _ (by show g ≠ w.heap.size + 1; omega), Below.heap_setCell _ _ _ _ (by show g ≠ w.heap.size + 1; omega)]) (by rw [Below.heap_setCell _ _ _ _ (by show b ≠ w.heap.size + 1; omega), Below.heap_setCell _ _ _ _ (by show b ≠ w.heap.size + 1; omega)])
            exact ⟨_, rfl, hW.toR TE0.out HGN.out.2, Below.setCell (Below.setCell HB9.out (p := ⟨w.heap.size + 1, 0, none⟩) (by show w.heap.size ≤ w.heap.size + 1; omega) _) (p := ⟨w.heap.size + 1, 1, none⟩) (by show w.heap.size ≤ w.heap.size + 1; omega) _⟩
        · rw [if_neg hlt] at HCALL
          clear hone
          go_upto_region 26 with (go_at_call 54; refine HCALL.out.mono ?_; rintro e w4 ⟨rfl, hW, hG⟩; have WX := Aside0.mk hW; have GX := Aside0.mk (G0.out.trans hG); clear hW hG)
          rw [← show max zl zr = zl by rw [HMAX.out, if_neg (by omega)]] at WX
          clear v1 v3 v4 v5 HCALL
          have hmd := HMD0.out
          generalize hangA t zu (onA t (id : Int)) (max zl zr) = T1 at WX OX LX hmd
          have HBX := Aside0.mk (HBB.out.trans (GX.out.toBelow HGN.out.1 HGN.out.2 HBB.out.size))
          have HTX := Aside0.mk (HT.out.below HBX.out)
          have e0 := HTX.out.c0
          have e1 := HTX.out.c1
          have e2 := HTX.out.c2
          have e3 := HTX.out.c3
          have e4 := HTX.out.c4
          have e5 := HTX.out.c5
          have hid := (show id < T1.ns.length by rw [LX.out]; exact HIL.out)
          have hii := (show (id : Int) < (T1.ns.length : Int) by omega)
          have c0 := WX.out.c0
          rw [WX.out.addr (by omega)] at c0
          have n0 := WX.out.at_ id 0 hid (by omega)
          have n1 := WX.out.at_ id 1 hid (by omega)
          have n2 := WX.out.at_ id 2 hid (by omega)
          have n3 := WX.out.at_ id 3 hid (by omega)
          have n4 := WX.out.at_ id 4 hid (by omega)
          have n5 := WX.out.at_ id 5 hid (by omega)
          have m0 := (show _ = some (Value.bool (gn T1 id).inn) from n0)
          have m1 := (show _ = some (Value.bool (gn T1 id).red) from n1)
          have m2 := (show _ = some (Value.int .u64 (gn T1 id).v) from n2)
          have m3 := (show _ = some (Value.int .i64 (gn T1 id).l) from n3)
          have m4 := (show _ = some (Value.int .i64 (gn T1 id).r) from n4)
          have m5 := (show _ = some (Value.int .i64 (gn T1 id).u) from n5)
          rw [Nat.add_zero] at m0
          have q0 := WX.out.frozenN (by omega) (id * 6)
          have q1 := WX.out.frozenN (by omega) (id * 6 + 1)
          have q2 := WX.out.frozenN (by omega) (id * 6 + 2)
          have q3 := WX.out.frozenN (by omega) (id * 6 + 3)
          have q4 := WX.out.frozenN (by omega) (id * 6 + 4)
          have q5 := WX.out.frozenN (by omega) (id * 6 + 5)
          clear n0 n1 n2 n3 n4 n5
          have HW6 := Aside0.mk ((WX.out.setAll id hid emp).drew)
          have HG6 := Aside0.mk ((((((GX.out.setB (id * 6) (.bool emp.inn)).setB (id * 6 + 1) (.bool emp.red)).setB (id * 6 + 2) (.int .u64 emp.v)).setB (id * 6 + 3) (.int .i64 emp.l)).setB (id * 6 + 4) (.int .i64 emp.r)).setB (id * 6 + 5) (.int .i64 emp.u)).drew
          have T6L := Aside0.mk (show (sn T1 id emp).ns.length = t.ns.length by rw [sn_len]; exact LX.out)
          have T6O := Aside0.mk (show Ok (sn T1 id emp) from OX.out.sn _ _ hid (by show (-1 : Int) < _ ∧ (-1 : Int) < _ ∧ (-1 : Int) < _; omega))
          change Aside0 (Wk A c ((((((World.setCell _ ⟨b, id * 6, none⟩ (.bool false)).setCell ⟨b, id * 6 + 1, none⟩ (.bool false)).setCell ⟨b, id * 6 + 2, none⟩ (.int .u64 0)).setCell ⟨b, id * 6 + 3, none⟩ (.int .i64 (-1))).setCell ⟨b, id * 6 + 4, none⟩ (.int .i64 (-1))).setCell ⟨b, id * 6 + 5, none⟩ (.int .i64 (-1))).drew g b _) at HW6
          change Aside0 (Gs g b _ ((((((World.setCell _ ⟨b, id * 6, none⟩ (.bool false)).setCell ⟨b, id * 6 + 1, none⟩ (.bool false)).setCell ⟨b, id * 6 + 2, none⟩ (.int .u64 0)).setCell ⟨b, id * 6 + 3, none⟩ (.int .i64 (-1))).setCell ⟨b, id * 6 + 4, none⟩ (.int .i64 (-1))).setCell ⟨b, id * 6 + 5, none⟩ (.int .i64 (-1))).drew) at HG6
          go_region
          clear m0 m1 m2 m3 m4 m5 q0 q1 q2 q3 q4 q5 e0 e1 e2 e3 e4 e5 c0 hid hii
          generalize World.drew _ = w6 at HW6 HG6 ⊢
          generalize sn T1 id emp = T6 at HW6 T6L T6O hmd
          cases hgs : zred with
          | true =>
            rw [hgs] at hmd
            obtain rfl : t' = T6 := (Option.some.inj (show some T6 = some t' from hmd)).symm
            clear hmd hgs
            have WE := HW6
            have GE := HG6
            have TEL := T6L
            clear HW6 HG6
            have HBE := Aside0.mk (HBB.out.trans (GE.out.toBelow HGN.out.1 HGN.out.2 HBB.out.size))
            have HZE := Aside0.mk ((BOX.out _ GE.out).2.1)
            have TE0 := Aside0.mk (show 0 < t'.ns.length by rw [TEL.out]; have := HIL.out; omega)
            go_wp2_with (go_at_call 56; refine (tree_ WE.out).mono ?_; rintro e w9 ⟨rfl, hB⟩; have HW9 := Aside0.mk (WE.out.below hB); have HB9 := Aside0.mk (below_step HBE.out hB); have HZ9 := Aside0.mk (blk_below HZE.out hB); clear hB; have z9 := HZ9.out; have f0 := blk_frozen z9 0; have f1 := blk_frozen z9 1; have c3 := (show w9.cell? ⟨w.heap.size + 1, 0, none⟩ = some (.int .i64 0) from (blk_cell z9 0).trans rfl); have c4 := (show w9.cell? ⟨w.heap.size + 1, 1, none⟩ = some (.slice none 0 0) from (blk_cell z9 1).trans rfl))
            refine bodyPost_ret (results_ct (cs := #[.int .i64 t'.rt, .slice A t'.ns.length c]) rfl _ _ (w.heap.size + 1) 25 (0, 0) _ rfl (set2 HZ9.out rfl _ _) Tryd.underlying25 rfl (by kernel_rfl)) rfl ?_
            rw [HRR.out]
            have hN := HNB.out
            have hW := HW9.out.moved (w1 := (w9.setCell ⟨w.heap.size + 1, 0, none⟩ (.int .i64 t'.rt)).setCell ⟨w.heap.size + 1, 1, none⟩ (.slice A t'.ns.length c)) (by rw [Below.heap_setCell _ _ _ _ (by show g ≠ w.heap.size + 1; omega), Below.heap_setCell _ _ _ _ (by show g ≠ w.heap.size + 1; omega)]) (by rw [Below.heap_setCell _ _ _ _ (by show b ≠ w.heap.size + 1; omega), Below.heap_setCell _ _ _ _ (by show b ≠ w.heap.size + 1; omega)])
            exact ⟨_, rfl, hW.toR TE0.out HGN.out.2, Below.setCell (Below.setCell HB9.out (p := ⟨w.heap.size + 1, 0, none⟩) (by show w.heap.size ≤ w.heap.size + 1; omega) _) (p := ⟨w.heap.size + 1, 1, none⟩) (by show w.heap.size ≤ w.heap.size + 1; omega) _⟩
          | false =>
            rw [hgs] at hmd
            have HMD := Aside0.mk (show fillA (t.ns.length + 2) T6 zu (onA t (id : Int)) = some t' from hmd)
            clear hmd hgs
            have TEL := Aside0.mk ((fill_len _ HMD.out).trans T6L.out)
            go_upto_region 29 with (go_at_call 66; refine (fill_ HW6.out T6O.out (by rw [T6L.out]; have := HIL.out; omega) zu (onA t (id : Int)) (by rw [T6L.out]; exact HUN.out) _ t' HMD.out).mono ?_; rintro e w8 ⟨rfl, hW, hG⟩; have WE := Aside0.mk hW; have GE := Aside0.mk (HG6.out.trans hG); clear hW hG)
            have HBE := Aside0.mk (HBB.out.trans (GE.out.toBelow HGN.out.1 HGN.out.2 HBB.out.size))
            have HZE := Aside0.mk ((BOX.out _ GE.out).2.1)
            have TE0 := Aside0.mk (show 0 < t'.ns.length by rw [TEL.out]; have := HIL.out; omega)
            go_wp2_with (go_at_call 56; refine (tree_ WE.out).mono ?_; rintro e w9 ⟨rfl, hB⟩; have HW9 := Aside0.mk (WE.out.below hB); have HB9 := Aside0.mk (below_step HBE.out hB); have HZ9 := Aside0.mk (blk_below HZE.out hB); clear hB; have z9 := HZ9.out; have f0 := blk_frozen z9 0; have f1 := blk_frozen z9 1; have c3 := (show w9.cell? ⟨w.heap.size + 1, 0, none⟩ = some (.int .i64 0) from (blk_cell z9 0).trans rfl); have c4 := (show w9.cell? ⟨w.heap.size + 1, 1, none⟩ = some (.slice none 0 0) from (blk_cell z9 1).trans rfl))
            refine bodyPost_ret (results_ct (cs := #[.int .i64 t'.rt, .slice A t'.ns.length c]) rfl _ _ (w.heap.size + 1) 25 (0, 0) _ rfl (set2 HZ9.out rfl _ _) Tryd.underlying25 rfl (by kernel_rfl)) rfl ?_
            rw [HRR.out]
            have hN := HNB.out
            have hW := HW9.out.moved (w1 := (w9.setCell ⟨w.heap.size + 1, 0, none⟩ (.int .i64 t'.rt)).setCell ⟨w.heap.size + 1, 1, none⟩ (.slice A t'.ns.length c)) (by rw [Below.heap_setCell _ _ _ _ (by show g ≠ w.heap.size + 1; omega), Below.heap_setCell _ _ _ _ (by show g ≠ w.heap.size + 1; omega)]) (by rw [Below.heap_setCell _ _ _ _ (by show b ≠ w.heap.size + 1; omega), Below.heap_setCell _ _ _ _ (by show b ≠ w.heap.size + 1; omega)])
            exact ⟨_, rfl, hW.toR TE0.out HGN.out.2, Below.setCell (Below.setCell HB9.out (p := ⟨w.heap.size + 1, 0, none⟩) (by show w.heap.size ≤ w.heap.size + 1; omega) _) (p := ⟨w.heap.size + 1, 1, none⟩) (by show w.heap.size ≤ w.heap.size + 1; omega) _⟩
      · have hr0 : zr < 0 := hone.resolve_left hl0
        have hlt : ¬ zl < zr := by omega
        have hl1 : decide (zl < 0) = false := decide_eq_false hl0
        rw [if_neg hlt] at HCALL
        clear hone
        go_upto_region 26 with (go_at_call 54; refine HCALL.out.mono ?_; rintro e w4 ⟨rfl, hW, hG⟩; have WX := Aside0.mk hW; have GX := Aside0.mk (G0.out.trans hG); clear hW hG)
        rw [← show max zl zr = zl by rw [HMAX.out, if_neg (by omega)]] at WX
        clear v1 v3 v4 v5 HCALL
        have hmd := HMD0.out
        generalize hangA t zu (onA t (id : Int)) (max zl zr) = T1 at WX OX LX hmd
        have HBX := Aside0.mk (HBB.out.trans (GX.out.toBelow HGN.out.1 HGN.out.2 HBB.out.size))
        have HTX := Aside0.mk (HT.out.below HBX.out)
        have e0 := HTX.out.c0
        have e1 := HTX.out.c1
        have e2 := HTX.out.c2
        have e3 := HTX.out.c3
        have e4 := HTX.out.c4
        have e5 := HTX.out.c5
        have hid := (show id < T1.ns.length by rw [LX.out]; exact HIL.out)
        have hii := (show (id : Int) < (T1.ns.length : Int) by omega)
        have c0 := WX.out.c0
        rw [WX.out.addr (by omega)] at c0
        have n0 := WX.out.at_ id 0 hid (by omega)
        have n1 := WX.out.at_ id 1 hid (by omega)
        have n2 := WX.out.at_ id 2 hid (by omega)
        have n3 := WX.out.at_ id 3 hid (by omega)
        have n4 := WX.out.at_ id 4 hid (by omega)
        have n5 := WX.out.at_ id 5 hid (by omega)
        have m0 := (show _ = some (Value.bool (gn T1 id).inn) from n0)
        have m1 := (show _ = some (Value.bool (gn T1 id).red) from n1)
        have m2 := (show _ = some (Value.int .u64 (gn T1 id).v) from n2)
        have m3 := (show _ = some (Value.int .i64 (gn T1 id).l) from n3)
        have m4 := (show _ = some (Value.int .i64 (gn T1 id).r) from n4)
        have m5 := (show _ = some (Value.int .i64 (gn T1 id).u) from n5)
        rw [Nat.add_zero] at m0
        have q0 := WX.out.frozenN (by omega) (id * 6)
        have q1 := WX.out.frozenN (by omega) (id * 6 + 1)
        have q2 := WX.out.frozenN (by omega) (id * 6 + 2)
        have q3 := WX.out.frozenN (by omega) (id * 6 + 3)
        have q4 := WX.out.frozenN (by omega) (id * 6 + 4)
        have q5 := WX.out.frozenN (by omega) (id * 6 + 5)
        clear n0 n1 n2 n3 n4 n5
        have HW6 := Aside0.mk ((WX.out.setAll id hid emp).drew)
        have HG6 := Aside0.mk ((((((GX.out.setB (id * 6) (.bool emp.inn)).setB (id * 6 + 1) (.bool emp.red)).setB (id * 6 + 2) (.int .u64 emp.v)).setB (id * 6 + 3) (.int .i64 emp.l)).setB (id * 6 + 4) (.int .i64 emp.r)).setB (id * 6 + 5) (.int .i64 emp.u)).drew
        have T6L := Aside0.mk (show (sn T1 id emp).ns.length = t.ns.length by rw [sn_len]; exact LX.out)
        have T6O := Aside0.mk (show Ok (sn T1 id emp) from OX.out.sn _ _ hid (by show (-1 : Int) < _ ∧ (-1 : Int) < _ ∧ (-1 : Int) < _; omega))
        change Aside0 (Wk A c ((((((World.setCell _ ⟨b, id * 6, none⟩ (.bool false)).setCell ⟨b, id * 6 + 1, none⟩ (.bool false)).setCell ⟨b, id * 6 + 2, none⟩ (.int .u64 0)).setCell ⟨b, id * 6 + 3, none⟩ (.int .i64 (-1))).setCell ⟨b, id * 6 + 4, none⟩ (.int .i64 (-1))).setCell ⟨b, id * 6 + 5, none⟩ (.int .i64 (-1))).drew g b _) at HW6
        change Aside0 (Gs g b _ ((((((World.setCell _ ⟨b, id * 6, none⟩ (.bool false)).setCell ⟨b, id * 6 + 1, none⟩ (.bool false)).setCell ⟨b, id * 6 + 2, none⟩ (.int .u64 0)).setCell ⟨b, id * 6 + 3, none⟩ (.int .i64 (-1))).setCell ⟨b, id * 6 + 4, none⟩ (.int .i64 (-1))).setCell ⟨b, id * 6 + 5, none⟩ (.int .i64 (-1))).drew) at HG6
        go_region
        clear m0 m1 m2 m3 m4 m5 q0 q1 q2 q3 q4 q5 e0 e1 e2 e3 e4 e5 c0 hid hii
        generalize World.drew _ = w6 at HW6 HG6 ⊢
        generalize sn T1 id emp = T6 at HW6 T6L T6O hmd
        cases hgs : zred with
        | true =>
          rw [hgs] at hmd
          obtain rfl : t' = T6 := (Option.some.inj (show some T6 = some t' from hmd)).symm
          clear hmd hgs
          have WE := HW6
          have GE := HG6
          have TEL := T6L
          clear HW6 HG6
          have HBE := Aside0.mk (HBB.out.trans (GE.out.toBelow HGN.out.1 HGN.out.2 HBB.out.size))
          have HZE := Aside0.mk ((BOX.out _ GE.out).2.1)
          have TE0 := Aside0.mk (show 0 < t'.ns.length by rw [TEL.out]; have := HIL.out; omega)
          go_wp2_with (go_at_call 56; refine (tree_ WE.out).mono ?_; rintro e w9 ⟨rfl, hB⟩; have HW9 := Aside0.mk (WE.out.below hB); have HB9 := Aside0.mk (below_step HBE.out hB); have HZ9 := Aside0.mk (blk_below HZE.out hB); clear hB; have z9 := HZ9.out; have f0 := blk_frozen z9 0; have f1 := blk_frozen z9 1; have c3 := (show w9.cell? ⟨w.heap.size + 1, 0, none⟩ = some (.int .i64 0) from (blk_cell z9 0).trans rfl); have c4 := (show w9.cell? ⟨w.heap.size + 1, 1, none⟩ = some (.slice none 0 0) from (blk_cell z9 1).trans rfl))
          refine bodyPost_ret (results_ct (cs := #[.int .i64 t'.rt, .slice A t'.ns.length c]) rfl _ _ (w.heap.size + 1) 25 (0, 0) _ rfl (set2 HZ9.out rfl _ _) Tryd.underlying25 rfl (by kernel_rfl)) rfl ?_
          rw [HRR.out]
          have hN := HNB.out
          have hW := HW9.out.moved (w1 := (w9.setCell ⟨w.heap.size + 1, 0, none⟩ (.int .i64 t'.rt)).setCell ⟨w.heap.size + 1, 1, none⟩ (.slice A t'.ns.length c)) (by rw [Below.heap_setCell _ _ _ _ (by show g ≠ w.heap.size + 1; omega), Below.heap_setCell _ _ _ _ (by show g ≠ w.heap.size + 1; omega)]) (by rw [Below.heap_setCell _ _ _ _ (by show b ≠ w.heap.size + 1; omega), Below.heap_setCell _ _ _ _ (by show b ≠ w.heap.size + 1; omega)])
          exact ⟨_, rfl, hW.toR TE0.out HGN.out.2, Below.setCell (Below.setCell HB9.out (p := ⟨w.heap.size + 1, 0, none⟩) (by show w.heap.size ≤ w.heap.size + 1; omega) _) (p := ⟨w.heap.size + 1, 1, none⟩) (by show w.heap.size ≤ w.heap.size + 1; omega) _⟩
        | false =>
          rw [hgs] at hmd
          have HMD := Aside0.mk (show fillA (t.ns.length + 2) T6 zu (onA t (id : Int)) = some t' from hmd)
          clear hmd hgs
          have TEL := Aside0.mk ((fill_len _ HMD.out).trans T6L.out)
          go_upto_region 29 with (go_at_call 66; refine (fill_ HW6.out T6O.out (by rw [T6L.out]; have := HIL.out; omega) zu (onA t (id : Int)) (by rw [T6L.out]; exact HUN.out) _ t' HMD.out).mono ?_; rintro e w8 ⟨rfl, hW, hG⟩; have WE := Aside0.mk hW; have GE := Aside0.mk (HG6.out.trans hG); clear hW hG)
          have HBE := Aside0.mk (HBB.out.trans (GE.out.toBelow HGN.out.1 HGN.out.2 HBB.out.size))
          have HZE := Aside0.mk ((BOX.out _ GE.out).2.1)
          have TE0 := Aside0.mk (show 0 < t'.ns.length by rw [TEL.out]; have := HIL.out; omega)
          go_wp2_with (go_at_call 56; refine (tree_ WE.out).mono ?_; rintro e w9 ⟨rfl, hB⟩; have HW9 := Aside0.mk (WE.out.below hB); have HB9 := Aside0.mk (below_step HBE.out hB); have HZ9 := Aside0.mk (blk_below HZE.out hB); clear hB; have z9 := HZ9.out; have f0 := blk_frozen z9 0; have f1 := blk_frozen z9 1; have c3 := (show w9.cell? ⟨w.heap.size + 1, 0, none⟩ = some (.int .i64 0) from (blk_cell z9 0).trans rfl); have c4 := (show w9.cell? ⟨w.heap.size + 1, 1, none⟩ = some (.slice none 0 0) from (blk_cell z9 1).trans rfl))
          refine bodyPost_ret (results_ct (cs := #[.int .i64 t'.rt, .slice A t'.ns.length c]) rfl _ _ (w.heap.size + 1) 25 (0, 0) _ rfl (set2 HZ9.out rfl _ _) Tryd.underlying25 rfl (by kernel_rfl)) rfl ?_
          rw [HRR.out]
          have hN := HNB.out
          have hW := HW9.out.moved (w1 := (w9.setCell ⟨w.heap.size + 1, 0, none⟩ (.int .i64 t'.rt)).setCell ⟨w.heap.size + 1, 1, none⟩ (.slice A t'.ns.length c)) (by rw [Below.heap_setCell _ _ _ _ (by show g ≠ w.heap.size + 1; omega), Below.heap_setCell _ _ _ _ (by show g ≠ w.heap.size + 1; omega)]) (by rw [Below.heap_setCell _ _ _ _ (by show b ≠ w.heap.size + 1; omega), Below.heap_setCell _ _ _ _ (by show b ≠ w.heap.size + 1; omega)])
          exact ⟨_, rfl, hW.toR TE0.out HGN.out.2, Below.setCell (Below.setCell HB9.out (p := ⟨w.heap.size + 1, 0, none⟩) (by show w.heap.size ≤ w.heap.size + 1; omega) _) (p := ⟨w.heap.size + 1, 1, none⟩) (by show w.heap.size ≤ w.heap.size + 1; omega) _⟩
    · have hmd := HDL.out
      rw [if_neg hone] at hmd
      simp only [not_or] at hone
      obtain ⟨hl0, hr0⟩ := hone
      have hl1 : decide (zl < 0) = false := decide_eq_false hl0
      have hr1 : decide (zr < 0) = false := decide_eq_false hr0
      have HR0 := Aside0.mk (show 0 ≤ zr by omega)
      obtain ⟨yy, hyy, hmd2⟩ : ∃ yy, leftA (t.ns.length + 2) t zr = some yy ∧ (if yy = zr then delEnd (t.ns.length + 2) t id zu (onA t (id : Int)) zl zred yy yy true (redA t yy) else delEnd (t.ns.length + 2) (hangA (hangA t (upA t yy) false (kidA t yy true)) yy true zr) id zu (onA t (id : Int)) zl zred yy (upA t yy) false (redA t yy)) = some t' := by
        cases hd : leftA (t.ns.length + 2) t zr with
        | none => rw [hd] at hmd; cases hmd
        | some yy => rw [hd] at hmd; exact ⟨yy, rfl, hmd⟩
      clear hmd
      have HYY := Aside0.mk hyy
      have HM2 := Aside0.mk hmd2
      clear hyy hmd2
      have cl := HWB.out.fl zr HR0.out HNS.out.2.1
      go_upto_region 14 with (go_at_call 61; refine (left_ HWB.out zr HR0.out HNS.out.2.1).mono ?_; rintro e w4 ⟨rfl, hw4⟩; replace hw4 := hw4.symm; subst hw4)
      clear cl
      go_loopw [13, 14] (fun vy vl wr => LRl t yy vy vl ∧ Aside0 (wr = wB)) (fun vy vl wr => least (LRel t yy vy vl))
      case atStart => exact ⟨⟨_, zr, rfl, rfl, HR0.out, HNS.out.2.1, HYY.out⟩, ⟨rfl⟩⟩
      case round =>
        obtain ⟨hrel, HWE⟩ := hrel
        have hw := HWE.out
        subst hw
        have HRq := least_of hrel.out
        obtain ⟨hR1, hR2⟩ := HRq
        have HLq := Aside0.mk hR2
        generalize hlk : least _ = lk at hR1 HLq ⊢
        obtain ⟨y, rfl, rfl, hy0, hyn, hla⟩ := hR1.out
        obtain ⟨m, rfl⟩ : ∃ m, lk = m + 1 := by
          cases lk with
          | zero => simp [leftA] at hla
          | succ m => exact ⟨m, rfl⟩
        rw [leftA] at hla
        clear hR2 hrel hR1 HLq HWE
        by_cases hk : 0 ≤ kidA t y false
        · rw [if_pos hk] at hla
          have HLA := Aside0.mk hla
          have HKN := Aside0.mk (HOK.out.kid y false)
          have HK0 := Aside0.mk hk
          clear hla
          generalize kidA t y false = y2 at hk HLA HKN HK0 hlk ⊢
          have cl := HWB.out.fl y2 HK0.out HKN.out
          go_wp2_with (go_at_call 61; refine (left_ HWB.out y2 HK0.out HKN.out).mono ?_; rintro e w4 ⟨rfl, rfl⟩)
          have hq : LRel t yy (Value.int IntKind.i64 y2) (Value.int IntKind.i64 (kidA t y2 false)) m := ⟨y2, rfl, rfl, HK0.out, HKN.out, HLA.out⟩
          refine ⟨⟨⟨m, hq⟩, ⟨by first | rfl | trivial⟩⟩, ?_⟩
          have h3 := (least_of ⟨m, hq⟩).2 m hq
          exact Nat.lt_of_le_of_lt h3 (by rw [hlk]; omega)
        · rw [if_neg hk] at hla
          obtain rfl := Option.some.inj hla
          have hkd : decide (0 ≤ kidA t y false) = false := decide_eq_false hk
          have HY0 := Aside0.mk hy0
          have HYN := Aside0.mk hyn
          clear hla hlk hyn hy0
          obtain ⟨yy, hyy⟩ : ∃ yy, yy = y := ⟨_, rfl⟩
          rw [← hyy] at HM2 HY0 HYN ⊢ hk hkd
          clear hyy
          obtain ⟨yred, hyr⟩ : ∃ b, b = redA t yy := ⟨_, rfl⟩
          rw [← hyr] at HM2
          have HYR := Aside0.mk hyr.symm
          clear hyr
          have WB2 := HWB
          by_cases hyz : yy = zr
          · have hmd := HM2.out
            rw [if_pos hyz] at hmd
            unfold delEnd placeA at hmd
            have hb : (yy == zr) = true := by simpa using hyz
            have HYZ := Aside0.mk hyz
            clear hyz
            have hnb : (yy != zr) = false := by simp [HYZ.out]
            go_upto_region 23 with (go_at_call 62; refine (red_v HWB.out yy HYN.out yred HYR.out).mono ?_; rintro e w4 ⟨rfl, rfl⟩)
            clear v1 v3 v4 v5
            have z23 := (BOX.out _ G0.out).2.2
            have v3 := (show _ = some (Value.int .i64 zl) from (blk_cell z23 3).trans rfl)
            have v4 := (show _ = some (Value.int .i64 zr) from (blk_cell z23 4).trans rfl)
            have v5 := (show _ = some (Value.int .i64 zu) from (blk_cell z23 5).trans rfl)
            have v1 := (show _ = some (Value.bool zred) from (blk_cell z23 1).trans rfl)
            go_upto_region 24 with (go_at_call 54; refine (hang_ WB2.out zu yy (onA t (id : Int)) (by exact HUN.out) (by exact HYN.out)).mono ?_; rintro e w4 ⟨rfl, hW, hG⟩; have WP := Aside0.mk hW; have GP := Aside0.mk (G0.out.trans hG); clear hW hG)
            clear v1 v3 v4 v5 z23
            have LP := Aside0.mk (show (hangA t zu (onA t (id : Int)) yy).ns.length = t.ns.length by rw [hang_len])
            have OP := Aside0.mk (HOK.out.hang zu (onA t (id : Int)) yy (by exact HUN.out) (by exact HYN.out))
            generalize hangA t zu (onA t (id : Int)) yy = TP at WP LP OP hmd
            have z24 := (BOX.out _ GP.out).2.2
            have v3 := (show _ = some (Value.int .i64 zl) from (blk_cell z24 3).trans rfl)
            go_upto_region 25 with (go_at_call 54; refine (hang_z WP.out yy zl false (by rw [LP.out]; exact HYN.out) (by rw [LP.out]; exact HNS.out.1) 0 rfl).mono ?_; rintro e w4 ⟨rfl, hW, hG⟩; have WQ := Aside0.mk hW; have GQ := Aside0.mk (GP.out.trans hG); clear hW hG)
            clear v3 z24
            have LQ := Aside0.mk (show (hangA TP yy false zl).ns.length = t.ns.length by rw [hang_len]; exact LP.out)
            have OQ := Aside0.mk (OP.out.hang yy false zl (by rw [LP.out]; exact HYN.out) (by rw [LP.out]; exact HNS.out.1))
            generalize hangA TP yy false zl = TQ at WQ LQ OQ hmd
            have z25 := (BOX.out _ GQ.out).2.2
            have v1 := (show _ = some (Value.bool zred) from (blk_cell z25 1).trans rfl)
            have hzl := World.block_lt_of_cell? _ _ v1
            go_region_with (go_at_call 65; refine (paint1d_ WQ.out zred yy (by rw [LQ.out]; have := HIL.out; omega) (by rw [LQ.out]; exact HYN.out)).mono ?_; rintro e w4 ⟨rfl, hW, hG⟩; have WX := Aside0.mk hW; have GX := Aside0.mk (GQ.out.trans hG); clear hW hG)
            all_goals
              clear v1 z25 hzl
              have LX := Aside0.mk (show (paintA TQ zred yy).ns.length = t.ns.length by rw [paint_len]; exact LQ.out)
              have OX := Aside0.mk (OQ.out.paint zred yy (by rw [LQ.out]; exact HYN.out))
              generalize paintA TQ zred yy = T5 at WX LX OX hmd
              go_upto_region 26 with (fail)
              have HBX := Aside0.mk (HBB.out.trans (GX.out.toBelow HGN.out.1 HGN.out.2 HBB.out.size))
              have HTX := Aside0.mk (HT.out.below HBX.out)
              have e0 := HTX.out.c0
              have e1 := HTX.out.c1
              have e2 := HTX.out.c2
              have e3 := HTX.out.c3
              have e4 := HTX.out.c4
              have e5 := HTX.out.c5
              have hid := (show id < T5.ns.length by rw [LX.out]; exact HIL.out)
              have hii := (show (id : Int) < (T5.ns.length : Int) by omega)
              have c0 := WX.out.c0
              rw [WX.out.addr (by omega)] at c0
              have n0 := WX.out.at_ id 0 hid (by omega)
              have n1 := WX.out.at_ id 1 hid (by omega)
              have n2 := WX.out.at_ id 2 hid (by omega)
              have n3 := WX.out.at_ id 3 hid (by omega)
              have n4 := WX.out.at_ id 4 hid (by omega)
              have n5 := WX.out.at_ id 5 hid (by omega)
              have m0 := (show _ = some (Value.bool (gn T5 id).inn) from n0)
              have m1 := (show _ = some (Value.bool (gn T5 id).red) from n1)
              have m2 := (show _ = some (Value.int .u64 (gn T5 id).v) from n2)
              have m3 := (show _ = some (Value.int .i64 (gn T5 id).l) from n3)
              have m4 := (show _ = some (Value.int .i64 (gn T5 id).r) from n4)
              have m5 := (show _ = some (Value.int .i64 (gn T5 id).u) from n5)
              rw [Nat.add_zero] at m0
              have q0 := WX.out.frozenN (by omega) (id * 6)
              have q1 := WX.out.frozenN (by omega) (id * 6 + 1)
              have q2 := WX.out.frozenN (by omega) (id * 6 + 2)
              have q3 := WX.out.frozenN (by omega) (id * 6 + 3)
              have q4 := WX.out.frozenN (by omega) (id * 6 + 4)
              have q5 := WX.out.frozenN (by omega) (id * 6 + 5)
              clear n0 n1 n2 n3 n4 n5
              have HW6 := Aside0.mk ((WX.out.setAll id hid emp).drew)
              have HG6 := Aside0.mk ((((((GX.out.setB (id * 6) (.bool emp.inn)).setB (id * 6 + 1) (.bool emp.red)).setB (id * 6 + 2) (.int .u64 emp.v)).setB (id * 6 + 3) (.int .i64 emp.l)).setB (id * 6 + 4) (.int .i64 emp.r)).setB (id * 6 + 5) (.int .i64 emp.u)).drew
              have T6L := Aside0.mk (show (sn T5 id emp).ns.length = t.ns.length by rw [sn_len]; exact LX.out)
              have T6O := Aside0.mk (show Ok (sn T5 id emp) from OX.out.sn _ _ hid (by show (-1 : Int) < _ ∧ (-1 : Int) < _ ∧ (-1 : Int) < _; omega))
              change Aside0 (Wk A c ((((((World.setCell _ ⟨b, id * 6, none⟩ (.bool false)).setCell ⟨b, id * 6 + 1, none⟩ (.bool false)).setCell ⟨b, id * 6 + 2, none⟩ (.int .u64 0)).setCell ⟨b, id * 6 + 3, none⟩ (.int .i64 (-1))).setCell ⟨b, id * 6 + 4, none⟩ (.int .i64 (-1))).setCell ⟨b, id * 6 + 5, none⟩ (.int .i64 (-1))).drew g b _) at HW6
              change Aside0 (Gs g b _ ((((((World.setCell _ ⟨b, id * 6, none⟩ (.bool false)).setCell ⟨b, id * 6 + 1, none⟩ (.bool false)).setCell ⟨b, id * 6 + 2, none⟩ (.int .u64 0)).setCell ⟨b, id * 6 + 3, none⟩ (.int .i64 (-1))).setCell ⟨b, id * 6 + 4, none⟩ (.int .i64 (-1))).setCell ⟨b, id * 6 + 5, none⟩ (.int .i64 (-1))).drew) at HG6
              go_region
              clear m0 m1 m2 m3 m4 m5 q0 q1 q2 q3 q4 q5 e0 e1 e2 e3 e4 e5 c0 hid hii
              generalize World.drew _ = w6 at HW6 HG6 ⊢
              generalize sn T5 id emp = T6 at HW6 T6L T6O hmd
              cases hgs : yred with
              | true =>
                rw [hgs] at hmd
                obtain rfl : t' = T6 := (Option.some.inj (show some T6 = some t' from hmd)).symm
                clear hmd hgs
                have WE := HW6
                have GE := HG6
                have TEL := T6L
                clear HW6 HG6
                have HBE := Aside0.mk (HBB.out.trans (GE.out.toBelow HGN.out.1 HGN.out.2 HBB.out.size))
                have HZE := Aside0.mk ((BOX.out _ GE.out).2.1)
                have TE0 := Aside0.mk (show 0 < t'.ns.length by rw [TEL.out]; have := HIL.out; omega)
                go_wp2_with (go_at_call 56; refine (tree_ WE.out).mono ?_; rintro e w9 ⟨rfl, hB⟩; have HW9 := Aside0.mk (WE.out.below hB); have HB9 := Aside0.mk (below_step HBE.out hB); have HZ9 := Aside0.mk (blk_below HZE.out hB); clear hB; have z9 := HZ9.out; have f0 := blk_frozen z9 0; have f1 := blk_frozen z9 1; have c3 := (show w9.cell? ⟨w.heap.size + 1, 0, none⟩ = some (.int .i64 0) from (blk_cell z9 0).trans rfl); have c4 := (show w9.cell? ⟨w.heap.size + 1, 1, none⟩ = some (.slice none 0 0) from (blk_cell z9 1).trans rfl))
                refine bodyPost_ret (results_ct (cs := #[.int .i64 t'.rt, .slice A t'.ns.length c]) rfl _ _ (w.heap.size + 1) 25 (0, 0) _ rfl (set2 HZ9.out rfl _ _) Tryd.underlying25 rfl (by kernel_rfl)) rfl ?_
                rw [HRR.out]
                have hN := HNB.out
                have hW := HW9.out.moved (w1 := (w9.setCell ⟨w.heap.size + 1, 0, none⟩ (.int .i64 t'.rt)).setCell ⟨w.heap.size + 1, 1, none⟩ (.slice A t'.ns.length c)) (by rw [Below.heap_setCell _ _ _ _ (by show g ≠ w.heap.size + 1; omega), Below.heap_setCell _ _ _ _ (by show g ≠ w.heap.size + 1; omega)]) (by rw [Below.heap_setCell _ _ _ _ (by show b ≠ w.heap.size + 1; omega), Below.heap_setCell _ _ _ _ (by show b ≠ w.heap.size + 1; omega)])
                exact ⟨_, rfl, hW.toR TE0.out HGN.out.2, Below.setCell (Below.setCell HB9.out (p := ⟨w.heap.size + 1, 0, none⟩) (by show w.heap.size ≤ w.heap.size + 1; omega) _) (p := ⟨w.heap.size + 1, 1, none⟩) (by show w.heap.size ≤ w.heap.size + 1; omega) _⟩
              | false =>
                rw [hgs] at hmd
                have HMD := Aside0.mk (show fillA (t.ns.length + 2) T6 yy true = some t' from hmd)
                clear hmd hgs
                have TEL := Aside0.mk ((fill_len _ HMD.out).trans T6L.out)
                go_upto_region 29 with (go_at_call 66; refine (fill_ HW6.out T6O.out (by rw [T6L.out]; have := HIL.out; omega) yy true (by rw [T6L.out]; exact HYN.out) _ t' HMD.out).mono ?_; rintro e w8 ⟨rfl, hW, hG⟩; have WE := Aside0.mk hW; have GE := Aside0.mk (HG6.out.trans hG); clear hW hG)
                have HBE := Aside0.mk (HBB.out.trans (GE.out.toBelow HGN.out.1 HGN.out.2 HBB.out.size))
                have HZE := Aside0.mk ((BOX.out _ GE.out).2.1)
                have TE0 := Aside0.mk (show 0 < t'.ns.length by rw [TEL.out]; have := HIL.out; omega)
                go_wp2_with (go_at_call 56; refine (tree_ WE.out).mono ?_; rintro e w9 ⟨rfl, hB⟩; have HW9 := Aside0.mk (WE.out.below hB); have HB9 := Aside0.mk (below_step HBE.out hB); have HZ9 := Aside0.mk (blk_below HZE.out hB); clear hB; have z9 := HZ9.out; have f0 := blk_frozen z9 0; have f1 := blk_frozen z9 1; have c3 := (show w9.cell? ⟨w.heap.size + 1, 0, none⟩ = some (.int .i64 0) from (blk_cell z9 0).trans rfl); have c4 := (show w9.cell? ⟨w.heap.size + 1, 1, none⟩ = some (.slice none 0 0) from (blk_cell z9 1).trans rfl))
                refine bodyPost_ret (results_ct (cs := #[.int .i64 t'.rt, .slice A t'.ns.length c]) rfl _ _ (w.heap.size + 1) 25 (0, 0) _ rfl (set2 HZ9.out rfl _ _) Tryd.underlying25 rfl (by kernel_rfl)) rfl ?_
                rw [HRR.out]
                have hN := HNB.out
                have hW := HW9.out.moved (w1 := (w9.setCell ⟨w.heap.size + 1, 0, none⟩ (.int .i64 t'.rt)).setCell ⟨w.heap.size + 1, 1, none⟩ (.slice A t'.ns.length c)) (by rw [Below.heap_setCell _ _ _ _ (by show g ≠ w.heap.size + 1; omega), Below.heap_setCell _ _ _ _ (by show g ≠ w.heap.size + 1; omega)]) (by rw [Below.heap_setCell _ _ _ _ (by show b ≠ w.heap.size + 1; omega), Below.heap_setCell _ _ _ _ (by show b ≠ w.heap.size + 1; omega)])
                exact ⟨_, rfl, hW.toR TE0.out HGN.out.2, Below.setCell (Below.setCell HB9.out (p := ⟨w.heap.size + 1, 0, none⟩) (by show w.heap.size ≤ w.heap.size + 1; omega) _) (p := ⟨w.heap.size + 1, 1, none⟩) (by show w.heap.size ≤ w.heap.size + 1; omega) _⟩
          · have hmd := HM2.out
            rw [if_neg hyz] at hmd
            unfold delEnd placeA at hmd
            have hb : (yy == zr) = false := by simpa using hyz
            have hnb : (yy != zr) = true := by simpa using hyz
            clear hyz
            obtain ⟨yu, hyu⟩ : ∃ q, q = upA t yy := ⟨_, rfl⟩
            rw [← hyu] at hmd
            have HYU := Aside0.mk (show yu < (t.ns.length : Int) by rw [hyu]; exact HOK.out.up yy)
            have HYE := Aside0.mk hyu.symm
            obtain ⟨yr, hyr⟩ : ∃ q, q = kidA t yy true := ⟨_, rfl⟩
            rw [← hyr] at hmd
            have HRN := Aside0.mk (show yr < (t.ns.length : Int) by rw [hyr]; exact HOK.out.kid _ _)
            have cr := HWB.out.fr yy HY0.out HYN.out
            rw [← hyr] at cr
            clear hyu hyr
            go_upto_region 22 with (first
              | (go_at_call 62; refine (red_v HWB.out yy HYN.out yred HYR.out).mono ?_; rintro e w4 ⟨rfl, rfl⟩)
              | (go_at_call 63; refine (up_v HWB.out yy HY0.out HYN.out yu HYE.out).mono ?_; rintro e w4 ⟨rfl, rfl⟩)
              | (go_at_call 64; refine (right_ HWB.out yy HY0.out HYN.out).mono ?_; rintro e w4 ⟨rfl, rfl⟩)
              | (go_at_call 54; refine (hang_z HWB.out yu yr false HYU.out HRN.out 0 rfl).mono ?_; rintro e w4 ⟨rfl, hW, hG⟩; have W1x := Aside0.mk hW; have G1x := Aside0.mk (G0.out.trans hG); clear hW hG))
            clear v1 v3 v4 v5 cr
            have L1x := Aside0.mk (hang_len t yu false yr)
            have O1x := Aside0.mk (HOK.out.hang yu false yr HYU.out HRN.out)
            generalize hangA t yu false yr = T1 at W1x L1x O1x hmd
            have z22 := (BOX.out _ G1x.out).2.2
            have v4 := (show _ = some (Value.int .i64 zr) from (blk_cell z22 4).trans rfl)
            go_upto_region 23 with (go_at_call 54; refine (hang_z W1x.out yy zr true (by rw [L1x.out]; exact HYN.out) (by rw [L1x.out]; exact HNS.out.2.1) 1 rfl).mono ?_; rintro e w4 ⟨rfl, hW, hG⟩; have W2x := Aside0.mk hW; have G2x := Aside0.mk (G1x.out.trans hG); clear hW hG)
            clear v4 z22
            have L2x := Aside0.mk (show (hangA T1 yy true zr).ns.length = t.ns.length by rw [hang_len]; exact L1x.out)
            have O2x := Aside0.mk (O1x.out.hang yy true zr (by rw [L1x.out]; exact HYN.out) (by rw [L1x.out]; exact HNS.out.2.1))
            generalize hangA T1 yy true zr = T2 at W2x L2x O2x hmd
            have z23 := (BOX.out _ G2x.out).2.2
            have v3 := (show _ = some (Value.int .i64 zl) from (blk_cell z23 3).trans rfl)
            have v4 := (show _ = some (Value.int .i64 zr) from (blk_cell z23 4).trans rfl)
            have v5 := (show _ = some (Value.int .i64 zu) from (blk_cell z23 5).trans rfl)
            have v1 := (show _ = some (Value.bool zred) from (blk_cell z23 1).trans rfl)
            go_upto_region 24 with (go_at_call 54; refine (hang_ W2x.out zu yy (onA t (id : Int)) (by rw [L2x.out]; exact HUN.out) (by rw [L2x.out]; exact HYN.out)).mono ?_; rintro e w4 ⟨rfl, hW, hG⟩; have WP := Aside0.mk hW; have GP := Aside0.mk (G2x.out.trans hG); clear hW hG)
            clear v1 v3 v4 v5 z23
            have LP := Aside0.mk (show (hangA T2 zu (onA t (id : Int)) yy).ns.length = t.ns.length by rw [hang_len]; exact L2x.out)
            have OP := Aside0.mk (O2x.out.hang zu (onA t (id : Int)) yy (by rw [L2x.out]; exact HUN.out) (by rw [L2x.out]; exact HYN.out))
            generalize hangA T2 zu (onA t (id : Int)) yy = TP at WP LP OP hmd
            have z24 := (BOX.out _ GP.out).2.2
            have v3 := (show _ = some (Value.int .i64 zl) from (blk_cell z24 3).trans rfl)
            go_upto_region 25 with (go_at_call 54; refine (hang_z WP.out yy zl false (by rw [LP.out]; exact HYN.out) (by rw [LP.out]; exact HNS.out.1) 0 rfl).mono ?_; rintro e w4 ⟨rfl, hW, hG⟩; have WQ := Aside0.mk hW; have GQ := Aside0.mk (GP.out.trans hG); clear hW hG)
            clear v3 z24
            have LQ := Aside0.mk (show (hangA TP yy false zl).ns.length = t.ns.length by rw [hang_len]; exact LP.out)
            have OQ := Aside0.mk (OP.out.hang yy false zl (by rw [LP.out]; exact HYN.out) (by rw [LP.out]; exact HNS.out.1))
            generalize hangA TP yy false zl = TQ at WQ LQ OQ hmd
            have z25 := (BOX.out _ GQ.out).2.2
            have v1 := (show _ = some (Value.bool zred) from (blk_cell z25 1).trans rfl)
            have hzl := World.block_lt_of_cell? _ _ v1
            go_region_with (go_at_call 65; refine (paint1d_ WQ.out zred yy (by rw [LQ.out]; have := HIL.out; omega) (by rw [LQ.out]; exact HYN.out)).mono ?_; rintro e w4 ⟨rfl, hW, hG⟩; have WX := Aside0.mk hW; have GX := Aside0.mk (GQ.out.trans hG); clear hW hG)
            all_goals
              clear v1 z25 hzl
              have LX := Aside0.mk (show (paintA TQ zred yy).ns.length = t.ns.length by rw [paint_len]; exact LQ.out)
              have OX := Aside0.mk (OQ.out.paint zred yy (by rw [LQ.out]; exact HYN.out))
              generalize paintA TQ zred yy = T5 at WX LX OX hmd
              go_upto_region 26 with (fail)
              have HBX := Aside0.mk (HBB.out.trans (GX.out.toBelow HGN.out.1 HGN.out.2 HBB.out.size))
              have HTX := Aside0.mk (HT.out.below HBX.out)
              have e0 := HTX.out.c0
              have e1 := HTX.out.c1
              have e2 := HTX.out.c2
              have e3 := HTX.out.c3
              have e4 := HTX.out.c4
              have e5 := HTX.out.c5
              have hid := (show id < T5.ns.length by rw [LX.out]; exact HIL.out)
              have hii := (show (id : Int) < (T5.ns.length : Int) by omega)
              have c0 := WX.out.c0
              rw [WX.out.addr (by omega)] at c0
              have n0 := WX.out.at_ id 0 hid (by omega)
              have n1 := WX.out.at_ id 1 hid (by omega)
              have n2 := WX.out.at_ id 2 hid (by omega)
              have n3 := WX.out.at_ id 3 hid (by omega)
              have n4 := WX.out.at_ id 4 hid (by omega)
              have n5 := WX.out.at_ id 5 hid (by omega)
              have m0 := (show _ = some (Value.bool (gn T5 id).inn) from n0)
              have m1 := (show _ = some (Value.bool (gn T5 id).red) from n1)
              have m2 := (show _ = some (Value.int .u64 (gn T5 id).v) from n2)
              have m3 := (show _ = some (Value.int .i64 (gn T5 id).l) from n3)
              have m4 := (show _ = some (Value.int .i64 (gn T5 id).r) from n4)
              have m5 := (show _ = some (Value.int .i64 (gn T5 id).u) from n5)
              rw [Nat.add_zero] at m0
              have q0 := WX.out.frozenN (by omega) (id * 6)
              have q1 := WX.out.frozenN (by omega) (id * 6 + 1)
              have q2 := WX.out.frozenN (by omega) (id * 6 + 2)
              have q3 := WX.out.frozenN (by omega) (id * 6 + 3)
              have q4 := WX.out.frozenN (by omega) (id * 6 + 4)
              have q5 := WX.out.frozenN (by omega) (id * 6 + 5)
              clear n0 n1 n2 n3 n4 n5
              have HW6 := Aside0.mk ((WX.out.setAll id hid emp).drew)
              have HG6 := Aside0.mk ((((((GX.out.setB (id * 6) (.bool emp.inn)).setB (id * 6 + 1) (.bool emp.red)).setB (id * 6 + 2) (.int .u64 emp.v)).setB (id * 6 + 3) (.int .i64 emp.l)).setB (id * 6 + 4) (.int .i64 emp.r)).setB (id * 6 + 5) (.int .i64 emp.u)).drew
              have T6L := Aside0.mk (show (sn T5 id emp).ns.length = t.ns.length by rw [sn_len]; exact LX.out)
              have T6O := Aside0.mk (show Ok (sn T5 id emp) from OX.out.sn _ _ hid (by show (-1 : Int) < _ ∧ (-1 : Int) < _ ∧ (-1 : Int) < _; omega))
              change Aside0 (Wk A c ((((((World.setCell _ ⟨b, id * 6, none⟩ (.bool false)).setCell ⟨b, id * 6 + 1, none⟩ (.bool false)).setCell ⟨b, id * 6 + 2, none⟩ (.int .u64 0)).setCell ⟨b, id * 6 + 3, none⟩ (.int .i64 (-1))).setCell ⟨b, id * 6 + 4, none⟩ (.int .i64 (-1))).setCell ⟨b, id * 6 + 5, none⟩ (.int .i64 (-1))).drew g b _) at HW6
              change Aside0 (Gs g b _ ((((((World.setCell _ ⟨b, id * 6, none⟩ (.bool false)).setCell ⟨b, id * 6 + 1, none⟩ (.bool false)).setCell ⟨b, id * 6 + 2, none⟩ (.int .u64 0)).setCell ⟨b, id * 6 + 3, none⟩ (.int .i64 (-1))).setCell ⟨b, id * 6 + 4, none⟩ (.int .i64 (-1))).setCell ⟨b, id * 6 + 5, none⟩ (.int .i64 (-1))).drew) at HG6
              go_region
              clear m0 m1 m2 m3 m4 m5 q0 q1 q2 q3 q4 q5 e0 e1 e2 e3 e4 e5 c0 hid hii
              generalize World.drew _ = w6 at HW6 HG6 ⊢
              generalize sn T5 id emp = T6 at HW6 T6L T6O hmd
              cases hgs : yred with
              | true =>
                rw [hgs] at hmd
                obtain rfl : t' = T6 := (Option.some.inj (show some T6 = some t' from hmd)).symm
                clear hmd hgs
                have WE := HW6
                have GE := HG6
                have TEL := T6L
                clear HW6 HG6
                have HBE := Aside0.mk (HBB.out.trans (GE.out.toBelow HGN.out.1 HGN.out.2 HBB.out.size))
                have HZE := Aside0.mk ((BOX.out _ GE.out).2.1)
                have TE0 := Aside0.mk (show 0 < t'.ns.length by rw [TEL.out]; have := HIL.out; omega)
                go_wp2_with (go_at_call 56; refine (tree_ WE.out).mono ?_; rintro e w9 ⟨rfl, hB⟩; have HW9 := Aside0.mk (WE.out.below hB); have HB9 := Aside0.mk (below_step HBE.out hB); have HZ9 := Aside0.mk (blk_below HZE.out hB); clear hB; have z9 := HZ9.out; have f0 := blk_frozen z9 0; have f1 := blk_frozen z9 1; have c3 := (show w9.cell? ⟨w.heap.size + 1, 0, none⟩ = some (.int .i64 0) from (blk_cell z9 0).trans rfl); have c4 := (show w9.cell? ⟨w.heap.size + 1, 1, none⟩ = some (.slice none 0 0) from (blk_cell z9 1).trans rfl))
                refine bodyPost_ret (results_ct (cs := #[.int .i64 t'.rt, .slice A t'.ns.length c]) rfl _ _ (w.heap.size + 1) 25 (0, 0) _ rfl (set2 HZ9.out rfl _ _) Tryd.underlying25 rfl (by kernel_rfl)) rfl ?_
                rw [HRR.out]
                have hN := HNB.out
                have hW := HW9.out.moved (w1 := (w9.setCell ⟨w.heap.size + 1, 0, none⟩ (.int .i64 t'.rt)).setCell ⟨w.heap.size + 1, 1, none⟩ (.slice A t'.ns.length c)) (by rw [Below.heap_setCell _ _ _ _ (by show g ≠ w.heap.size + 1; omega), Below.heap_setCell _ _ _ _ (by show g ≠ w.heap.size + 1; omega)]) (by rw [Below.heap_setCell _ _ _ _ (by show b ≠ w.heap.size + 1; omega), Below.heap_setCell _ _ _ _ (by show b ≠ w.heap.size + 1; omega)])
                exact ⟨_, rfl, hW.toR TE0.out HGN.out.2, Below.setCell (Below.setCell HB9.out (p := ⟨w.heap.size + 1, 0, none⟩) (by show w.heap.size ≤ w.heap.size + 1; omega) _) (p := ⟨w.heap.size + 1, 1, none⟩) (by show w.heap.size ≤ w.heap.size + 1; omega) _⟩
              | false =>
                rw [hgs] at hmd
                have HMD := Aside0.mk (show fillA (t.ns.length + 2) T6 yu false = some t' from hmd)
                clear hmd hgs
                have TEL := Aside0.mk ((fill_len _ HMD.out).trans T6L.out)
                go_upto_region 29 with (go_at_call 66; refine (fill_ HW6.out T6O.out (by rw [T6L.out]; have := HIL.out; omega) yu false (by rw [T6L.out]; exact HYU.out) _ t' HMD.out).mono ?_; rintro e w8 ⟨rfl, hW, hG⟩; have WE := Aside0.mk hW; have GE := Aside0.mk (HG6.out.trans hG); clear hW hG)
                have HBE := Aside0.mk (HBB.out.trans (GE.out.toBelow HGN.out.1 HGN.out.2 HBB.out.size))
                have HZE := Aside0.mk ((BOX.out _ GE.out).2.1)
                have TE0 := Aside0.mk (show 0 < t'.ns.length by rw [TEL.out]; have := HIL.out; omega)
                go_wp2_with (go_at_call 56; refine (tree_ WE.out).mono ?_; rintro e w9 ⟨rfl, hB⟩; have HW9 := Aside0.mk (WE.out.below hB); have HB9 := Aside0.mk (below_step HBE.out hB); have HZ9 := Aside0.mk (blk_below HZE.out hB); clear hB; have z9 := HZ9.out; have f0 := blk_frozen z9 0; have f1 := blk_frozen z9 1; have c3 := (show w9.cell? ⟨w.heap.size + 1, 0, none⟩ = some (.int .i64 0) from (blk_cell z9 0).trans rfl); have c4 := (show w9.cell? ⟨w.heap.size + 1, 1, none⟩ = some (.slice none 0 0) from (blk_cell z9 1).trans rfl))
                refine bodyPost_ret (results_ct (cs := #[.int .i64 t'.rt, .slice A t'.ns.length c]) rfl _ _ (w.heap.size + 1) 25 (0, 0) _ rfl (set2 HZ9.out rfl _ _) Tryd.underlying25 rfl (by kernel_rfl)) rfl ?_
                rw [HRR.out]
                have hN := HNB.out
                have hW := HW9.out.moved (w1 := (w9.setCell ⟨w.heap.size + 1, 0, none⟩ (.int .i64 t'.rt)).setCell ⟨w.heap.size + 1, 1, none⟩ (.slice A t'.ns.length c)) (by rw [Below.heap_setCell _ _ _ _ (by show g ≠ w.heap.size + 1; omega), Below.heap_setCell _ _ _ _ (by show g ≠ w.heap.size + 1; omega)]) (by rw [Below.heap_setCell _ _ _ _ (by show b ≠ w.heap.size + 1; omega), Below.heap_setCell _ _ _ _ (by show b ≠ w.heap.size + 1; omega)])
                exact ⟨_, rfl, hW.toR TE0.out HGN.out.2, Below.setCell (Below.setCell HB9.out (p := ⟨w.heap.size + 1, 0, none⟩) (by show w.heap.size ≤ w.heap.size + 1; omega) _) (p := ⟨w.heap.size + 1, 1, none⟩) (by show w.heap.size ≤ w.heap.size + 1; omega) _⟩
end Go.Proofs.YtnkhnnojdlgfjaaDoor.Tm
