/- Parts of the proof, joined: Tm12. -/
import Derived.Test.YtnkhnnojdlgfjaaDoorUF15
namespace Go.Proofs.YtnkhnnojdlgfjaaDoor.Tm
open Go.RowKit Go Go.Proofs Go.Proofs.YtnkhnnojdlgfjaaDoor Go.Proofs.YtnkhnnojdlgfjaaDoor.Tr Go.Proofs.YtnkhnnojdlgfjaaDoor.Tk Go.Proofs.YtnkhnnojdlgfjaaDoorW.PrintWords Go.Proofs.YtnkhnnojdlgfjaaDoorW.PrintLast Go.Proofs.YtnkhnnojdlgfjaaDoorW.PrintMore
set_option linter.unusedVariables false
set_option linter.unusedSimpArgs false
theorem results_ct {P : Program} {fn : Func} {p q : Tmp} {ty : TypeId} (h : fn.results = #[.cell p ty, .tmp q]) (tmps : Array Value) (w : World) (g : Nat) (t : TypeId) (cs : Array Value) (fr : Nat × Nat) (d : TypeDesc)
    (hp : tmps.getD p undef = .pointer (some ⟨g, 0, none⟩)) (hg : w.heap[g]? = some (.cells cs t fr))
    (hu : P.underlying ty = some d) (hd : (match d with | .struct _ | .array _ _ => true | _ => false) = true) (hi : (P.info? ty).map (·.size) = some cs.size) :
    (results fn tmps).run P w = .ok (.tuple #[.agg cs, tmps.getD q undef]) w := by
  have hp' : tmps[p]?.getD undef = .pointer (some ⟨g, 0, none⟩) := by simpa using hp
  simp [results, h, hp', asAddr, run_loadVar_row w g t ty cs fr d hg hu hd hi]
theorem lay_ok {t : St} : ∀ {a : T} {u : Int}, Lay t a (some u) → u < t.ns.length → ∀ z ∈ a.ids, (gn t z).l < t.ns.length ∧ (gn t z).r < t.ns.length ∧ (gn t z).u < t.ns.length
  | .E, _, _, _, z, hz => by cases hz
  | .B c l x r, u, ⟨h1, h2, h3, h4, h5, h6, h7, h8⟩, hu, z, hz => by
    have hx : (x : Int) < (t.ns.length : Int) := by omega
    rcases List.mem_append.1 hz with h | h
    · exact lay_ok h7 hx z h
    · rcases List.mem_cons.1 h with rfl | h
      · exact ⟨by rw [h4]; exact rt_ltI h7.loose, by rw [h5]; exact rt_ltI h8.loose, by rw [h6 u rfl]; exact hu⟩
      · exact lay_ok h8 hx z h
theorem Whole.ok {t : St} {a : T} (h : Whole t a) : Ok t := by
  refine ⟨fun z => ?_, by rw [h.rt]; exact rt_ltI h.lay.loose⟩
  by_cases hz : z ∈ a.ids
  · exact lay_ok h.lay (by omega) z hz
  · have he : gn t z = emp := by
      by_cases hl : z < t.ns.length
      · exact h.out z hl hz
      · unfold gn
        rw [List.getD_eq_getElem?_getD, List.getElem?_eq_none (by omega)]; rfl
    rw [he]
    show (-1 : Int) < _ ∧ (-1 : Int) < _ ∧ (-1 : Int) < _
    omega
variable {w : World} {t : St}
theorem right_whole {mn : Int} (h : rightA t mn = true) : ∃ a, ordA t = some a ∧ Whole t a ∧ t.ns.length ≤ 64 := by
  cases hO : ordA t with
  | none => rw [rightA_none mn hO] at h; cases h
  | some a => exact ⟨a, rfl, (ordA_iff.1 hO).2, (ordA_iff.1 hO).1⟩
theorem right_ok {mn : Int} (h : rightA t mn = true) : Ok t := by
  obtain ⟨a, _, h2, _⟩ := right_whole h
  exact h2.ok
def newN (v : Int) : Nd := ⟨true, true, v, -1, -1, -1⟩
def ltA (t : St) (mn : Int) (k : K) (x : Nat) : Bool := decide (cvf mn k ((gn t x).v, (x : Int)) < 0)
def insA (t : St) (mn : Int) (k : K) : Option (St × Int) :=
  if rightA t mn = false then some (⟨[], 0⟩, 4)
  else if k.2 < 0 ∨ (t.ns.length : Int) ≤ k.2 ∨ (gn t k.2.toNat).inn = true then some (⟨[], 0⟩, 1)
  else match downA (t.ns.length + 2) t (ltA t mn k) t.rt (-1) false with
    | none => none
    | some (up, s) => match mendA (t.ns.length + 2) (hangA (sn t k.2.toNat (newN k.1)) up s k.2) k.2 with
      | none => none
      | some t' => some (t', 0)
structure TPost (w : World) (r : St × Int) (e : Ending) (w' : World) : Prop where mk ::
  out : ∃ v, e = .returned (.tuple #[.agg #[.int .i64 r.1.rt, v], .int .i64 r.2]) ∧ kn.R 74 w' w.heap.size (fun _ => True) v r.1.ns ∧ Below w.heap.size w w'
theorem TPost.nil {w w' : World} {n : Int} (hb : Below w.heap.size w w') : TPost w (⟨[], 0⟩, n) (.returned (.tuple #[.agg #[.int .i64 0, .slice none 0 0], .int .i64 n])) w' := ⟨_, rfl, Kd.R_nil _ _ _ _ _, hb⟩
theorem Wk.toR {A : Option Addr} {c g b N : Nat} (h : Wk A c w g b t) (h0 : 0 < t.ns.length) (hb : N ≤ b) : kn.R 74 w N (fun _ => True) (.slice A t.ns.length c) t.ns := by
  obtain ⟨rfl, cur, rs, h1, h2⟩ := h.nodes h0
  obtain ⟨c1, c2, c3⟩ := h.cap h0
  have hs := c3 cur h1
  refine arr_R h1 h2 hb trivial c1 c2 ?_
  rw [← Array.length_toList, h2, List.length_append, flat_length] at hs
  exact hs
theorem set2 {w : World} {g : Nat} {cs : Array Value} {ty : TypeId} (h : w.heap[g]? = some (.cells cs ty (0, 0))) (hs : cs.size = 2) (u v : Value) : ((w.setCell ⟨g, 0, none⟩ u).setCell ⟨g, 1, none⟩ v).heap[g]? = some (.cells #[u, v] ty (0, 0)) := by
  rw [blk_set (blk_set h 0 u) 1 v]
  obtain ⟨l⟩ := cs
  match l, hs with
  | [a, b], _ => rfl
set_option maxHeartbeats 8000000 in
set_option maxRecDepth 100000 in
theorem First_ (A0 : Option Addr) (c0 : Nat) (hr : kn.C w A0 t.ns.length t.ns) (hl : t.ns.length ≤ 1000000) (hT : Emp w) :
    Calls Tryd.prog 34 #[.agg #[.int .i64 t.rt, .slice A0 t.ns.length c0]] w fun e w' => e = .returned (.tuple #[.agg #[.int .u64 ((walkA t).getD 0 (0, 0)).1, .int .i64 ((walkA t).getD 0 (0, 0)).2], .bool (decide (0 < (walkA t).length))]) ∧ Below w.heap.size w w' := by
  have HB1 := Aside0.mk (below_alloc (below_alloc (Below.refl w.heap.size w) (.cells #[.int .i64 t.rt, .slice A0 t.ns.length c0] 25)) (.cells #[.int .u64 0, .int .i64 0] 47))
  have HZ : Aside0 (((w.alloc (.cells #[.int .i64 t.rt, .slice A0 t.ns.length c0] 25)).alloc (.cells #[.int .u64 0, .int .i64 0] 47)).heap[w.heap.size + 1]? = some (.cells #[.int .u64 0, .int .i64 0] 47 (0, 0))) := ⟨by have := blk_new (w.alloc (.cells #[.int .i64 t.rt, .slice A0 t.ns.length c0] 25)) (.cells #[.int .u64 0, .int .i64 0] 47); simpa using this⟩
  have HR := Aside0.mk hr
  have HL := Aside0.mk hl
  have HT1 := Aside0.mk (hT.below HB1.out)
  clear hr hl hT
  go_enter Tryd.func34, Tryd.ntmps34
  go_upto_region 2 with (go_at_call 58; refine (Walk_ A0 c0 (Kd.C_below HR.out HB1.out) HL.out HT1.out).mono ?_; rintro e w6 ⟨v, rfl, hR6, hB6⟩; obtain ⟨A6, c6, hv6, hlc6, hC6⟩ := Kd.R_reads hR6; subst hv6; have HC6 := Aside0.mk hC6; have HB6 := Aside0.mk (below_step HB1.out hB6); have HZ6 := Aside0.mk (blk_below HZ.out hB6); clear hR6 hB6 hC6 hlc6)
  have f0 := blk_frozen HZ6.out 0
  have f1 := blk_frozen HZ6.out 1
  have c3 := (show w6.cell? ⟨w.heap.size + 1, 0, none⟩ = some (.int .u64 0) from (blk_cell HZ6.out 0).trans rfl)
  have c4 := (show w6.cell? ⟨w.heap.size + 1, 1, none⟩ = some (.int .i64 0) from (blk_cell HZ6.out 1).trans rfl)
  obtain ⟨x, hx⟩ : ∃ x, x = (walkA t).getD 0 (0, 0) := ⟨_, rfl⟩
  obtain ⟨n, hn⟩ : ∃ n, n = (walkA t).length := ⟨_, rfl⟩
  have HX := Aside0.mk hx.symm
  have HNL := Aside0.mk hn.symm
  have HBX := Aside0.mk (show Below w.heap.size w ((w6.setCell ⟨w.heap.size + 1, 0, none⟩ (.int .u64 x.1)).setCell ⟨w.heap.size + 1, 1, none⟩ (.int .i64 x.2)) from Below.setCell (Below.setCell HB6.out (p := ⟨w.heap.size + 1, 0, none⟩) (by simp) _) (p := ⟨w.heap.size + 1, 1, none⟩) (by simp) _)
  rcases Nat.eq_zero_or_pos n with h0 | h0
  · have hd : decide ((0 : Int) < ((walkA t).length : Int)) = false := decide_eq_false (by omega)
    have hd2 : ¬ (0 : Int) < ((walkA t).length : Int) := by omega
    have hd3 : (walkA t).length = 0 := by omega
    rw [hd3]
    have hx0 : x = (0, 0) := by rw [hx, List.eq_nil_of_length_eq_zero (hn.symm.trans h0)]; rfl
    have HX0 := Aside0.mk hx0
    clear hx hn hx0
    go_wp2
    refine bodyPost_ret (results_ct (cs := #[.int .u64 0, .int .i64 0]) rfl _ _ (w.heap.size + 1) 47 (0, 0) _ rfl (set2 HZ6.out rfl _ _) Tryd.underlying47 rfl (by kernel_rfl)) rfl ?_
    refine ⟨?_, by have := HBX.out; rw [HX0.out] at this; exact this⟩
    rfl
  · have hd : (0 : Int) < ((walkA t).length : Int) := by omega
    obtain ⟨ad, e1, d0, d1⟩ := Tk.C_at HC6.out 0 (by omega)
    subst e1
    have ex : Tk.gt (walkA t) 0 = x := hx.symm
    rw [ex] at d0 d1
    simp only [Nat.zero_mul, Addr.add_zero'] at d0 d1
    clear hx hn ex
    go_wp2
    refine bodyPost_ret (results_ct (cs := #[.int .u64 x.1, .int .i64 x.2]) rfl _ _ (w.heap.size + 1) 47 (0, 0) _ rfl (set2 HZ6.out rfl _ _) Tryd.underlying47 rfl (by kernel_rfl)) rfl ?_
    refine ⟨?_, HBX.out⟩
    rw [HX.out, HNL.out, decide_eq_true h0]
    rfl
theorem Wk.setAll {A : Option Addr} {c g b : Nat} (h : Wk A c w g b t) (x : Nat) (hx : x < t.ns.length) (y : Nd) :
    Wk A c ((((((w.setCell ⟨b, x * 6, none⟩ (.bool y.inn)).setCell ⟨b, x * 6 + 1, none⟩ (.bool y.red)).setCell ⟨b, x * 6 + 2, none⟩ (.int .u64 y.v)).setCell ⟨b, x * 6 + 3, none⟩ (.int .i64 y.l)).setCell ⟨b, x * 6 + 4, none⟩ (.int .i64 y.r)).setCell ⟨b, x * 6 + 5, none⟩ (.int .i64 y.u)) g b (sn t x y) := by
  have e : ∀ n : Nd, gn (sn t x n) x = n := fun n => by rw [gn_sn _ _ _ _ hx, if_pos rfl]
  have ss : ∀ n m : Nd, sn (sn t x n) x m = sn t x m := fun n m => by unfold sn; rw [List.set_set]
  have k0 := h.set x 0 { gn t x with inn := y.inn } (.bool y.inn) hx (by omega) rfl
  have k1 := k0.set x 1 { gn t x with inn := y.inn, red := y.red } (.bool y.red) (by rw [sn_len]; exact hx) (by omega) (by rw [e]; rfl)
  rw [ss] at k1
  have k2 := k1.set x 2 { gn t x with inn := y.inn, red := y.red, v := y.v } (.int .u64 y.v) (by rw [sn_len]; exact hx) (by omega) (by rw [e]; rfl)
  rw [ss] at k2
  have k3 := k2.set x 3 { gn t x with inn := y.inn, red := y.red, v := y.v, l := y.l } (.int .i64 y.l) (by rw [sn_len]; exact hx) (by omega) (by rw [e]; rfl)
  rw [ss] at k3
  have k4 := k3.set x 4 { gn t x with inn := y.inn, red := y.red, v := y.v, l := y.l, r := y.r } (.int .i64 y.r) (by rw [sn_len]; exact hx) (by omega) (by rw [e]; rfl)
  rw [ss] at k4
  have k5 := k4.set x 5 y (.int .i64 y.u) (by rw [sn_len]; exact hx) (by omega) (by rw [e]; rfl)
  rw [ss] at k5
  exact k5
theorem mend_len : ∀ (k : Nat) {t t' : St} {x : Int}, mendA k t x = some t' → t'.ns.length = t.ns.length
  | 0, t, t', x, h => by cases h
  | k + 1, t, t', x, h => by
    rw [mendA] at h
    split at h
    · split at h
      · split at h
        · rw [mend_len k h, paint_len, paint_len, paint_len]
        · split at h
          · unfold turnK at h
            split at h
            · rw [mend_len k h, turn_len, paint_len, paint_len]
            · cases h
          · split at h
            · unfold turnK at h
              split at h
              · rw [mend_len k h, turn_len, paint_len, paint_len, turn_len]
              · cases h
            · cases h
      · cases h
    · rw [← Option.some.inj h, paint_len]
structure DRel (A : Option Addr) (c g b : Nat) (t : St) (wq : World) (lt : Nat → Bool) (res : Int × Bool) (vu vs vx : Value) (wr : World) (k : Nat) : Prop where mk ::
  out : ∃ (up : Int) (s : Bool) (x : Int), vu = .int .i64 up ∧ vs = .int .i64 (sd s) ∧ vx = .int .i64 x ∧ up < t.ns.length ∧ x < t.ns.length ∧ downA k t lt x up s = some res ∧ Below wq.heap.size wq wr
structure DRl (A : Option Addr) (c g b : Nat) (t : St) (wq : World) (lt : Nat → Bool) (res : Int × Bool) (vu vs vx : Value) (wr : World) : Prop where mk ::
  out : ∃ k, DRel A c g b t wq lt res vu vs vx wr k
set_option maxHeartbeats 16000000 in
set_option maxRecDepth 100000 in
theorem Insert_ (A0 : Option Addr) (c0 : Nat) (mn : Int) (kk : K) (r : St × Int) (hr : kn.C w A0 t.ns.length t.ns) (hl : t.ns.length ≤ 1000000) (hT : Emp w) (hf : insA t mn kk = some r) :
    Calls Tryd.prog 29 #[.agg #[.int .i64 t.rt, .slice A0 t.ns.length c0], .int .u64 mn, .agg #[.int .u64 kk.1, .int .i64 kk.2]] w fun e w' => TPost w r e w' := by
  have HR := Aside0.mk hr
  have HL := Aside0.mk hl
  have HT := Aside0.mk hT
  have HF := Aside0.mk hf
  clear hr hl hT hf
  obtain ⟨kv, ki⟩ := kk
  simp only at HF ⊢
  go_enter Tryd.func29, Tryd.ntmps29
  go_upto_region 1 with (fail)
  have HB1 := Aside0.mk (below_alloc (below_alloc (below_alloc (Below.refl w.heap.size w) (.cells #[.int .i64 t.rt, .slice A0 t.ns.length c0] 25)) (.cells #[.int .u64 kv, .int .i64 ki] 47)) (.cells #[.int .i64 0, .slice none 0 0] 25))
  have H1 := blk_new w (.cells #[.int .i64 t.rt, .slice A0 t.ns.length c0] 25)
  have H2 := blk_new (w.alloc (.cells #[.int .i64 t.rt, .slice A0 t.ns.length c0] 25)) (.cells #[.int .u64 kv, .int .i64 ki] 47)
  have H3 := blk_new ((w.alloc (.cells #[.int .i64 t.rt, .slice A0 t.ns.length c0] 25)).alloc (.cells #[.int .u64 kv, .int .i64 ki] 47)) (.cells #[.int .i64 0, .slice none 0 0] 25)
  have HX1 := Aside0.mk (blk_below (blk_below H1 (below_alloc (Below.refl _ _) (.cells #[.int .u64 kv, .int .i64 ki] 47))) (below_alloc (Below.refl _ _) (.cells #[.int .i64 0, .slice none 0 0] 25)))
  have HY1 := Aside0.mk (blk_below H2 (below_alloc (Below.refl _ _) (.cells #[.int .i64 0, .slice none 0 0] 25)))
  have HZ1 := Aside0.mk H3
  clear H1 H2 H3
  simp only [World.size_alloc] at HY1 HZ1
  have HS1 := Aside0.mk (show (((w.alloc (.cells #[.int .i64 t.rt, .slice A0 t.ns.length c0] 25)).alloc (.cells #[.int .u64 kv, .int .i64 ki] 47)).alloc (.cells #[.int .i64 0, .slice none 0 0] 25)).heap.size = w.heap.size + 1 + 1 + 1 by simp)
  generalize ((w.alloc (.cells #[.int .i64 t.rt, .slice A0 t.ns.length c0] 25)).alloc (.cells #[.int .u64 kv, .int .i64 ki] 47)).alloc (.cells #[.int .i64 0, .slice none 0 0] 25) = W1 at HB1 HX1 HY1 HZ1 HS1 ⊢
  have HT1 := Aside0.mk (HT.out.below HB1.out)
  have a0 := (show W1.cell? ⟨w.heap.size, 0, none⟩ = some (.int .i64 t.rt) from (blk_cell HX1.out 0).trans rfl)
  have a1 := (show W1.cell? ⟨w.heap.size, 1, none⟩ = some (.slice A0 t.ns.length c0) from (blk_cell HX1.out 1).trans rfl)
  -- the boxes behind a step
  have stepBox := fun (w2 : World) (hb : Below W1.heap.size W1 w2) => And.intro (blk_below HX1.out hb) (And.intro (blk_below HY1.out hb) (And.intro (blk_below HZ1.out hb) (And.intro (below_step HB1.out hb) (HT1.out.below hb))))
  have SB := Aside0.mk stepBox
  clear stepBox
  have nilEnd := fun (w2 : World) (hz : w2.heap[w.heap.size + 1 + 1]? = some (.cells #[.int .i64 0, .slice none 0 0] 25 (0, 0))) (hb : Below w.heap.size w w2) (n : Int) => (show TPost w (⟨[], 0⟩, n) (.returned (.tuple #[.agg #[.int .i64 0, .slice none 0 0], .int .i64 n])) ((w2.setCell ⟨w.heap.size + 1 + 1, 0, none⟩ (.int .i64 0)).setCell ⟨w.heap.size + 1 + 1, 1, none⟩ (.slice none 0 0)) from
    TPost.nil (Below.setCell (Below.setCell hb (p := ⟨w.heap.size + 1 + 1, 0, none⟩) (by show w.heap.size ≤ w.heap.size + 1 + 1; omega) _) (p := ⟨w.heap.size + 1 + 1, 1, none⟩) (by show w.heap.size ≤ w.heap.size + 1 + 1; omega) _))
  have NE := Aside0.mk nilEnd
  clear nilEnd
  cases hri : rightA t mn with
  | false =>
    have hF := HF.out
    rw [insA, hri, if_pos rfl] at hF
    obtain rfl := Option.some.inj hF
    have HRI := Aside0.mk hri
    clear hF hri HF
    go_upto_region 2 with (go_at_call 47; refine (Right_ A0 c0 mn (Kd.C_below HR.out HB1.out) HL.out HT1.out).mono ?_; rintro e w2 ⟨rfl, hB⟩; have HB2 := Aside0.mk hB; clear hB; rw [HRI.out])
    obtain ⟨x2, y2, z2, b2, t2⟩ := SB.out _ HB2.out
    have HZ2 := Aside0.mk z2
    have HBW := Aside0.mk b2
    have f0 := blk_frozen z2 0
    have f1 := blk_frozen z2 1
    have c3 := (show w2.cell? ⟨w.heap.size + 1 + 1, 0, none⟩ = some (.int .i64 0) from (blk_cell z2 0).trans rfl)
    have c4 := (show w2.cell? ⟨w.heap.size + 1 + 1, 1, none⟩ = some (.slice none 0 0) from (blk_cell z2 1).trans rfl)
    clear x2 y2 z2 b2 t2
    go_wp2
    refine bodyPost_ret (results_ct (cs := #[.int .i64 0, .slice none 0 0]) rfl _ _ (w.heap.size + 1 + 1) 25 (0, 0) _ rfl (set2 HZ2.out rfl _ _) Tryd.underlying25 rfl (by kernel_rfl)) rfl ?_
    exact NE.out _ HZ2.out HBW.out 4
  | true =>
    have HRI := Aside0.mk hri
    have HOK := Aside0.mk (right_ok hri)
    have hF := HF.out
    rw [insA, hri, if_neg (by simp)] at hF
    have HF2 := Aside0.mk hF
    clear hF hri HF
    go_upto_region 3 with (go_at_call 47; refine (Right_ A0 c0 mn (Kd.C_below HR.out HB1.out) HL.out HT1.out).mono ?_; rintro e w2 ⟨rfl, hB⟩; have HB2 := Aside0.mk hB; clear hB; rw [HRI.out])
    obtain ⟨x2, y2, z2, b2, t2⟩ := SB.out _ HB2.out
    have HX2 := Aside0.mk x2
    have HY2 := Aside0.mk y2
    have HZ2 := Aside0.mk z2
    have HBW := Aside0.mk b2
    have HT2 := Aside0.mk t2
    have f0 := blk_frozen z2 0
    have f1 := blk_frozen z2 1
    have c3 := (show w2.cell? ⟨w.heap.size + 1 + 1, 0, none⟩ = some (.int .i64 0) from (blk_cell z2 0).trans rfl)
    have c4 := (show w2.cell? ⟨w.heap.size + 1 + 1, 1, none⟩ = some (.slice none 0 0) from (blk_cell z2 1).trans rfl)
    have a2 := (show w2.cell? ⟨w.heap.size, 0, none⟩ = some (.int .i64 t.rt) from (blk_cell x2 0).trans rfl)
    have a3 := (show w2.cell? ⟨w.heap.size, 1, none⟩ = some (.slice A0 t.ns.length c0) from (blk_cell x2 1).trans rfl)
    have k0 := (show w2.cell? ⟨w.heap.size + 1, 0, none⟩ = some (.int .u64 kv) from (blk_cell y2 0).trans rfl)
    have k1 := (show w2.cell? ⟨w.heap.size + 1, 1, none⟩ = some (.int .i64 ki) from (blk_cell y2 1).trans rfl)
    clear x2 y2 z2 b2 t2 a0 a1
    by_cases hbad : ki < 0 ∨ (t.ns.length : Int) ≤ ki ∨ (gn t ki.toNat).inn = true
    · have hF := HF2.out
      rw [if_pos hbad] at hF
      obtain rfl := Option.some.inj hF
      clear hF HF2
      by_cases b1 : ki < 0
      · clear hbad
        go_wp2
        refine bodyPost_ret (results_ct (cs := #[.int .i64 0, .slice none 0 0]) rfl _ _ (w.heap.size + 1 + 1) 25 (0, 0) _ rfl (set2 HZ2.out rfl _ _) Tryd.underlying25 rfl (by kernel_rfl)) rfl ?_
        exact NE.out _ HZ2.out HBW.out 1
      by_cases b2 : (t.ns.length : Int) ≤ ki
      · clear hbad
        have b11 : decide (ki < 0) = false := decide_eq_false b1
        go_wp2
        refine bodyPost_ret (results_ct (cs := #[.int .i64 0, .slice none 0 0]) rfl _ _ (w.heap.size + 1 + 1) 25 (0, 0) _ rfl (set2 HZ2.out rfl _ _) Tryd.underlying25 rfl (by kernel_rfl)) rfl ?_
        exact NE.out _ HZ2.out HBW.out 1
      have b3 := hbad.resolve_left b1 |>.resolve_left b2
      have b11 : decide (ki < 0) = false := decide_eq_false b1
      have b12 : decide ((t.ns.length : Int) ≤ ki) = false := decide_eq_false b2
      obtain ⟨ad, e1, d0, _⟩ := kn_at (Kd.C_below HR.out HBW.out) ki (by omega) (by omega)
      subst e1
      rw [show (t.ns.getD ki.toNat emp).inn = true from b3] at d0
      clear hbad b3
      have g1 : 0 ≤ ki := by omega
      have g2 : ki < (t.ns.length : Int) := by omega
      go_wp2
      refine bodyPost_ret (results_ct (cs := #[.int .i64 0, .slice none 0 0]) rfl _ _ (w.heap.size + 1 + 1) 25 (0, 0) _ rfl (set2 HZ2.out rfl _ _) Tryd.underlying25 rfl (by kernel_rfl)) rfl ?_
      exact NE.out _ HZ2.out HBW.out 1
    · have hF := HF2.out
      rw [if_neg hbad] at hF
      simp only [not_or] at hbad
      obtain ⟨b1, b2, b3⟩ := hbad
      have HF3 := Aside0.mk hF
      clear hF HF2
      have b11 : decide (ki < 0) = false := decide_eq_false b1
      have b12 : decide ((t.ns.length : Int) ≤ ki) = false := decide_eq_false b2
      have g1 : 0 ≤ ki := by omega
      have g2 : ki < (t.ns.length : Int) := by omega
      have HCW := Aside0.mk (Kd.C_below HR.out HBW.out)
      have HLT2 := Aside0.mk (show w.heap.size + 1 + 1 < w2.heap.size from (Array.getElem?_eq_some_iff.1 HZ2.out).1)
      obtain ⟨ad, e1, d0, _⟩ := kn_at HCW.out ki g1 g2
      subst e1
      rw [show (t.ns.getD ki.toNat emp).inn = false from (show (gn t ki.toNat).inn = false by simpa using b3)] at d0
      clear b3
      go_upto_region 6 with (go_at_call 52; refine (begin_ (some ad) c0 t _ HCW.out HL.out).mono ?_; rintro e wq ⟨A, c, g, b, rfl, hW, hg, hb, hB, hc, hn⟩; have HW3 := Aside0.mk hW; have HX3 := Aside0.mk (blk_below HX2.out hB); have HY3 := Aside0.mk (blk_below HY2.out hB); have HZ3 := Aside0.mk (blk_below HZ2.out hB); have HBW3 := Aside0.mk (below_step HBW.out hB); have HT3 := Aside0.mk (HT2.out.below hB); have HG3 := Aside0.mk hg; have HBB3 := Aside0.mk hb; clear hW hg hb hB hc hn)
      clear a2 a3 c3 c4 f0 f1 k0 k1 d0
      obtain ⟨dres, hdn, hF4⟩ : ∃ dres, downA (t.ns.length + 2) t (ltA t mn (kv, ki)) t.rt (-1) false = some dres ∧ (match mendA (t.ns.length + 2) (hangA (sn t ki.toNat (newN kv)) dres.1 dres.2 ki) ki with | none => none | some t' => some (t', (0 : Int))) = some r := by
        have h := HF3.out
        cases hd : downA (t.ns.length + 2) t (ltA t mn (kv, ki)) t.rt (-1) false with
        | none => rw [hd] at h; cases h
        | some d => rw [hd] at h; exact ⟨d, rfl, h⟩
      obtain ⟨t', hm, hr'⟩ : ∃ t', mendA (t.ns.length + 2) (hangA (sn t ki.toNat (newN kv)) dres.1 dres.2 ki) ki = some t' ∧ r = (t', 0) := by
        cases hd : mendA (t.ns.length + 2) (hangA (sn t ki.toNat (newN kv)) dres.1 dres.2 ki) ki with
        | none => rw [hd] at hF4; cases hF4
        | some t' => rw [hd] at hF4; exact ⟨t', rfl, (Option.some.inj hF4).symm⟩
      have HDN := Aside0.mk hdn
      have HMD := Aside0.mk hm
      have HRR := Aside0.mk hr'
      clear hdn hF4 hm hr' HF3
      have c1 := HW3.out.c1
      have HBR := Aside0.mk (Below.refl wq.heap.size wq)
      go_upto_region 8 with (fail)
      go_loopw [9, 10, 11] (fun vu vs vx wr => DRl A c g b t wq (ltA t mn (kv, ki)) dres vu vs vx wr) (fun vu vs vx wr => least (DRel A c g b t wq (ltA t mn (kv, ki)) dres vu vs vx wr))
      case atStart => exact ⟨t.ns.length + 2, -1, false, t.rt, rfl, rfl, rfl, by omega, HOK.out.rt, HDN.out, HBR.out⟩
      case round =>
        clear HBR c1
        have HRq := least_of hrel.out
        obtain ⟨hR1, hR2⟩ := HRq
        have HLq := Aside0.mk hR2
        generalize hlk : least _ = lk at hR1 HLq ⊢
        obtain ⟨up, s, x, rfl, rfl, rfl, hup, hx, hdn, hB⟩ := hR1.out
        obtain ⟨m, rfl⟩ : ∃ m, lk = m + 1 := by
          cases lk with
          | zero => simp [downA] at hdn
          | succ m => exact ⟨m, rfl⟩
        rw [downA] at hdn
        have HW5 := Aside0.mk (HW3.out.below hB)
        have HB5 := Aside0.mk hB
        have HY5 := Aside0.mk (blk_below HY3.out hB)
        have HUP := Aside0.mk hup
        have HX5 := Aside0.mk hx
        clear hR2 hrel hR1 HLq hB hup
        by_cases hx0 : 0 ≤ x
        · rw [if_pos hx0] at hdn
          have HD5 := Aside0.mk hdn
          have H05 := Aside0.mk hx0
          have c0 := HW5.out.c0
          rw [HW5.out.addr (by omega)] at c0
          have d2 := HW5.out.fv x hx0 hx
          have k0 := (show wr.cell? ⟨w.heap.size + 1, 0, none⟩ = some (.int .u64 kv) from (blk_cell HY5.out 0).trans rfl)
          have k1 := (show wr.cell? ⟨w.heap.size + 1, 1, none⟩ = some (.int .i64 ki) from (blk_cell HY5.out 1).trans rfl)
          clear hdn
          have HLT := Aside0.mk (show decide (cvf mn (kv, ki) ((gn t x.toNat).v, x) < 0) = ltA t mn (kv, ki) x.toNat by unfold ltA; rw [show ((x.toNat : Nat) : Int) = x by omega])
          have HBD := Aside0.mk (Below.drew HB5.out)
          have fin := fun (ww : World) (hb : Below wq.heap.size wq ww) (lt : Bool) (hd : downA m t (ltA t mn (kv, ki)) (kidA t x (!lt)) x (!lt) = some dres) => (show DRel A c g b t wq (ltA t mn (kv, ki)) dres (Value.int IntKind.i64 x) (Value.int IntKind.i64 (sd (!lt))) (Value.int IntKind.i64 (kidA t x (!lt))) ww m from ⟨x, !lt, kidA t x (!lt), rfl, rfl, rfl, HX5.out, HOK.out.kid _ _, hd, hb⟩)
          have FIN := Aside0.mk fin
          clear fin
          cases hlt : ltA t mn (kv, ki) x.toNat with
          | true =>
            rw [hlt] at HD5 HLT
            have hnt : (!true) = false := rfl
            rw [hnt] at HD5
            clear hlt
            go_upto_region 11 with (fail)
            go_region_with (go_at_call 41; refine (keyLess (cmp26 mn) (kv, ki) ((gn t x.toNat).v, x) _).mono ?_; rintro e w6 ⟨rfl, hb⟩; have HB6 := Aside0.mk (below_step HBD.out hb); clear hb; rw [HLT.out])
            all_goals
              go_wp2_with (go_at_call 53; refine (kid_v (HW3.out.below HB6.out) x H05.out HX5.out false 0 rfl _ rfl).mono ?_; rintro e w7 ⟨rfl, rfl⟩)
              have hq := FIN.out _ HB6.out true HD5.out
              refine ⟨⟨m, hq⟩, ?_⟩
              have h3 := (least_of ⟨m, hq⟩).2 m hq
              exact Nat.lt_of_le_of_lt h3 (by rw [hlk]; omega)
          | false =>
            rw [hlt] at HD5 HLT
            have hnt : (!false) = true := rfl
            rw [hnt] at HD5
            clear hlt
            go_upto_region 11 with (fail)
            go_region_with (go_at_call 41; refine (keyLess (cmp26 mn) (kv, ki) ((gn t x.toNat).v, x) _).mono ?_; rintro e w6 ⟨rfl, hb⟩; have HB6 := Aside0.mk (below_step HBD.out hb); clear hb; rw [HLT.out])
            all_goals
              go_wp2_with (go_at_call 53; refine (kid_v (HW3.out.below HB6.out) x H05.out HX5.out true 1 rfl _ rfl).mono ?_; rintro e w7 ⟨rfl, rfl⟩)
              have hq := FIN.out _ HB6.out false HD5.out
              refine ⟨⟨m, hq⟩, ?_⟩
              have h3 := (least_of ⟨m, hq⟩).2 m hq
              exact Nat.lt_of_le_of_lt h3 (by rw [hlk]; omega)
        · rw [if_neg hx0] at hdn
          obtain rfl := Option.some.inj hdn
          clear hdn
          have hxd : decide (0 ≤ x) = false := decide_eq_false hx0
          simp only at HMD
          have c0 := HW5.out.c0
          rw [HW5.out.addr (by omega)] at c0
          have HZ5 := Aside0.mk (blk_below HZ3.out HB5.out)
          have k0 := (show wr.cell? ⟨w.heap.size + 1, 0, none⟩ = some (.int .u64 kv) from (blk_cell HY5.out 0).trans rfl)
          have k1 := (show wr.cell? ⟨w.heap.size + 1, 1, none⟩ = some (.int .i64 ki) from (blk_cell HY5.out 1).trans rfl)
          have n0 := HW5.out.fin ki g1 g2
          have n1 := HW5.out.at_ ki.toNat 1 (by omega) (by omega)
          have n2 := HW5.out.fv ki g1 g2
          have n3 := HW5.out.fl ki g1 g2
          have n4 := HW5.out.fr ki g1 g2
          have n5 := HW5.out.fu ki g1 g2
          have m1 : wr.cell? ⟨b, ki.toNat * 6 + 1, none⟩ = some (.bool (gn t ki.toNat).red) := n1
          have q0 := HW5.out.frozenN (by omega) (ki.toNat * 6)
          have q1 := HW5.out.frozenN (by omega) (ki.toNat * 6 + 1)
          have q2 := HW5.out.frozenN (by omega) (ki.toNat * 6 + 2)
          have q3 := HW5.out.frozenN (by omega) (ki.toNat * 6 + 3)
          have q4 := HW5.out.frozenN (by omega) (ki.toNat * 6 + 4)
          have q5 := HW5.out.frozenN (by omega) (ki.toNat * 6 + 5)
          clear n1
          go_upto_region 13 with (fail)
          go_region
          have hW6 := (HW5.out.setAll ki.toNat (by omega) (newN kv)).drew
          have hG6 : Gs g b wr (((((((wr.setCell ⟨b, ki.toNat * 6, none⟩ (.bool true)).setCell ⟨b, ki.toNat * 6 + 1, none⟩ (.bool true)).setCell ⟨b, ki.toNat * 6 + 2, none⟩ (.int .u64 kv)).setCell ⟨b, ki.toNat * 6 + 3, none⟩ (.int .i64 (-1))).setCell ⟨b, ki.toNat * 6 + 4, none⟩ (.int .i64 (-1))).setCell ⟨b, ki.toNat * 6 + 5, none⟩ (.int .i64 (-1))).drew) := ((((((((Gs.refl g b wr).setB _ _).setB _ _).setB _ _).setB _ _).setB _ _).setB _ _).drew)
          have HW6 := Aside0.mk (show Wk A c (((((((wr.setCell ⟨b, ki.toNat * 6, none⟩ (.bool true)).setCell ⟨b, ki.toNat * 6 + 1, none⟩ (.bool true)).setCell ⟨b, ki.toNat * 6 + 2, none⟩ (.int .u64 kv)).setCell ⟨b, ki.toNat * 6 + 3, none⟩ (.int .i64 (-1))).setCell ⟨b, ki.toNat * 6 + 4, none⟩ (.int .i64 (-1))).setCell ⟨b, ki.toNat * 6 + 5, none⟩ (.int .i64 (-1))).drew) g b (sn t ki.toNat (newN kv)) from hW6)
          have HG6 := Aside0.mk hG6
          clear hW6 hG6 n0 n2 n3 n4 n5 m1 q0 q1 q2 q3 q4 q5 k0 k1 c0
          generalize World.drew _ = w6 at HW6 HG6 ⊢
          have HWB := Aside0.mk (show w.heap.size + 1 + 1 < wr.heap.size by have := (Array.getElem?_eq_some_iff.1 HZ5.out).1; exact this)
          have HNB := Aside0.mk (show w.heap.size + 1 + 1 < g ∧ w.heap.size + 1 + 1 < b from by
            have h1 := HG3.out
            have h2 := HBB3.out
            have h3 := HLT2.out
            omega)
          have box := fun (ww : World) (hg : Gs g b wr ww) => And.intro ((hg.block _ (by have := HWB.out; omega) (by have := HNB.out; omega) (by have := HNB.out; omega)).trans HY5.out) ((hg.block _ HWB.out (by have := HNB.out; omega) (by have := HNB.out; omega)).trans HZ5.out)
          have BOX := Aside0.mk box
          clear box
          have y6 := (BOX.out _ HG6.out).1
          have k1 := (show w6.cell? ⟨w.heap.size + 1, 1, none⟩ = some (.int .i64 ki) from (blk_cell y6 1).trans rfl)
          have T1L := Aside0.mk (show (sn t ki.toNat (newN kv)).ns.length = t.ns.length from sn_len _ _ _)
          have T1O := Aside0.mk (show Ok (sn t ki.toNat (newN kv)) from HOK.out.sn _ _ (by omega) (by show (-1 : Int) < _ ∧ (-1 : Int) < _ ∧ (-1 : Int) < _; omega))
          generalize sn t ki.toNat (newN kv) = T1 at HW6 T1L T1O HMD
          have T2L := Aside0.mk (show (hangA T1 up s ki).ns.length = t.ns.length by rw [hang_len]; exact T1L.out)
          have T2O := Aside0.mk (T1O.out.hang up s ki (by rw [T1L.out]; exact HUP.out) (by rw [T1L.out]; exact g2))
          have G2 := Aside0.mk g2
          go_upto_region 15 with (go_at_call 54; refine (hang_ HW6.out up ki s (by rw [T1L.out]; exact HUP.out) (by rw [T1L.out]; exact G2.out)).mono ?_; rintro e w7 ⟨rfl, hW, hG⟩; have HW7 := Aside0.mk hW; have HG7 := Aside0.mk (HG6.out.trans hG); clear hW hG)
          generalize hangA T1 up s ki = T2 at HW7 T2L T2O HMD
          have y7 := (BOX.out _ HG7.out).1
          have k2 := (show w7.cell? ⟨w.heap.size + 1, 1, none⟩ = some (.int .i64 ki) from (blk_cell y7 1).trans rfl)
          have T3L := Aside0.mk (show t'.ns.length = t.ns.length from (mend_len _ HMD.out).trans T2L.out)
          go_upto_region 16 with (go_at_call 55; refine (mend_ HW7.out T2O.out ki (by omega) (by rw [T2L.out]; exact G2.out) _ t' HMD.out).mono ?_; rintro e w8 ⟨rfl, hW, hG⟩; have HW8 := Aside0.mk hW; have HG8 := Aside0.mk (HG7.out.trans hG); clear hW hG)
          have HBR := Aside0.mk (below_step HBW3.out HB5.out)
          have HGN := Aside0.mk (show w.heap.size ≤ g ∧ w.heap.size ≤ b by have := HNB.out; omega)
          have HB8 := Aside0.mk (show Below w.heap.size w w8 from HBR.out.trans (HG8.out.toBelow HGN.out.1 HGN.out.2 HBR.out.size))
          have z8 := (BOX.out _ HG8.out).2
          have HZ8 := Aside0.mk z8
          have T30 := Aside0.mk (show 0 < t'.ns.length by rw [T3L.out]; have := G2.out; omega)
          clear k2 y7 z8 y6 k1
          go_wp2_with (go_at_call 56; refine (tree_ HW8.out).mono ?_; rintro e w9 ⟨rfl, hB⟩; have HW9 := Aside0.mk (HW8.out.below hB); have HB9 := Aside0.mk (below_step HB8.out hB); have HZ9 := Aside0.mk (blk_below HZ8.out hB); clear hB; have z9 := HZ9.out; have f0 := blk_frozen z9 0; have f1 := blk_frozen z9 1; have c3 := (show w9.cell? ⟨w.heap.size + 1 + 1, 0, none⟩ = some (.int .i64 0) from (blk_cell z9 0).trans rfl); have c4 := (show w9.cell? ⟨w.heap.size + 1 + 1, 1, none⟩ = some (.slice none 0 0) from (blk_cell z9 1).trans rfl))
          refine bodyPost_ret (results_ct (cs := #[.int .i64 t'.rt, .slice A t'.ns.length c]) rfl _ _ (w.heap.size + 1 + 1) 25 (0, 0) _ rfl (set2 HZ9.out rfl _ _) Tryd.underlying25 rfl (by kernel_rfl)) rfl ?_
          rw [HRR.out]
          have hN := HNB.out
          have hW := HW9.out.moved (w1 := (w9.setCell ⟨w.heap.size + 1 + 1, 0, none⟩ (.int .i64 t'.rt)).setCell ⟨w.heap.size + 1 + 1, 1, none⟩ (.slice A t'.ns.length c)) (by rw [Below.heap_setCell _ _ _ _ (by show g ≠ w.heap.size + 1 + 1; omega), Below.heap_setCell _ _ _ _ (by show g ≠ w.heap.size + 1 + 1; omega)]) (by rw [Below.heap_setCell _ _ _ _ (by show b ≠ w.heap.size + 1 + 1; omega), Below.heap_setCell _ _ _ _ (by show b ≠ w.heap.size + 1 + 1; omega)])
          exact ⟨_, rfl, hW.toR T30.out HGN.out.2, Below.setCell (Below.setCell HB9.out (p := ⟨w.heap.size + 1 + 1, 0, none⟩) (by show w.heap.size ≤ w.heap.size + 1 + 1; omega) _) (p := ⟨w.heap.size + 1 + 1, 1, none⟩) (by show w.heap.size ≤ w.heap.size + 1 + 1; omega) _⟩
end Go.Proofs.YtnkhnnojdlgfjaaDoor.Tm
