/- Parts of the proof, joined: Tm7. -/
import Derived.Test.YtnkhnnojdlgfjaaDoorUF9
import Derived.Deep.OwnRows
namespace Go.Proofs.YtnkhnnojdlgfjaaDoor.Tm
open Go.RowKit Go Go.Proofs Go.Proofs.YtnkhnnojdlgfjaaDoor Go.Proofs.YtnkhnnojdlgfjaaDoor.Tr Go.Proofs.YtnkhnnojdlgfjaaDoorW.PrintWords Go.Proofs.YtnkhnnojdlgfjaaDoorW.PrintLast Go.Proofs.YtnkhnnojdlgfjaaDoorW.PrintMore
set_option linter.unusedVariables false
set_option linter.unusedSimpArgs false
structure Emp (w : World) : Prop where
  lt : 0 < w.heap.size
  c0 : w.cell? ⟨0, 0, none⟩ = some (.bool false)
  c1 : w.cell? ⟨0, 1, none⟩ = some (.bool false)
  c2 : w.cell? ⟨0, 2, none⟩ = some (.int .u64 0)
  c3 : w.cell? ⟨0, 3, none⟩ = some (.int .i64 (-1))
  c4 : w.cell? ⟨0, 4, none⟩ = some (.int .i64 (-1))
  c5 : w.cell? ⟨0, 5, none⟩ = some (.int .i64 (-1))
theorem Emp.below {w W : World} (h : Emp w) (hb : Below w.heap.size w W) : Emp W :=
  ⟨Nat.lt_of_lt_of_le h.lt hb.size, (hb.cell (p := ⟨0, 0, none⟩) h.lt).trans h.c0, (hb.cell (p := ⟨0, 1, none⟩) h.lt).trans h.c1, (hb.cell (p := ⟨0, 2, none⟩) h.lt).trans h.c2, (hb.cell (p := ⟨0, 3, none⟩) h.lt).trans h.c3, (hb.cell (p := ⟨0, 4, none⟩) h.lt).trans h.c4, (hb.cell (p := ⟨0, 5, none⟩) h.lt).trans h.c5⟩
theorem Emp.drewN {w : World} (h : Emp w) (n : Nat) : Emp (w.drewN n) := ⟨h.lt, h.c0, h.c1, h.c2, h.c3, h.c4, h.c5⟩
theorem eqN (d : Nat) (w : World) (x0 y0 : Bool) (x1 y1 : Bool) (x2 y2 : Int) (x3 y3 : Int) (x4 y4 : Int) (x5 y5 : Int) :
    (Op.equalIn (d + 2) 74 (.agg #[.bool x0, .bool x1, .int .u64 x2, .int .i64 x3, .int .i64 x4, .int .i64 x5]) (.agg #[.bool y0, .bool y1, .int .u64 y2, .int .i64 y3, .int .i64 y4, .int .i64 y5])).run Tryd.prog w = .ok (x0 == y0 && (x1 == y1 && (x2 == y2 && (x3 == y3 && (x4 == y4 && (x5 == y5)))))) w := by
  refine eqA_of Tryd.underlying74 (by kernel_rfl) ?_
  refine eqf_cons (by rfl) (by go_simp; rfl) (by go_simp; rfl) (by go_simp) ?_
  refine eqf_cons (by rfl) (by go_simp; rfl) (by go_simp; rfl) (by go_simp) ?_
  refine eqf_cons (by rfl) (by go_simp; rfl) (by go_simp; rfl) (by go_simp) ?_
  refine eqf_cons (by rfl) (by go_simp; rfl) (by go_simp; rfl) (by go_simp) ?_
  refine eqf_cons (by rfl) (by go_simp; rfl) (by go_simp; rfl) (by go_simp) ?_
  exact eqf_last (by rfl) (by go_simp; rfl) (by go_simp; rfl) (by go_simp)
attribute [local go_sem high] eqN
deriving instance DecidableEq for Tr.Nd
structure Whole (t : St) (a : T) : Prop where
  lay : Lay t a (some (-1))
  rt : t.rt = a.rt
  nd : a.ids.Nodup
  out : ∀ z, z < t.ns.length → z ∉ a.ids → gn t z = emp
def build : Nat → St → Int → Int → Option T
  | 0, _, _, _ => none
  | k + 1, t, x, u => if x = -1 then some .E else
    if 0 ≤ x ∧ x < t.ns.length ∧ (gn t x.toNat).inn = true ∧ (gn t x.toNat).u = u then
      match build k t (gn t x.toNat).l x, build k t (gn t x.toNat).r x with
      | some l, some r => some (.B (gn t x.toNat).red l x.toNat r)
      | _, _ => none
    else none
theorem build_lay {t : St} : ∀ {k : Nat} {x u : Int} {a : T}, build k t x u = some a → Lay t a (some u) ∧ a.rt = x := by
  intro k
  induction k with
  | zero => intro x u a h; cases h
  | succ k ih =>
    intro x u a h
    rw [build] at h
    split at h
    · rename_i hx
      cases h
      exact ⟨trivial, hx.symm⟩
    · split at h
      · rename_i hx
        obtain ⟨h1, h2, h3, h4⟩ := hx
        split at h
        · rename_i l r el er
          cases h
          obtain ⟨l1, l2⟩ := ih el
          obtain ⟨r1, r2⟩ := ih er
          have hxx : ((x.toNat : Nat) : Int) = x := by omega
          exact ⟨⟨by omega, h3, rfl, l2.symm, r2.symm, fun p hp => by rw [← Option.some.inj hp]; exact h4, by rw [hxx]; exact l1, by rw [hxx]; exact r1⟩, hxx⟩
        · cases h
      · cases h
theorem lay_build {t : St} : ∀ {a : T} {k : Nat} {u : Int}, a.size < k → Lay t a (some u) → build k t a.rt u = some a
  | .E, 0, _, h, _ => absurd h (by omega)
  | .E, k + 1, u, _, _ => by rw [build]; exact if_pos rfl
  | .B c l x r, 0, _, h, _ => absurd h (by omega)
  | .B c l x r, k + 1, u, h, ⟨h1, h2, h3, h4, h5, h6, h7, h8⟩ => by
    have hs : l.size + r.size + 1 < k + 1 := h
    rw [build, if_neg (by show ¬ (x : Int) = -1; omega), show (T.B c l x r).rt = (x : Int) from rfl, Int.toNat_natCast, if_pos ⟨by omega, by omega, h2, h6 u rfl⟩, h4, h5, lay_build (by omega) h7, lay_build (by omega) h8, h3]
def wholeA (t : St) : Option T :=
  match build (t.ns.length + 1) t t.rt (-1) with
  | some a => if a.ids.Nodup ∧ ∀ z ∈ List.range t.ns.length, z ∈ a.ids ∨ gn t z = emp then some a else none
  | none => none
theorem wholeA_iff {t : St} {a : T} : wholeA t = some a ↔ Whole t a := by
  constructor
  · intro h
    unfold wholeA at h
    split at h
    · rename_i a' ha
      split at h
      · rename_i hc
        cases h
        obtain ⟨h1, h2⟩ := build_lay ha
        exact ⟨h1, h2.symm, hc.1, fun z hz hn => (hc.2 z (List.mem_range.2 hz)).resolve_left hn⟩
      · cases h
    · cases h
  · intro h
    have hs : a.size < t.ns.length + 1 := by
      rw [← size_ids]
      have := nodup_len h.nd (fun x hx => h.lay.lt x hx)
      omega
    unfold wholeA
    rw [h.rt, lay_build hs h.lay]
    simp only
    rw [if_pos ⟨h.nd, fun z hz => by
      by_cases e : z ∈ a.ids
      · exact Or.inl e
      · exact Or.inr (h.out z (List.mem_range.1 hz) e)⟩]
def ordA (t : St) : Option T := if t.ns.length ≤ 64 then wholeA t else none
theorem ordA_iff {t : St} {a : T} : ordA t = some a ↔ t.ns.length ≤ 64 ∧ Whole t a := by
  unfold ordA
  split
  · rename_i h
    rw [wholeA_iff]
    exact ⟨fun k => ⟨h, k⟩, fun k => k.2⟩
  · rename_i h
    exact ⟨(fun k => by cases k), fun k => absurd k.1 h⟩
structure OPost (w : World) (t : St) (e : Ending) (w' : World) : Prop where mk ::
  below : Below w.heap.size w w'
  no : ordA t = none → e = .returned (.tuple #[.slice none 0 0, .bool false])
  yes : ∀ a, ordA t = some a → ∃ v, e = .returned (.tuple #[v, .bool true]) ∧ (Kd.int .i64).R 3 w' w.heap.size (fun _ => True) v (iz a.ids)
variable {A : Option Addr} {c : Nat} {w : World} {g b : Nat} {t : St}
theorem infoB : (Tryd.prog.info? 4).map (fun i => (i.zero, i.size, i.bytes)) = some (some (.bool false), 1, 1) := by kernel_rfl
set_option maxHeartbeats 16000000 in
set_option maxRecDepth 100000 in
theorem order_ (h : Wk A c w g b t) (hT : Emp w) : Calls Tryd.prog 73 #[.pointer (some ⟨g, 0, none⟩)] w fun e w' => OPost w t e w' := by
  have H := Aside0.mk h
  have HT := Aside0.mk hT
  have c0 := h.c0
  have HL := Aside0.mk h.len
  have hl := h.len
  clear h hT
  by_cases hn : 64 < t.ns.length
  · have hd : (64 : Int) < (t.ns.length : Int) := by omega
    have HO := Aside0.mk (show ordA t = none by unfold ordA; rw [if_neg (by omega)])
    go_enter Tryd.func73, Tryd.ntmps73
    go_wp2
    go_ret2
    exact ⟨Below.refl _ _, fun _ => rfl, fun a h => by rw [HO.out] at h; cases h⟩
  have hd : ¬ (64 : Int) < (t.ns.length : Int) := by omega
  have hdd : decide ((64 : Int) < (t.ns.length : Int)) = false := decide_eq_false hd
  have HN := Aside0.mk hn
  have hmk := run_make_row' (P := Tryd.prog) 126 4 (.bool false) 1 Tryd.underlying126 infoB rfl .i64 .i64 t.ns.length (by omega) (by omega)
  clear hl hn
  go_enter Tryd.func73, Tryd.ntmps73
  go_upto_region 4 with (fail)
  have hB1 := below_alloc (Below.refl w.heap.size w) (.cells #[.slice none 0 0] 26)
  have HB1 := Aside0.mk hB1
  have HO1 := Aside0.mk (show (w.alloc (.cells #[.slice none 0 0] 26)).heap[w.heap.size]? = some (.cells #[.slice none 0 0] 26 (0, 0)) from blk_new w _)
  have HS1 := Aside0.mk (show (w.alloc (.cells #[.slice none 0 0] 26)).heap.size = w.heap.size + 1 by simp)
  clear hB1 c0
  generalize w.alloc (.cells #[.slice none 0 0] 26) = W1 at HB1 HO1 HS1 ⊢
  have c0 := (H.out.below HB1.out).c0
  go_upto_region 5 with (fail)
  have hB2 := below_alloc HB1.out (.cells (madeCells #[.bool false] t.ns.length) 4)
  have S2 := Aside0.mk (show Ws w (W1.alloc (.cells (madeCells #[.bool false] t.ns.length) 4)) (w.heap.size + 1) w.heap.size t.ns.length (fun _ => false) [] from
    ⟨hB2, ⟨madeCells #[.bool false] t.ns.length, by rw [← HS1.out]; exact blk_new W1 _, fun j hj => by rw [← Array.getElem?_toList, toList_madeCells_one, List.getElem?_replicate, if_pos hj]⟩,
      ⟨_, blk_below HO1.out (below_alloc (Below.refl _ _) _), Kd.R_nil _ _ _ _ _⟩, by omega, Nat.le_refl _, by omega⟩)
  rw [HS1.out]
  clear hB2 c0 hmk
  generalize W1.alloc _ = W2 at S2 ⊢
  have c1 := (H.out.at0 S2.out.below).c1
  have hcn : cntM (fun _ => false) t.ns.length ≤ t.ns.length := by
    unfold cntM
    exact Nat.le_trans (List.length_filter_le _ _) (by rw [List.length_range]; exact Nat.le_refl _)
  have HCN := Aside0.mk hcn
  clear hcn
  go_upto_region 7 with (go_at_call 90; refine (walk_ (w.heap.size + 1) w.heap.size t.ns.length H.out (t.ns.length + 1) _ (fun _ => false) [] t.rt (-1) (by have := HCN.out; omega) S2.out (by have := HCN.out; show 0 + _ ≤ _; omega)).mono ?_; rintro e wq ⟨rr, M3, L3, rfl, hS3, hl3, hle3, hres3⟩; have S3 := Aside0.mk hS3; have R3 := Aside0.mk hres3; clear hS3 hl3 hle3 hres3; cases rr)
  · go_ret2
    refine ⟨S3.out.below, fun _ => rfl, fun a ha => ?_⟩
    obtain ⟨h1, h2⟩ := ordA_iff.1 ha
    exact absurd ⟨a, h2.lay, h2.rt.symm, h2.nd, fun z _ => rfl⟩ (R3.out.no rfl)
  obtain ⟨a, a1, a2, a3, a4, a5, a6⟩ := R3.out.yes rfl
  have A1 := Aside0.mk a1
  have A2 := Aside0.mk a2
  have A3 := Aside0.mk a3
  have AM := Aside0.mk (show ∀ z, M3 z = decide (z ∈ a.ids) by intro z; rw [a6]; simp [unM])
  have AL := Aside0.mk (show L3 = iz a.ids by rw [a5]; simp)
  clear a1 a2 a3 a4 a5 a6 R3 c1
  have c0 := (H.out.at0 S3.out.below).c0
  go_upto_region 8 with (fail)
  go_loopw [37] (fun i wr => ∃ k : Nat, k ≤ t.ns.length ∧ i = .int .i64 k ∧ Aside0 (Ws w wr (w.heap.size + 1) w.heap.size t.ns.length M3 L3) ∧ Aside0 (∀ z, z < k → M3 z = true ∨ gn t z = emp)) (fun i _ => t.ns.length - (intOf i).toNat)
  case atStart => exact ⟨0, Nat.zero_le _, rfl, S3, ⟨fun z hz => absurd hz (by omega)⟩⟩
  case round =>
    clear S3 c0
    obtain ⟨k, hk, rfl, S4, HE⟩ := hrel
    by_cases hlt : k < t.ns.length
    · have hn1 : (k : Int) < (t.ns.length : Int) := by omega
      have HK := Aside0.mk hlt
      have hw := H.out.at0 S4.out.below
      have hA := H.out.addr (by omega)
      subst hA
      have f0 := hw.fin (k : Int) (by omega) hn1
      have f1 := hw.at_ k 1 hlt (by omega)
      have f2 := hw.fv (k : Int) (by omega) hn1
      have f3 := hw.fl (k : Int) (by omega) hn1
      have f4 := hw.fr (k : Int) (by omega) hn1
      have f5 := hw.fu (k : Int) (by omega) hn1
      have g1 : wr.cell? ⟨b, k * 6 + 1, none⟩ = some (.bool (gn t k).red) := f1
      have g3 : wr.cell? ⟨b, k * 6 + 3, none⟩ = some (.int .i64 (gn t k).l) := f3
      have g4 : wr.cell? ⟨b, k * 6 + 4, none⟩ = some (.int .i64 (gn t k).r) := f4
      have g5 : wr.cell? ⟨b, k * 6 + 5, none⟩ = some (.int .i64 (gn t k).u) := f5
      simp only [Int.toNat_natCast] at f0 f2
      clear f1 f3 f4 f5
      have HW := Aside0.mk hw
      have S5 := fun o => S4.out.step (below_alloc (Below.refl wr.heap.size wr) o)
      have HT4 := Aside0.mk (HT.out.below S4.out.below)
      clear hw
      generalize hgn : gn t k = nd at f0 g1 f2 g3 g4 g5
      have HGN := Aside0.mk hgn
      clear hgn
      obtain ⟨x0, x1, x2, x3, x4, x5⟩ := nd
      simp only at f0 g1 f2 g3 g4 g5
      have S6 := Aside0.mk (S5 (.cells #[.bool x0, .bool x1, .int .u64 x2, .int .i64 x3, .int .i64 x4, .int .i64 x5] 74))
      have HT6 := Aside0.mk (HT4.out.below (below_alloc (Below.refl wr.heap.size wr) (.cells #[.bool x0, .bool x1, .int .u64 x2, .int .i64 x3, .int .i64 x4, .int .i64 x5] 74)))
      have HN6 := Aside0.mk (show (wr.alloc (.cells #[.bool x0, .bool x1, .int .u64 x2, .int .i64 x3, .int .i64 x4, .int .i64 x5] 74)).heap[wr.heap.size]? = some (.cells #[.bool x0, .bool x1, .int .u64 x2, .int .i64 x3, .int .i64 x4, .int .i64 x5] 74 (0, 0)) from blk_new wr _)
      clear S5
      go_upto_region 10 with (fail)
      generalize wr.alloc _ = W6 at S6 HT6 HN6 ⊢
      have m1 := S6.out.metc k HK.out
      have n0 := (show W6.cell? ⟨wr.heap.size, 0, none⟩ = some (.bool x0) from (blk_cell HN6.out 0).trans rfl)
      have n1 := (show W6.cell? ⟨wr.heap.size, 1, none⟩ = some (.bool x1) from (blk_cell HN6.out 1).trans rfl)
      have n2 := (show W6.cell? ⟨wr.heap.size, 2, none⟩ = some (.int .u64 x2) from (blk_cell HN6.out 2).trans rfl)
      have n3 := (show W6.cell? ⟨wr.heap.size, 3, none⟩ = some (.int .i64 x3) from (blk_cell HN6.out 3).trans rfl)
      have n4 := (show W6.cell? ⟨wr.heap.size, 4, none⟩ = some (.int .i64 x4) from (blk_cell HN6.out 4).trans rfl)
      have n5 := (show W6.cell? ⟨wr.heap.size, 5, none⟩ = some (.int .i64 x5) from (blk_cell HN6.out 5).trans rfl)
      have e0 := HT6.out.c0
      have e1 := HT6.out.c1
      have e2 := HT6.out.c2
      have e3 := HT6.out.c3
      have e4 := HT6.out.c4
      have e5 := HT6.out.c5
      clear f0 f2 g1 g3 g4 g5
      have next : (M3 k = true ∨ gn t k = emp) → ∀ z, z < k + 1 → M3 z = true ∨ gn t z = emp := fun h z hz => by
        by_cases e : z = k
        · subst e; exact h
        · exact HE.out z (by omega)
      have NEXT := Aside0.mk next
      clear next
      cases hM : M3 k with
      | true =>
        have HM := Aside0.mk hM
        rw [hM] at m1
        clear hM
        go_wp2
        refine ⟨⟨k + 1, by omega, by simp, S6, ⟨NEXT.out (Or.inl HM.out)⟩⟩, ?_⟩
        show t.ns.length - ((k : Int) + 1).toNat < t.ns.length - (k : Int).toNat
        omega
      | false =>
        have HM := Aside0.mk hM
        rw [hM] at m1
        clear hM
        by_cases he : (⟨x0, x1, x2, x3, x4, x5⟩ : Nd) = emp
        · have HE2 := Aside0.mk he
          unfold emp at he
          injection he with h0 h1 h2 h3 h4 h5
          subst h0 h1 h2 h3 h4 h5
          go_wp2
          refine ⟨⟨k + 1, by omega, by simp, S6, ⟨NEXT.out (Or.inr (HGN.out.trans HE2.out))⟩⟩, ?_⟩
          show t.ns.length - ((k : Int) + 1).toNat < t.ns.length - (k : Int).toNat
          omega
        · have HE2 := Aside0.mk he
          clear he
          go_wp2
          · go_ret2
            refine ⟨S6.out.below, fun _ => rfl, fun a' ha => ?_⟩
            obtain ⟨_, hw2⟩ := ordA_iff.1 ha
            have ea : a' = a := Lay.uniq hw2.lay A1.out (hw2.rt.symm.trans A2.out.symm)
            subst ea
            have := hw2.out k HK.out (fun h => by have := AM.out k; rw [HM.out] at this; exact of_decide_eq_false this.symm h)
            rw [HGN.out] at this
            exact absurd this HE2.out
          · rename_i hq
            have hq2 : x0 = false ∧ x1 = false ∧ x2 = 0 ∧ x3 = -1 ∧ x4 = -1 ∧ x5 = -1 := by simpa using hq
            obtain ⟨h0, h1, h2, h3, h4, h5⟩ := hq2
            subst h0 h1 h2 h3 h4 h5
            exact absurd rfl HE2.out
    · obtain rfl : k = t.ns.length := by omega
      obtain ⟨v, hbx, hR⟩ := S4.out.box
      obtain ⟨A0, n0, hv, _, _⟩ := Kd.R_reads hR
      subst hv
      have c5 := (show wr.cell? ⟨w.heap.size, 0, none⟩ = some (Value.slice A0 L3.length n0) from (blk_cell hbx 0).trans rfl)
      have HR := Aside0.mk hR
      clear hbx hR
      go_wp2
      go_ret2
      have hW : Whole t a := ⟨A1.out, A2.out.symm, A3.out, fun z hz hn => (HE.out z hz).resolve_left (fun h => hn (by rw [AM.out z] at h; exact of_decide_eq_true h))⟩
      have hO := ordA_iff.2 ⟨by have := HN.out; omega, hW⟩
      refine ⟨S4.out.below, fun h => (by rw [hO] at h; cases h), fun a' ha => ?_⟩
      rw [hO] at ha
      cases ha
      exact ⟨_, rfl, by rw [← AL.out]; exact Kd.R_mono HR.out (fun _ _ => trivial)⟩
end Go.Proofs.YtnkhnnojdlgfjaaDoor.Tm
