/- Parts of the proof, joined: Rm9. -/
import Derived.Test.YtfapmcpmfeigbaaDoorUD24
import Derived.Test.YtfapmcpmfeigbaaDoorUD10
namespace Go.Proofs.YtfapmcpmfeigbaaDoor.Tm
open Go.RowKit Go Go.Proofs Go.Proofs.YtfapmcpmfeigbaaDoor Go.Proofs.YtfapmcpmfeigbaaDoor.Tr Go.Proofs.YtfapmcpmfeigbaaDoor.Tk Go.Proofs.YtfapmcpmfeigbaaDoorW.PrintWords Go.Proofs.YtfapmcpmfeigbaaDoorW.PrintLast Go.Proofs.YtfapmcpmfeigbaaDoorW.PrintMore
set_option linter.unusedVariables false
set_option linter.unusedSimpArgs false
variable {w : World} {t : St}
attribute [local go_sem high] eqN
set_option maxHeartbeats 4000000 in
set_option maxRecDepth 100000 in
theorem rempty_ : Calls Tryd.prog 40 #[] w fun e w' => e = .returned (.agg #[.bool false, .bool false, .int .u64 0, .int .i64 (-1), .int .i64 (-1), .int .i64 (-1)]) ∧ Below w.heap.size w w' := by
 go_enter Tryd.func40, Tryd.ntmps40
 go_wp2
 refine bodyPost_ret (xP (cs := #[.bool false, .bool false, .int .u64 0, .int .i64 (-1), .int .i64 (-1), .int .i64 (-1)]) rfl _ _ w.heap.size 57 (0, 0) _ rfl (yM _ _) Tryd.underlying57 rfl (by kernel_rfl)) rfl ?_
 exact ⟨rfl, zH (Below.refl _ _) _⟩
theorem wL {t : St} : ∀ {a : T} {u : Option Int}, Lay t a u → ∀ z ∈ a.ids, (gn t z).inn = true
 | .E, _, _, z, hz => by cases hz
 | .B c l x r, u, ⟨h1, h2, h3, h4, h5, h6, h7, h8⟩, z, hz => by
  rcases List.mem_append.1 hz with h | h
  ·exact wL h7 z h
  ·rcases List.mem_cons.1 h with rfl | h
   ·exact h2
   ·exact wL h8 z h
def cntI (t : St) (i : Nat) : Nat := ((List.range i).filter fun z => (gn t z).inn).length
theorem cntI_succ (t : St) (i : Nat) : cntI t (i + 1) = cntI t i + if (gn t i).inn = true then 1 else 0 := by
 unfold cntI
 rw [List.range_succ, List.filter_append, List.length_append]
 congr 1
 cases h : (gn t i).inn <;> simp [h]
theorem cntI_le (t : St) (i : Nat) : cntI t i ≤ i := by
 unfold cntI
 have := List.length_filter_le (fun z => (gn t z).inn) (List.range i)
 rw [List.length_range] at this
 exact this
theorem ord_none_emp {i : Nat} (hi : i < t.ns.length) (h1 : (gn t i).inn = false) (h2 : gn t i ≠ emp) : ordA t = none := by
 cases h : ordA t with
 | none => rfl
 | some a =>
  have hw := (qD.1 h).2
  refine absurd (hw.out i hi (fun hm => ?_)) h2
  rw [wL hw.lay i hm] at h1
  cases h1
theorem ord_none_walk {M : Nat → Bool} {L : List Int} (h : WRes t t.rt (-1) (mOf []) [] false M L) : ordA t = none := by
 cases hO : ordA t with
 | none => rfl
 | some a =>
  have hw := (qD.1 hO).2
  exact absurd ⟨a, hw.lay, hw.rt.symm, hw.nd, fun z hz => rfl⟩ (h.no rfl)
theorem ids_count {a : T} (hL : Lay t a (some (-1))) (hn : a.ids.Nodup) (h : ∀ z, z < t.ns.length → (gn t z).inn = true → z ∈ a.ids) : cntI t t.ns.length = a.ids.length := by
 unfold cntI
 refine ((List.perm_ext_iff_of_nodup (List.nodup_range.filter _) hn).2 (fun z => ?_)).length_eq
 rw [List.mem_filter, List.mem_range]
 exact ⟨fun hz => h z hz.1 hz.2, fun hz => ⟨hL.lt z hz, wL hL z hz⟩⟩
theorem count_ids {a : T} (hL : Lay t a (some (-1))) (hn : a.ids.Nodup) (h : cntI t t.ns.length = a.ids.length) : ∀ z, z < t.ns.length → (gn t z).inn = true → z ∈ a.ids := by
 intro z hz hi
 by_cases hm : z ∈ a.ids
 ·exact hm
 have h1 := List.Nodup.length_le_of_subset (l₁ := a.ids ++ [z]) (l₂ := (List.range t.ns.length).filter fun z => (gn t z).inn) (wU hn hm) (fun y hy => by
  rw [List.mem_filter, List.mem_range]
  rcases List.mem_append.1 hy with hy | hy
  ·exact ⟨hL.lt y hy, wL hL y hy⟩
  ·rw [List.mem_singleton.1 hy]; exact ⟨hz, hi⟩)
 rw [List.length_append] at h1
 unfold cntI at h
 simp only [List.length_cons, List.length_nil] at h1
 omega
theorem ord_of_walk {M : Nat → Bool} {L : List Int} (hl : t.ns.length ≤ 64) (h : WRes t t.rt (-1) (mOf []) [] true M L) (he : ∀ z, z < t.ns.length → (gn t z).inn = true ∨ gn t z = emp) :
  ∃ a, L = iz a.ids ∧ Lay t a (some (-1)) ∧ (cntI t t.ns.length = L.length → ordA t = some a) ∧ (cntI t t.ns.length ≠ L.length → ordA t = none) := by
 obtain ⟨a, h1, h2, h3, h4, h5, h6⟩ := h.yes rfl
 refine ⟨a, by rw [h5]; rfl, h1, fun hc => ?_, fun hc => ?_⟩
 ·rw [h5] at hc
  simp only [List.nil_append, wD] at hc
  refine qD.2 ⟨hl, h1, h2.symm, h3, fun z hz hm => ?_⟩
  rcases he z hz with h | h
  ·exact absurd (count_ids h1 h3 hc z hz h) hm
  ·exact h
 ·cases hO : ordA t with
  | none => rfl
  | some b =>
   exfalso
   have hw := (qD.1 hO).2
   have hab : b = a := Lay.uniq hw.lay h1 (hw.rt.symm.trans h2.symm)
   subst hab
   apply hc
   rw [h5]
   simp only [List.nil_append, wD]
   refine ids_count h1 h3 (fun z hz hi => ?_)
   by_cases hm : z ∈ b.ids
   ·exact hm
   rw [hw.out z hz hm] at hi
   cases hi
theorem rgather0 (w : World) (A : Option Addr) (c : Nat) (x u : Int) (hr : kn.C w A t.ns.length t.ns) (hl : t.ns.length ≤ 1000000) :
  Calls Tryd.prog 72 #[.agg #[.int .i64 t.rt, .slice A t.ns.length c], .int .i64 x, .int .i64 u, .slice none 0 0] w fun e w' => vK w t [] x u e w' :=
 rgather_ t.ns.length w A c x u [] none 0 (by simp) hr hl ⟨rfl, by simp, fun h => absurd h (by simp)⟩ List.nodup_nil (fun z hz => by cases hz)
structure QPost (w : World) (t : St) (e : Ending) (w' : World) : Prop where mk ::
 below : Below w.heap.size w w'
 no : ordA t = none → e = .returned (.tuple #[.slice none 0 0, .bool false])
 yes : ∀ a, ordA t = some a → ∃ A c, e = .returned (.tuple #[.slice A a.ids.length c, .bool true]) ∧ (Kd.int .i64).C w' A a.ids.length (iz a.ids)
set_option maxHeartbeats 16000000 in
set_option maxRecDepth 100000 in
theorem zbX (A : Option Addr) (c : Nat) (hr : kn.C w A t.ns.length t.ns) (hl : t.ns.length ≤ 1000000) :
  Calls Tryd.prog 57 #[.agg #[.int .i64 t.rt, .slice A t.ns.length c]] w fun e w' => QPost w t e w' := by
 have SB := zA.mk (Hb.start (c := c) hr)
 have HL := zA.mk hl; clear hr
 go_enter Tryd.func57, Tryd.ntmps57
 go_upto_region 1 with (fail)
 generalize w.alloc (.cells #[.int .i64 t.rt, .slice A t.ns.length c] 24) = W1 at SB ⊢
 have a0 := SB.out.a0
 have a1 := SB.out.a1
 by_cases hn : 64 < t.ns.length
 ·have hd : (64 : Int) < (t.ns.length : Int) := by omega
  have HO := zA.mk (show ordA t = none by unfold ordA; rw [if_neg (by omega)])
  clear hn hl
  go_wp2
  go_ret2
  exact ⟨SB.out.bb, fun _ => rfl, fun a h => by rw [HO.out] at h; cases h⟩
 have hd : ¬ (64 : Int) < (t.ns.length : Int) := by omega
 have hdd : decide ((64 : Int) < (t.ns.length : Int)) = false := decide_eq_false hd
 have HN := zA.mk (show t.ns.length ≤ 64 by omega)
 clear hn hl
 go_upto_region 5 with (go_at_call 72; with_reducible refine (rgather0 _ A c t.rt (-1) SB.out.rd HL.out).mono ?_; rintro e wq ⟨B1, e1, B2, e2, L, Ms, r, rfl, hL, hM, hn1, hl1, hs1, hW1, hB⟩; replace SB := zA.mk (SB.out.below hB); have HC := zA.mk hL; have HW := zA.mk hW1; have HLE := zA.mk (show L.length ≤ 64 by have := xO hn1 hl1; have := HN.out; simp at hs1; omega); clear hL hM hn1 hl1 hs1 hW1 hB a0 a1)
 clear hd hdd
 go_wp2
 go_loopw [7, 8] (fun vm vi wr => ∃ i : Nat, i ≤ t.ns.length ∧ vm = .int .i64 (cntI t i) ∧ vi = .int .i64 i ∧ zA (Hb w wr w.heap.size t A c) ∧ zA (Below wq.heap.size wq wr) ∧ zA (∀ z, z < i → (gn t z).inn = true ∨ gn t z = emp)) (fun vm vi _ => t.ns.length - (intOf vi).toNat)
 case atStart => exact ⟨0, Nat.zero_le _, rfl, rfl, SB, ⟨Below.refl _ _⟩, ⟨fun z hz => by omega⟩⟩
 case round =>
  clear SB
  obtain ⟨i, hi, rfl, rfl, SB, HB, HP⟩ := hrel
  have a0 := SB.out.a0
  have a1 := SB.out.a1
  have h64 := HN.out
  by_cases hlt : i < t.ns.length
  rotate_left
  ·obtain rfl : i = t.ns.length := by omega
   have hcl : cntI t t.ns.length ≤ 64 := by have := cntI_le t t.ns.length; have := HN.out; omega
   cases r with
   | false =>
    have HO := zA.mk (ord_none_walk HW.out)
    generalize cntI t t.ns.length = m at hcl
    go_wp2
    go_ret2
    exact ⟨SB.out.bb, fun _ => rfl, fun a h => by rw [HO.out] at h; cases h⟩
   | true =>
    obtain ⟨a, ha, haL, hy, hnn⟩ := ord_of_walk HN.out HW.out HP.out
    have HA := zA.mk ha; have HY := zA.mk hy; have HNO := zA.mk hnn; clear ha haL hy hnn
    generalize cntI t t.ns.length = m at hcl HY HNO
    by_cases hm : m = L.length
    rotate_left
    ·have HO := zA.mk (HNO.out hm)
     have hq : ((m : Int) != (L.length : Int)) = true := by
      have : (m : Int) ≠ (L.length : Int) := by omega
      simpa using this
     clear hm
     go_wp2
     go_ret2
     exact ⟨SB.out.bb, fun _ => rfl, fun a h => by rw [HO.out] at h; cases h⟩
    have HO := zA.mk (HY.out hm)
    have hq : ((m : Int) != (L.length : Int)) = false := by rw [hm]; simp
    clear hm
    have HCC := zA.mk (Kd.zY HC.out HB.out)
    go_wp2
    go_ret2
    refine ⟨SB.out.bb, (fun h => by rw [HO.out] at h; cases h), fun b h => ?_⟩
    rw [HO.out] at h
    obtain rfl := Option.some.inj h
    have e := wD a.ids
    rw [← HA.out] at e
    exact ⟨B1, e1, by rw [← e]; rfl, by rw [← e, ← HA.out]; exact HCC.out⟩
  have hin : (i : Int) < (t.ns.length : Int) := by omega
  have HN1 := zA.mk (show ((i : Int) + 1).toNat = i + 1 by omega)
  have HCS := zA.mk (cntI_succ t i)
  have hcl : cntI t i ≤ 64 := by have := cntI_le t i; have := HN.out; omega
  obtain ⟨ad, e1, d0, d1, d2, d3, d4, d5⟩ := zaA SB.out.rd (i : Int) (by omega) hin
  subst e1
  rw [Int.toNat_natCast] at d0 d1 d2 d3 d4 d5
  obtain ⟨n, hnn⟩ : ∃ n, n = gn t i := ⟨_, rfl⟩
  have hnn2 : t.ns.getD i emp = n := hnn.symm
  rw [hnn2] at d0 d1 d2 d3 d4 d5
  have HG := zA.mk hnn.symm
  clear hnn hnn2
  cases hni : n.inn with
  | true =>
   rw [hni] at d0
   have HI := zA.mk hni
   rw [HG.out, hni, if_pos rfl] at HCS
   generalize cntI t i = m at HCS hcl
   clear hni
   go_wp2
   refine ⟨⟨i + 1, by omega, by rw [HCS.out]; simp, by simp, SB, HB, ⟨fun z hz => ?_⟩⟩, ?_⟩
   ·rcases Nat.lt_or_ge z i with h | h
    ·exact HP.out z h
    ·obtain rfl : z = i := by omega
     exact Or.inl (by rw [HG.out]; exact HI.out)
   ·show t.ns.length - ((i : Int) + 1).toNat < t.ns.length - (i : Int).toNat
    rw [HN1.out]
    omega
  | false =>
   rw [hni] at d0
   have HI := zA.mk hni
   rw [HG.out, hni, if_neg (by simp), Nat.add_zero] at HCS
   generalize cntI t i = m at HCS hcl
   have HD := zA.mk (show wr.cell? (ad.add (i * 6)) = some (.bool false) ∧ wr.cell? ⟨(ad.add (i * 6)).block, (ad.add (i * 6)).off + 1, none⟩ = some (.bool n.red) ∧ wr.cell? ⟨(ad.add (i * 6)).block, (ad.add (i * 6)).off + 2, none⟩ = some (.int .u64 n.v) ∧ wr.cell? ⟨(ad.add (i * 6)).block, (ad.add (i * 6)).off + 3, none⟩ = some (.int .i64 n.l) ∧ wr.cell? ⟨(ad.add (i * 6)).block, (ad.add (i * 6)).off + 4, none⟩ = some (.int .i64 n.r) ∧ wr.cell? ⟨(ad.add (i * 6)).block, (ad.add (i * 6)).off + 5, none⟩ = some (.int .i64 n.u) from ⟨d0, d1, d2, d3, d4, d5⟩)
   clear hni
   go_upto_region 10 with (fail)
   have HDd := zA.mk (show wr.drew.cell? (ad.add (i * 6)) = some (.bool false) ∧ wr.drew.cell? ⟨(ad.add (i * 6)).block, (ad.add (i * 6)).off + 1, none⟩ = some (.bool n.red) ∧ wr.drew.cell? ⟨(ad.add (i * 6)).block, (ad.add (i * 6)).off + 2, none⟩ = some (.int .u64 n.v) ∧ wr.drew.cell? ⟨(ad.add (i * 6)).block, (ad.add (i * 6)).off + 3, none⟩ = some (.int .i64 n.l) ∧ wr.drew.cell? ⟨(ad.add (i * 6)).block, (ad.add (i * 6)).off + 4, none⟩ = some (.int .i64 n.r) ∧ wr.drew.cell? ⟨(ad.add (i * 6)).block, (ad.add (i * 6)).off + 5, none⟩ = some (.int .i64 n.u) from HD.out)
   refine jQ (n := 7) (S := fun w' => w'.cell? ⟨w.heap.size, 1, none⟩ = some (.slice (some ad) t.ns.length c) ∧ w'.cell? (ad.add (i * 6)) = some (.bool false) ∧ w'.cell? ⟨(ad.add (i * 6)).block, (ad.add (i * 6)).off + 1, none⟩ = some (.bool n.red) ∧ w'.cell? ⟨(ad.add (i * 6)).block, (ad.add (i * 6)).off + 2, none⟩ = some (.int .u64 n.v) ∧ w'.cell? ⟨(ad.add (i * 6)).block, (ad.add (i * 6)).off + 3, none⟩ = some (.int .i64 n.l) ∧ w'.cell? ⟨(ad.add (i * 6)).block, (ad.add (i * 6)).off + 4, none⟩ = some (.int .i64 n.r) ∧ w'.cell? ⟨(ad.add (i * 6)).block, (ad.add (i * 6)).off + 5, none⟩ = some (.int .i64 n.u)) (ds := []) #[false, false, false, false, false, false, false] (by kernel_rfl) rfl rfl ⟨SB.out.drew.a1, HDd.out⟩ (fun hHeld => ?_)
   replace SB := zA.mk SB.out.drew
   replace HB := zA.mk (Below.drew HB.out)
   clear a0 a1 d0 d1 d2 d3 d4 d5 HD
   generalize wr.drew = V0 at SB HB HDd hHeld ⊢
   refine yB (i := 0) (N := some 36) (v := ?_) (a' := ?_) #[true, false, false, false, false, false, false] rfl rfl (by kernel_rfl) (fun _ _ _ h => h) (Or.inl ⟨by rfl, ?_⟩) ?_ ?_
   rotate_left
   ·intro w'
    go_simp
    with_reducible rfl
   rotate_left
   ·(simp only [Act.put, List.setIfInBounds_toArray, List.set_cons_zero, List.set_cons_succ, zU, zV]; rfl)
   refine x9 (i := 1) (N := some 37) (v := ?_) (a' := ?_) #[true, true, false, false, false, false, false] rfl rfl (by kernel_rfl) (fun _ _ _ h => h) (Or.inl ⟨by rfl, ?_⟩) hHeld ?_ ?_
   rotate_left
   ·rintro w' ⟨s1, s2, s3, s4, s5, s6, s7⟩
    go_simp
    with_reducible rfl
   rotate_left
   ·(simp only [Act.put, List.setIfInBounds_toArray, List.set_cons_zero, List.set_cons_succ, zU, zV]; rfl)
   refine yB (i := 2) (N := some 38) (v := ?_) (a' := ?_) #[true, true, true, false, false, false, false] rfl rfl (by kernel_rfl) (fun _ _ _ h => h) (Or.inl ⟨by rfl, ?_⟩) ?_ ?_
   rotate_left
   ·intro w'
    go_simp
    with_reducible rfl
   rotate_left
   ·(simp only [Act.put, List.setIfInBounds_toArray, List.set_cons_zero, List.set_cons_succ, zU, zV]; rfl)
   refine yB (i := 3) (N := some 39) (v := ?_) (a' := ?_) #[true, true, true, true, false, false, false] rfl rfl (by kernel_rfl) (fun _ _ _ h => h) (Or.inl ⟨by rfl, ?_⟩) ?_ ?_
   rotate_left
   ·intro w'
    go_simp
    with_reducible rfl
   rotate_left
   ·(simp only [Act.put, List.setIfInBounds_toArray, List.set_cons_zero, List.set_cons_succ, zU, zV]; rfl)
   refine x9 (i := 4) (N := some 40) (v := ?_) (a' := ?_) #[true, true, true, true, true, false, false] rfl rfl (by kernel_rfl) (fun _ _ _ h => h) (Or.inl ⟨by rfl, ?_⟩) hHeld ?_ ?_
   rotate_left
   ·rintro w' ⟨s1, s2, s3, s4, s5, s6, s7⟩
    go_simp
    with_reducible rfl
   rotate_left
   ·(simp only [Act.put, List.setIfInBounds_toArray, List.set_cons_zero, List.set_cons_succ, zU, zV]; rfl)
   refine one_ (i := 5) (N := some 41) #[true, true, true, true, true, true, false] rfl rfl (by kernel_rfl) (by decide) (fun K hK => ?_)
   refine qF Tryd.func40 (by kernel_rfl) rfl #[] (by rfl) rfl rfl (by (try simp only [List.map_toArray, List.map_cons, List.map_nil]); first | done | rfl) ?_
   with_reducible refine (rempty_).mono ?_
   rintro e wx ⟨rfl, hb⟩
   refine ⟨_, rfl, ?_⟩
   replace SB := zA.mk (SB.out.below hb)
   replace HB := zA.mk (zT HB.out hb)
   refine hK.out _ _ ⟨SB.out.a1, yZ HDd.out.1 hb, yZ HDd.out.2.1 hb, yZ HDd.out.2.2.1 hb, yZ HDd.out.2.2.2.1 hb, yZ HDd.out.2.2.2.2.1 hb, yZ HDd.out.2.2.2.2.2 hb⟩ (fun hHeld => ?_)
   clear hK K
   refine xA (a' := ?_) ?_ ?_
   rotate_left
   ·(show Act.put _ (some 41) _ = _; (simp only [Act.put, List.setIfInBounds_toArray, List.set_cons_zero, List.set_cons_succ, zU, zV]; rfl))
   refine yB (i := 6) (N := some 42) (v := ?_) (a' := ?_) #[true, true, true, true, true, true, true] rfl rfl (by kernel_rfl) (fun _ _ _ h => h) (Or.inl ⟨by rfl, ?_⟩) ?_ ?_
   rotate_left
   ·intro w'
    go_simp
    with_reducible rfl
   rotate_left
   ·(simp only [Act.put, List.setIfInBounds_toArray, List.set_cons_zero, List.set_cons_succ, zU, zV]; rfl)
   refine vJ (by kernel_rfl) ?_
   clear hHeld HDd
   go_wp2
   case roundEnd =>
    rename_i h
    have HE := zA.mk (show gn t i = emp by
     rw [HG.out]
     have hni := HI.out
     obtain ⟨n0, n1, n2, n3, n4, n5⟩ := n
     simp only at h hni
     subst hni
     simp at h
     obtain ⟨h1, h2, h3, h4, h5⟩ := h
     subst h1 h2 h3 h4 h5
     rfl)
    clear h
    refine ⟨⟨i + 1, by omega, by rw [HCS.out]; rfl, by simp, SB, HB, ⟨fun z hz => ?_⟩⟩, ?_⟩
    ·rcases Nat.lt_or_ge z i with h | h
     ·exact HP.out z h
     ·obtain rfl : z = i := by omega
      exact Or.inr HE.out
    ·show t.ns.length - ((i : Int) + 1).toNat < t.ns.length - (i : Int).toNat
     rw [HN1.out]
     omega
   ·rename_i h
    have HO := zA.mk (ord_none_emp hlt (by rw [HG.out]; exact HI.out) (by rw [HG.out]; intro he; rw [he] at h; simp [emp] at h))
    go_ret2
    exact ⟨SB.out.bb, fun _ => rfl, fun a h => by rw [HO.out] at h; cases h⟩
end Go.Proofs.YtfapmcpmfeigbaaDoor.Tm
