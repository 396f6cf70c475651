/- Parts of the proof, joined: QF, QFp. -/
import Derived.Test.YtnkhnnojdlgfjaaDoorUF23
import Derived.Test.YtnkhnnojdlgfjaaDoorProg
import Derived.Below
import Derived.Deep.Draws
import Derived.Deep.AppendLies
import Derived.Maps.AppendAt
import Derived.OwnWalk
import Derived.Laws.BytesArg
import Derived.Laws.MakeOwn
import Derived.Laws.OwnMore
import Derived.Deep.OwnRows
import Derived.Tactics
import Derived.Lib.ConvBytes
import Derived.Laws.Slices
import Derived.WalkKit
import Derived.KernelRfl
import Derived.RowKit3
import Derived.Deep.LoopGhost
import Derived.Deep.QuietTactic
import Derived.BigQuiet
import Derived.WideLaws
import Derived.Deep.DeepCutAuto
import Derived.Deep.CutBlock
import Derived.Deep.RegionHeld3
import Derived.Laws.Rows
import Derived.Lib.AppendStr
import Derived.ArgAppend
import Derived.Laws.IdiomCopy
import Derived.OrdersHeld
import Derived.Laws.BitsLemmas
import Derived.RowKit
import Derived.Test.YtnkhnnojdlgfjaaDoorUF10
import Derived.Test.YtnkhnnojdlgfjaaDoorUF1
import Derived.Test.YtnkhnnojdlgfjaaDoorUF2
import Derived.Test.YtnkhnnojdlgfjaaDoorUF12
import Derived.Test.YtnkhnnojdlgfjaaDoorUF3
import Derived.Test.YtnkhnnojdlgfjaaDoorUF9
section
namespace Go.Proofs.YtnkhnnojdlgfjaaDoor.Qu
open Go Go.RowKit Go.Proofs Go.Proofs.YtnkhnnojdlgfjaaDoor Go.Proofs.YtnkhnnojdlgfjaaDoor.Tr Go.Proofs.YtnkhnnojdlgfjaaDoor.Tk Go.Proofs.YtnkhnnojdlgfjaaDoor.Tm
set_option linter.unusedVariables false
theorem div_anti {a b c : Int} (ha : 0 ≤ a) (hc : 0 < c) (h : c ≤ b) : a / b ≤ a / c := by
  have h1 : a / b * b ≤ a := Int.ediv_mul_le a (by omega)
  have h2 : a / b * c ≤ a / b * b := Int.mul_le_mul_of_nonneg_left h (Int.ediv_nonneg ha (by omega))
  exact (Int.le_ediv_iff_mul_le hc).2 (by omega)
def wOf (n : Int) : Int := [1024, 820, 15, 88761, 335, 3121].getD (n.toNat % 6) 0
theorem wOf_in (n : Int) : 15 ≤ wOf n ∧ wOf n ≤ 88761 := by
  have h : ∀ i : Fin 6, 15 ≤ [1024, 820, 15, 88761, 335, 3121].getD i.1 (0 : Int) ∧ [1024, 820, 15, 88761, 335, 3121].getD i.1 (0 : Int) ≤ 88761 := by decide
  exact h ⟨n.toNat % 6, Nat.mod_lt _ (by omega)⟩
structure FE (mn least bound : Int) (k : Nat) (q : Q) : Prop where
  ex : ∃ L, QJ 12 q L ∧ (0 < k → L ≠ []) ∧ ∀ x ∈ L, 0 ≤ lagf q.mn x.1 ∧ lagf q.mn x.1 ≤ bound
  cur : q.cur = -1
  no : ∀ i : Nat, k ≤ i → i < 12 → hereA q (i : Int) = false
  wt : ∀ i : Nat, i < 12 → hereA q (i : Int) = true → least ≤ q.ws.getD i 0
structure FT (least bound : Int) (q : Q) : Prop where
  ex : ∃ L, QJ 12 q L
  cur : q.cur ≠ -1
  zero : lagf q.mn q.v = 0
  lags : ∀ x ∈ keysA q, 0 ≤ lagf q.mn x.1 ∧ lagf q.mn x.1 ≤ bound
  wt : ∀ i : Nat, i < 12 → hereA q (i : Int) = true → least ≤ q.ws.getD i 0
theorem fe_new (mn least bound : Int) : ∃ q, newQ 12 mn = (q, 0) ∧ FE mn least bound 0 q := by
  obtain ⟨h1, h2⟩ := new_QJ (n := 12) mn (by omega)
  refine ⟨_, h1, ⟨⟨[], h2, fun h => absurd h (by omega), fun x hx => by cases hx⟩, rfl, fun i _ hi => ?_, fun i hi hh => ?_⟩⟩
  · refine Bool.eq_false_iff.2 fun e => ?_
    rcases (h2.here (Int.natCast_nonneg i)).1 e with e | ⟨x, hx, _⟩
    · have : (-1 : Int) = (i : Int) := e
      omega
    · cases hx
  · rcases (h2.here (Int.natCast_nonneg i)).1 hh with e | ⟨x, hx, _⟩
    · have : (-1 : Int) = (i : Int) := e
      omega
    · cases hx
theorem fe_enter {mn least bound : Int} {k : Nat} {q : Q} (h : FE mn least bound k q) (hk : k < 12) {w lag : Int} (hw : 15 ≤ w ∧ w ≤ 88761) (hl : least ≤ w) (h0 : 0 ≤ lag) (h1 : lag ≤ bound) (hb : bound ≤ 1000000) :
    ∃ q', enterA q (k : Int) w lag = some (q', 0) ∧ FE mn least bound (k + 1) q' := by
  obtain ⟨L, hj, hn, hlg⟩ := h.ex
  obtain ⟨q', e1, e2, e3, e4, e5, e6, e7, e8⟩ := enter_QJ hj (id := (k : Int)) (w := w) lag (Int.natCast_nonneg k) (by omega) (weighed_iff.2 (by omega)) (h.no k (Nat.le_refl _) hk)
  have hcl : clampA lag (-1048576) 1125899906842624 = lag := clamp_id _ _ _ (by omega) (by omega)
  rw [hcl] at e2
  have hla := lag_at q.mn lag (by omega) (by omega)
  refine ⟨q', e1, ⟨_, e2, fun _ e => ?_, fun x hx => ?_⟩, by rw [e3]; exact h.cur, fun i hi h12 => ?_, fun i h12 hh => ?_⟩
  · have : (atA q.mn lag, (k : Int)) ∈ ins q.mn L (atA q.mn lag, (k : Int)) := mem_ins.2 (Or.inl rfl)
    rw [e] at this
    cases this
  · rw [e5]
    rcases mem_ins.1 hx with rfl | hx
    · show 0 ≤ lagf q.mn (atA q.mn lag) ∧ lagf q.mn (atA q.mn lag) ≤ bound
      rw [hla]
      exact ⟨h0, h1⟩
    · exact hlg x hx
  · refine Bool.eq_false_iff.2 fun e => ?_
    have hno := h.no i (by omega) h12
    rcases (e2.here (Int.natCast_nonneg i)).1 e with e | ⟨x, hx, e⟩
    · rw [e3, h.cur] at e
      omega
    · rcases mem_ins.1 hx with rfl | hx
      · have : (k : Int) = (i : Int) := e
        omega
      · rw [(hj.here (Int.natCast_nonneg i)).2 (Or.inr ⟨x, hx, e⟩)] at hno
        cases hno
  · rw [e6, set_at (by rw [hj.len]; omega)]
    by_cases c : i = (k : Int).toNat
    · rw [if_pos c]; exact hl
    · rw [if_neg c]
      refine h.wt i h12 ?_
      rcases (e2.here (Int.natCast_nonneg i)).1 hh with e | ⟨x, hx, e⟩
      · rw [e3, h.cur] at e
        omega
      · rcases mem_ins.1 hx with rfl | hx
        · have : (k : Int) = (i : Int) := e
          omega
        · exact (hj.here (Int.natCast_nonneg i)).2 (Or.inr ⟨x, hx, e⟩)
theorem pick_lags {least bound : Int} {q : Q} {L : List K} (hj : QJ 12 q L) (hne : keysA q ≠ []) (hl : ∀ x ∈ keysA q, 0 ≤ lagf q.mn x.1 ∧ lagf q.mn x.1 ≤ bound) (hw : ∀ i : Nat, i < 12 → hereA q (i : Int) = true → least ≤ q.ws.getD i 0) :
    ∃ q' id, pickA q = some (q', id, 0) ∧ FT least bound q' := by
  cases hK : keysA q with
  | nil => exact absurd hK hne
  | cons k R =>
    obtain ⟨q', e1, e2, e3, e4, e5, e6, e7, e8, e9, _⟩ := pick_QJ hj hK
    rw [hK] at hl
    have hk := hl k List.mem_cons_self
    have hr := keys_rng hj (x := k) (by rw [hK]; exact List.mem_cons_self)
    refine ⟨q', k.2, e1, ⟨_, e2⟩, by rw [e3]; omega, ?_, fun x hx => ?_, fun i hi hh => ?_⟩
    · rw [e4, e5, e9.lag List.mem_cons_self]
      split <;> omega
    · rw [e8] at hx
      rw [e5, e9.lag hx]
      have h1 := hl x hx
      have h2 := e9.al x hx
      split <;> omega
    · rw [e6]
      refine hw i hi ?_
      rw [hj.keys_mem (Int.natCast_nonneg i), hK]
      rw [e2.keys_mem (Int.natCast_nonneg i), e8] at hh
      exact hh
theorem fe_pick {mn least bound : Int} {k : Nat} {q : Q} (h : FE mn least bound k q) (hk : 0 < k) : ∃ q' id, pickA q = some (q', id, 0) ∧ FT least bound q' := by
  obtain ⟨L, hj, hn, hlg⟩ := h.ex
  have hke : keysA q = L := by rw [keys_eq hj.tr, if_pos h.cur]
  exact pick_lags hj (by rw [hke]; exact hn hk) (by rw [hke]; exact hlg) h.wt
theorem ft_tick {least bound most : Int} {q : Q} (h : FT least bound q) (hm : 1 ≤ most ∧ most ≤ 5000) (hl : 15 ≤ least) (hb : bound = most * 1024 / least + 1) {d : Int} (h0 : 0 ≤ d) (h1 : d ≤ most) :
    ∃ y more, tickA q d = (y, more, 0) ∧ ∃ z id, pickA y = some (z, id, 0) ∧ FT least bound z := by
  obtain ⟨L, hj⟩ := h.ex
  have hc1 := hj.c1
  have hc2 := hj.c2
  have hcc := h.cur
  have hb2 : bound ≤ 341334 := by
    have : most * 1024 / least ≤ most * 1024 / 15 := div_anti (by omega) (by omega) hl
    omega
  obtain ⟨v, e1, e2, e3, e4, e5, e6, e7⟩ := tick_QJ hj h.cur h0 (by omega)
  have hw := weighed_iff.1 (hj.weight (id := q.cur) (by omega) hc2 (hj.hereCur h.cur))
  have hwl : least ≤ q.ws.getD q.cur.toNat 0 := h.wt q.cur.toNat (by omega) (by rw [show ((q.cur.toNat : Nat) : Int) = q.cur by omega]; exact hj.hereCur h.cur)
  have hd : 0 ≤ deltaA d (q.ws.getD q.cur.toNat 0) ∧ deltaA d (q.ws.getD q.cur.toNat 0) ≤ bound - 1 := by
    refine ⟨(delta_in h0 hw.1).1, ?_⟩
    have s1 : d * 1024 / (q.ws.getD q.cur.toNat 0) ≤ d * 1024 / least := div_anti (by omega) (by omega) hwl
    have s2 : d * 1024 / least ≤ most * 1024 / least := Int.ediv_le_ediv (by omega) (by omega)
    unfold deltaA
    split <;> omega
  rw [h.zero] at e3
  generalize deltaA d (q.ws.getD q.cur.toNat 0) = nv at hd e3
  rw [if_pos (by omega)] at e3
  obtain ⟨r1, r2⟩ := ran_QJ hj h.cur e2
  obtain ⟨u1, u2, u3, u4⟩ := up_QJ r1
  have hlag : ∀ x ∈ keysA { q with v := v }, 0 ≤ lagf q.mn x.1 ∧ lagf q.mn x.1 ≤ bound := fun x hx => by
    rw [r2] at hx
    rcases mem_ins.1 hx with rfl | hx
    · show 0 ≤ lagf q.mn v ∧ lagf q.mn v ≤ bound
      rw [e3]
      omega
    · refine h.lags x ?_
      rw [keys_eq hj.tr, if_neg h.cur]
      exact mem_ins.2 (Or.inr hx)
  have hmem : (v, q.cur) ∈ keysA { q with v := v } := by rw [r2]; exact mem_ins.2 (Or.inl rfl)
  have htk : tickA q d = (upA { q with v := v }, (tickA q d).2.1, 0) := by
    rw [← e4, ← e5]
  have hws : (upA { q with v := v }).ws = q.ws := by rw [u3]
  refine ⟨_, _, htk, pick_lags u1 (fun e => ?_) (fun x hx => ?_) (fun i hi hh => ?_)⟩
  · rw [u2] at e
    rw [e] at hmem
    cases hmem
  · rw [u2] at hx
    cases hK : keysA { q with v := v } with
    | nil => rw [hK] at hx; cases hx
    | cons k R =>
      obtain ⟨m1, m2⟩ := u4 k R hK
      rw [hK] at hx hlag
      have hk := hlag k List.mem_cons_self
      have h2 := hlag x hx
      have h3 : lagf q.mn k.1 ≤ lagf q.mn x.1 ∧ lagf q.mn x.1 ≤ 1125899906842624 := m2.al x hx
      have e9 : lagf (upA { q with v := v }).mn x.1 = if 0 < lagf q.mn k.1 then lagf q.mn x.1 - lagf q.mn k.1 else lagf q.mn x.1 := by
        rw [m1]
        exact m2.lag hx
      rw [e9]
      split <;> omega
  · rw [hws]
    refine h.wt i hi ?_
    rw [hj.keys_mem (Int.natCast_nonneg i)]
    rw [u1.keys_mem (Int.natCast_nonneg i), u2, r2] at hh
    obtain ⟨x, hx, e⟩ := hh
    rw [keys_eq hj.tr, if_neg h.cur]
    rcases mem_ins.1 hx with rfl | hx
    · exact ⟨(q.v, q.cur), mem_ins.2 (Or.inl rfl), e⟩
    · exact ⟨x, mem_ins.2 (Or.inr hx), e⟩
theorem ft_keys {least bound : Int} {q : Q} (h : FT least bound q) (hb0 : 0 ≤ bound) (hb : bound ≤ 1000000) : rightQ q = true ∧ 0 < (keysA q).length ∧ IntKind.u64.wrap (((keysA q).getD ((keysA q).length - 1) (0, 0)).1 - ((keysA q).getD 0 (0, 0)).1) ≤ bound := by
  obtain ⟨L, hj⟩ := h.ex
  have hne : 0 < (keysA q).length := by
    rw [keys_eq hj.tr, if_neg h.cur, (ins_perm _ _ _).length_eq, List.length_cons]
    omega
  refine ⟨hj.right, hne, ?_⟩
  have hat : ∀ i, i < (keysA q).length → (keysA q).getD i (0, 0) ∈ keysA q := fun i hi => by
    rw [List.getD_eq_getElem?_getD, List.getElem?_eq_getElem hi]
    exact List.getElem_mem hi
  have hss := hj.ss.pw
  have hle : lagf q.mn ((keysA q).getD 0 (0, 0)).1 ≤ lagf q.mn ((keysA q).getD ((keysA q).length - 1) (0, 0)).1 := by
    by_cases c : (keysA q).length = 1
    · rw [c]; exact Int.le_refl _
    · have := List.pairwise_iff_getElem.1 hss 0 ((keysA q).length - 1) hne (by omega) (by omega)
      rw [cv_lt] at this
      rw [List.getD_eq_getElem?_getD, List.getElem?_eq_getElem hne, List.getD_eq_getElem?_getD, List.getElem?_eq_getElem (show (keysA q).length - 1 < (keysA q).length by omega)]
      show lagf q.mn (keysA q)[0].1 ≤ lagf q.mn (keysA q)[(keysA q).length - 1].1
      omega
  have h1 := h.lags _ (hat 0 hne)
  have h2 := h.lags _ (hat ((keysA q).length - 1) (by omega))
  generalize ((keysA q).getD 0 (0, 0)).1 = a at *
  generalize ((keysA q).getD ((keysA q).length - 1) (0, 0)).1 = b at *
  simp only [lag_eq] at *
  rw [w64u]
  omega
end Go.Proofs.YtnkhnnojdlgfjaaDoor.Qu
end
section
namespace Go.Proofs.YtnkhnnojdlgfjaaDoor.QFp
open Go.RowKit Go.Proofs.YtnkhnnojdlgfjaaDoorW.PrintWords Go.Proofs.YtnkhnnojdlgfjaaDoorW.PrintLast Go.Proofs.YtnkhnnojdlgfjaaDoorW.PrintMore
attribute [local go_sem] max2_int min2_int max_two min_two max_three min_three max_four min_four   -- for this text's walks alone
set_option linter.unusedVariables false
set_option linter.unusedSimpArgs false
def errW : Option Int → Value
  | none => .nilIface
  | some c => .iface 0 (.int .i64 c)
theorem errW_none : errW none = .nilIface := rfl
theorem errW_some (c : Int) : errW (some c) = .iface 0 (.int .i64 c) := rfl
def turnspitlaw12_Weight.f (a0 : Int) : Option (Int) := (some (([1024, 820, 15, 88761, 335, 3121] : List Int) : List Int)).bind fun y152 => (if 0 ≤ (Int.tmod (wrap64 (a0)) 6) then (if (Int.tmod (wrap64 (a0)) 6) < (y152.length : Int) then (some (rd y152 (Int.tmod (wrap64 (a0)) 6))) else (none)) else (none))
set_option maxHeartbeats 8000000 in
set_option maxRecDepth 100000 in
theorem turnspitlaw12_Weight.calls (a0 : Int) (r : Int) (w : World) (hT : Tm.Emp w) (h : turnspitlaw12_Weight.f a0 = some r) :
    Calls Tryd.prog 10 #[.int .u16 a0] w fun e w' => e = .returned (.int .i64 r) ∧ Below w.heap.size w w' := by
  have HB := Aside0.mk (Below.refl w.heap.size w)
  have H : ((some (([1024, 820, 15, 88761, 335, 3121] : List Int) : List Int)).bind fun y152 => (if 0 ≤ (Int.tmod (wrap64 (a0)) 6) then (if (Int.tmod (wrap64 (a0)) 6) < (y152.length : Int) then (some (rd y152 (Int.tmod (wrap64 (a0)) 6))) else (none)) else (none))) = some r := h
  clear h
  obtain ⟨y152, hy152⟩ : ∃ y_ : List Int, y_ = (([1024, 820, 15, 88761, 335, 3121] : List Int)) := ⟨_, rfl⟩
  replace H : (if 0 ≤ (Int.tmod (wrap64 (a0)) 6) then (if (Int.tmod (wrap64 (a0)) 6) < (y152.length : Int) then (some (rd y152 (Int.tmod (wrap64 (a0)) 6))) else (none)) else (none)) = some r := by first | (rw [hy152]; with_reducible exact H) | (have H2_ := (Option.bind_some _ _).symm.trans H; rw [hy152]; with_reducible exact H2_) | (have H2_ := (Option.bind_some _ _).symm.trans H; with_reducible exact H2_) | with_reducible exact H | (rw [hy152]; exact H) | exact H
  have Ny152 := Aside0.mk hy152
  clear hy152
  obtain ⟨ji2, hji2⟩ : ∃ j_ : Int, (Int.tmod (wrap64 (a0)) 6) = j_ := ⟨_, rfl⟩
  replace H : (if 0 ≤ (ji2) then (if (ji2) < (y152.length : Int) then (some (rd y152 (ji2))) else (none)) else (none)) = some r := by first | (rw [hji2] at H; exact H) | (simp only [hji2] at H ⊢; exact H)
  by_cases c3 : 0 ≤ (ji2)
  · rw [if_pos c3] at H
    have c3b0 : decide (0 ≤ (ji2)) = true := decide_eq_true c3
    clear c3
    by_cases c4 : (ji2) < (y152.length : Int)
    · rw [if_pos c4] at H
      have c4b0 : decide ((ji2) < (y152.length : Int)) = true := decide_eq_true c4
      clear c4
      obtain rfl := Option.some.inj H
      go_enter Tryd.func10, Tryd.ntmps10
      go_wp2_with (first | ((with_reducible refine gate_dst (N := 4) rfl ?_); refine Kd.R_lit (Kd.int .i64) _ 3 ?hg (N := 4) ?hd (xs := ([1024, 820, 15, 88761, 335, 3121] : List Int)) (inner := [.int .i64 1024, .int .i64 820, .int .i64 15, .int .i64 88761, .int .i64 335, .int .i64 3121]) (ok := fun _ => True) (okp := fun _ => True) ?hr ?hp (fun _ hk => hk) trivial (Below.refl _ _) (Nat.le_refl _) (by simp) ?_; (case hd => rfl); (case hg => rfl); (case hr => first | (go_simp; done) | (go_simp; rfl)); (case hp => exact (Reps.one (show Kd.M (Kd.int .i64) _ _ _ 1024 [.int .i64 1024] from rfl) (Reps.one (show Kd.M (Kd.int .i64) _ _ _ 820 [.int .i64 820] from rfl) (Reps.one (show Kd.M (Kd.int .i64) _ _ _ 15 [.int .i64 15] from rfl) (Reps.one (show Kd.M (Kd.int .i64) _ _ _ 88761 [.int .i64 88761] from rfl) (Reps.one (show Kd.M (Kd.int .i64) _ _ _ 335 [.int .i64 335] from rfl) (Reps.one (show Kd.M (Kd.int .i64) _ _ _ 3121 [.int .i64 3121] from rfl) (Reps.none _ _)))))))); intro v153 w5 ho6 hb hg_ hnew_; clear hg_ hnew_; (first | rw [← Ny152.out] at ho6 | (simp only [Int.reduceToNat] at ho6; rw [← Ny152.out] at ho6)); have n0_ := Aside0.mk (Kd.R_lower ho6 (below_size (by repeat (first | (with_reducible first | exact HB.out | apply below_alloc | apply pw_below_drewN | apply below_drew1) | exact HB.out)))); have n1_ := Aside0.mk (below_step (by repeat (first | (with_reducible first | exact HB.out | apply below_alloc | apply pw_below_drewN | apply below_drew1) | exact HB.out)) hb); clear HB; have HO154 := n0_; have HB := n1_; clear n0_ n1_; clear hb ho6; obtain ⟨Ao7, co7, eo7⟩ := Kd.R_slice HO154.out; subst eo7; have p155 : 0 ≤ ((ji2) : Int) := of_decide_eq_true (by first | (with_reducible assumption) | assumption); have q155 : (ji2) < (y152.length : Int) := of_decide_eq_true (by first | (with_reducible assumption) | assumption); obtain ⟨ad155, e155, hx155_0⟩ := Kd.at_int (Kd.R_reads' HO154.out).2.2 (ji2) p155 q155; cases e155; replace p155 := eq_true p155; replace q155 := eq_true q155))
      go_ret
      exact ⟨by first | rfl | (simp [errW_none, errW_some] <;> rfl) | (simp only [← hji2]; first | rfl | (simp [errW_none, errW_some] <;> rfl)) | (simp [*, errW_none, errW_some] <;> rfl), by repeat (first | (with_reducible first | exact HB.out | apply below_alloc | apply pw_below_drewN | apply below_drew1) | exact HB.out)⟩
    · rw [if_neg c4] at H
      exact absurd H (by simp)
  · rw [if_neg c3] at H
    exact absurd H (by simp)
def turnspitlaw12_min2.f (a0 : Int) (a1 : Int) : Option (Int) := if a0 < a1 then (some a0) else (some a1)
set_option maxHeartbeats 8000000 in
set_option maxRecDepth 100000 in
theorem turnspitlaw12_min2.calls (a0 : Int) (a1 : Int) (r : Int) (w : World) (hT : Tm.Emp w) (h : turnspitlaw12_min2.f a0 a1 = some r) :
    Calls Tryd.prog 9 #[.int .i64 a0, .int .i64 a1] w fun e w' => e = .returned (.int .i64 r) ∧ Drawn0 w w' := by
  have H : (if a0 < a1 then (some a0) else (some a1)) = some r := h
  clear h
  by_cases c3 : a0 < a1
  · rw [if_pos c3] at H
    have c3b0 : decide (a0 < a1) = true := decide_eq_true c3
    clear c3
    obtain rfl := Option.some.inj H
    go_enter Tryd.func9, Tryd.ntmps9
    go_wp2
    go_ret
    exact ⟨by first | rfl | (simp; done) | (simp [*]; done), by repeat (first | exact Drawn0.refl _ | apply Drawn0.step)⟩
  · rw [if_neg c3] at H
    have c3b0 : decide (a0 < a1) = false := decide_eq_false c3
    clear c3
    obtain rfl := Option.some.inj H
    go_enter Tryd.func9, Tryd.ntmps9
    go_wp2
    go_ret
    exact ⟨by first | rfl | (simp; done) | (simp [*]; done), by repeat (first | exact Drawn0.refl _ | apply Drawn0.step)⟩
end Go.Proofs.YtnkhnnojdlgfjaaDoor.QFp
end
