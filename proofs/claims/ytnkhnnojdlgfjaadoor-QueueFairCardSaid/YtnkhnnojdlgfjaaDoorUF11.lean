/- Parts of the proof, joined: Tm8, Tm9. -/
import Derived.Test.YtnkhnnojdlgfjaaDoorUF7
import Derived.Laws.EntriesVeiled
import Derived.Test.YtnkhnnojdlgfjaaDoorUF6
section
namespace Go.Proofs.YtnkhnnojdlgfjaaDoor.Tm
open Go.RowKit Go Go.Proofs Go.Proofs.YtnkhnnojdlgfjaaDoor Go.Proofs.YtnkhnnojdlgfjaaDoor.Tr Go.Proofs.YtnkhnnojdlgfjaaDoorW.PrintWords Go.Proofs.YtnkhnnojdlgfjaaDoorW.PrintLast Go.Proofs.YtnkhnnojdlgfjaaDoorW.PrintMore
set_option linter.unusedVariables false
set_option linter.unusedSimpArgs false
theorem infoN : (Tryd.prog.info? 74).map (fun i => (i.zero, i.size, i.bytes)) = some (some (.agg #[(.bool false), (.bool false), (.int .u64 0), (.int .i64 0), (.int .i64 0), (.int .i64 0)]), 6, 40) := by kernel_rfl
def kb : Kd (Bool × Bool × Int × Int × Int × Int) := Kd.pair Kd.bool (Kd.pair Kd.bool (Kd.pair (Kd.int .u64) (Kd.pair (Kd.int .i64) (Kd.pair (Kd.int .i64) (Kd.int .i64)))))
def tup (x : Nd) : Bool × Bool × Int × Int × Int × Int := (x.inn, x.red, x.v, x.l, x.r, x.u)
def kn : Kd Nd := Kd.iso kb tup
theorem kn_open {w : World} {x : Nd} {cs : List Value} (h : kn.K w x cs) : cs = nv x := by
  obtain ⟨_, _, rfl, rfl, ⟨_, _, rfl, rfl, ⟨_, _, rfl, rfl, ⟨_, _, rfl, rfl, ⟨_, _, rfl, rfl, rfl⟩⟩⟩⟩⟩ := h
  exact rfl
theorem kn_openM {w : World} {base : Nat} {ok : Nat → Prop} {x : Nd} {cs : List Value} (h : kn.M w base ok x cs) : cs = nv x := by
  obtain ⟨_, _, rfl, rfl, ⟨_, _, rfl, rfl, ⟨_, _, rfl, rfl, ⟨_, _, rfl, rfl, ⟨_, _, rfl, rfl, rfl⟩⟩⟩⟩⟩ := h
  exact rfl
theorem kn_mkM (w : World) (base : Nat) (ok : Nat → Prop) (x : Nd) : kn.M w base ok x (nv x) := ⟨[.bool x.inn], [.bool x.red, .int .u64 x.v, .int .i64 x.l, .int .i64 x.r, .int .i64 x.u], rfl, rfl, ⟨[.bool x.red], [.int .u64 x.v, .int .i64 x.l, .int .i64 x.r, .int .i64 x.u], rfl, rfl, ⟨[.int .u64 x.v], [.int .i64 x.l, .int .i64 x.r, .int .i64 x.u], rfl, rfl, ⟨[.int .i64 x.l], [.int .i64 x.r, .int .i64 x.u], rfl, rfl, ⟨[.int .i64 x.r], [.int .i64 x.u], rfl, rfl, rfl⟩⟩⟩⟩⟩
theorem reps_flat : ∀ {l : List Nd} {cs : List Value}, Reps (fun (x : Nd) c => c = nv x) 6 l cs → cs = flat l
  | [], cs, h => by
    have := h.1
    simp only [List.length_nil, Nat.zero_mul] at this
    exact List.eq_nil_of_length_eq_zero this
  | x :: t, cs, h => by
    have h0 := h.2 0 x rfl
    rw [Nat.zero_mul, List.drop_zero] at h0
    have h1 : Reps (fun (x : Nd) c => c = nv x) 6 t (cs.drop 6) := by
      refine ⟨by rw [List.length_drop, h.1, List.length_cons]; omega, fun j p hp => ?_⟩
      rw [List.drop_drop, show 6 + j * 6 = (j + 1) * 6 by omega]
      exact h.2 (j + 1) p hp
    rw [flat, ← reps_flat h1, ← List.take_append_drop 6 cs, h0]
    rfl
theorem flat_reps : ∀ l : List Nd, Reps (fun (x : Nd) c => c = nv x) 6 l (flat l)
  | [] => Reps.none _ _
  | x :: t => by
    refine ⟨by rw [flat_length], fun j p hp => ?_⟩
    match j with
    | 0 => injection hp with hp; subst hp; rfl
    | j + 1 =>
      rw [flat, show (j + 1) * 6 = (nv x).length + j * 6 by show (j + 1) * 6 = 6 + j * 6; omega, List.drop_length_add_append]
      exact (flat_reps t).2 j p hp
theorem R_arr {w : World} {base : Nat} {ok : Nat → Prop} {v : Value} {l : List Nd} (h : kn.R 74 w base ok v l) (h0 : 0 < l.length) : ∃ g cap rs, ∃ cur : Array Value, v = .slice (some ⟨g, 0, none⟩) l.length cap ∧ base ≤ g ∧ ok g ∧ l.length ≤ cap ∧ cap ≤ maxLen ∧ l.length * 6 + rs.length = cap * 6 ∧ w.heap[g]? = some (.cells cur 74 (0, 0)) ∧ cur.toList = flat l ++ rs := by
  obtain ⟨hok, inner, ⟨hl, ho⟩, hr⟩ := h
  have hr' : Reps (fun (x : Nd) c => c = nv x) 6 l inner := ⟨hr.1, fun j p hp => kn_openM (hr.2 j p hp)⟩
  have hi := reps_flat hr'
  rcases ho with ⟨_, hn⟩ | ⟨g, cap, cur, rfl, hg, hh, hn, hm, hs, ht⟩
  · omega
  · have hs' : cur.size = cap * 6 := hs
    have ht' : cur.toList.take (l.length * 6) = inner := ht
    refine ⟨g, cap, cur.toList.drop (l.length * 6), cur, rfl, hg, hok g rfl, hn, hm, ?_, hh, ?_⟩
    · have h2 : l.length * 6 ≤ cap * 6 := by omega
      rw [List.length_drop, show cur.toList.length = cap * 6 from hs']; omega
    · rw [← hi, ← ht', List.take_append_drop]
theorem arr_R {rs : List Value} {w : World} {g base cap : Nat} {ok : Nat → Prop} {l : List Nd} {cur : Array Value} (h1 : w.heap[g]? = some (.cells cur 74 (0, 0))) (h2 : cur.toList = flat l ++ rs) (hb : base ≤ g) (hok : ok g) (hn : l.length ≤ cap) (hm : cap ≤ maxLen) (hs : l.length * 6 + rs.length = cap * 6) : kn.R 74 w base ok (.slice (some ⟨g, 0, none⟩) l.length cap) l := by
  have hsz : cur.size = cap * 6 := by rw [← Array.length_toList, h2, List.length_append, flat_length, hs]
  refine ⟨fun k hk => by injection hk with hk; subst hk; exact hok, flat l, ⟨flat_length l, .inr ⟨g, cap, cur, rfl, hb, h1, hn, hm, hsz, ?_⟩⟩, ?_⟩
  · show cur.toList.take (l.length * 6) = flat l
    rw [h2, ← flat_length, List.take_left]
  · exact ⟨(flat_reps l).1, fun j p hp => by rw [show ((flat l).drop (j * kn.sz)).take kn.sz = nv p from (flat_reps l).2 j p hp]; exact kn_mkM _ _ _ _⟩
theorem nil_of_none {w : World} {l : List Nd} (hr : kn.C w none l.length l) : l = [] := by
  cases l with
  | nil => rfl
  | cons x t =>
    exfalso
    obtain ⟨ad, c, h, _⟩ := ReadsRow.get_ hr emp 0 (by omega) (by simp)
    cases h
set_option maxHeartbeats 2000000 in
set_option maxRecDepth 100000 in
theorem clone_ (A0 : Option Addr) (c0 : Nat) (l0 : List Nd) (w : World) (hr : kn.C w A0 l0.length l0) (hl : l0.length ≤ 1000000) :
    Calls Tryd.prog 77 #[.slice A0 l0.length c0] w fun e w' => ∃ v0_ : Value, e = .returned v0_ ∧ kn.R 74 w' w.heap.size (fun _ => True) v0_ l0 ∧ Below w.heap.size w w' := by
  have q22 : ∀ (w : World) (a : Option Addr) (n c n' c' : Nat), (binOp .eql 23 (.slice a n c) (.slice none n' c')).run Tryd.prog w = .ok (.bool a.isNone) w := fun w a n c n' c' => Lib.run_eql_slice_nil w _ _ a n c n' c' Tryd.underlying23
  cases A0 with
  | none =>
    obtain rfl := nil_of_none hr
    clear hr
    go_enter Tryd.func77, Tryd.ntmps77
    go_wp2
    go_ret
    exact ⟨_, rfl, Kd.R_nil _ _ _ _ _, Below.refl _ _⟩
  | some a =>
    have H := Aside0.mk hr
    clear hr
    go_enter Tryd.func77, Tryd.ntmps77
    go_wp2_with (at_builtin; refine Kd.R_append_rows kn (Rr := kn.K (w.alloc (.cells #[] 74))) (w0 := w) w.heap.size rfl (.tmp 5) (.tmp 6) 23 74 (.agg #[(.bool false), (.bool false), (.int .u64 0), (.int .i64 0), (.int .i64 0), (.int .i64 0)]) 40 rfl Tryd.underlying23 infoN rfl (show 0 < kn.sz by show 0 < 6; omega) (by omega) _ [] l0 (some a) l0.length c0 (fun _ => True) (fun _ => False) rfl rfl ?aO ?aR ?aK (fun _ h => h.elim) (fun _ _ => trivial) ?aB ?aS ?aL ?_)
    case aO => exact ⟨fun _ _ => trivial, [], World.ownsRow_made w #[] 0 (Nat.le_refl _) (Nat.zero_le _) (by simp), Reps.none _ _⟩
    case aR => exact (Kd.C_below H.out ((Below.refl _ w).alloc (Nat.le_refl _) _))
    case aK => intro x cs h; rw [kn_open h]; exact kn_mkM _ _ _ _
    case aB => exact (Below.refl _ w).alloc (Nat.le_refl _) _
    case aS => simp
    case aL => simp; omega
    intro v1 w1 hR hB hg _
    have HR := Aside0.mk hR
    clear hR hg
    go_wp2
    go_ret
    exact ⟨v1, rfl, by simpa using HR.out, hB⟩
structure BPost (w : World) (t : St) (e : Ending) (w' : World) : Prop where mk ::
  out : ∃ (A : Option Addr) (c g b : Nat), e = .returned (.pointer (some ⟨g, 0, none⟩)) ∧ Wk A c w' g b t ∧ w.heap.size ≤ g ∧ w.heap.size ≤ b ∧ Below w.heap.size w w' ∧ t.ns.length ≤ c ∧ (0 < t.ns.length → c ≤ maxLen ∧ ∃ (cur : Array Value) (rs : List Value), w'.heap[b]? = some (.cells cur 74 (0, 0)) ∧ cur.toList = flat t.ns ++ rs ∧ t.ns.length * 6 + rs.length = c * 6)
structure Own (w wq : World) (t : St) (A : Option Addr) (c : Nat) (g : Nat) : Prop where mk ::
  out : ∃ (cur : Array Value) (rs : List Value), A = some ⟨g, 0, none⟩ ∧ w.heap.size ≤ g ∧ g < wq.heap.size ∧ c ≤ maxLen ∧ wq.heap[g]? = some (.cells cur 74 (0, 0)) ∧ cur.toList = flat t.ns ++ rs ∧ t.ns.length * 6 + rs.length = c * 6
theorem own_of {w wq : World} {t : St} {A : Option Addr} {c base : Nat} (h : kn.R 74 wq base (fun _ => True) (.slice A t.ns.length c) t.ns) (hb : w.heap.size ≤ base) (h0 : 0 < t.ns.length) : ∃ g, Own w wq t A c g := by
  obtain ⟨g, cap, rs, cur, e, h1, _, h2, h3, h4, h5, h6⟩ := R_arr h h0
  injection e with e1 e2 e3
  subst e3
  exact ⟨g, cur, rs, e1, by omega, (Array.getElem?_eq_some_iff.1 h5).1, h3, h5, h6, h4⟩
theorem begin_fin {w wq W3 : World} {t : St} {A : Option Addr} {c gw : Nat} {n : Nat} (hB : Below w.heap.size w W3) (hl : t.ns.length ≤ 1000000) (hlc : t.ns.length ≤ c) (hgw : gw = wq.heap.size) (hle : w.heap.size ≤ gw) (hown : 0 < t.ns.length → ∃ g, Own w wq t A c g) (h3 : ∀ k, k < wq.heap.size → W3.heap[k]? = wq.heap[k]?) (hG : W3.heap[gw]? = some (.cells #[.slice A t.ns.length c, .int .i64 t.rt, .nilFunc, .nilFunc] 88 (0, 0))) :
    BPost w t (.returned (.pointer (some ⟨gw, 0, none⟩))) (((W3.setCell ⟨gw, 2, none⟩ (.func (.func 61) #[.pointer (some ⟨gw, 0, none⟩)] #[])).setCell ⟨gw, 3, none⟩ (.func (.func 64) #[.pointer (some ⟨gw, 0, none⟩)] #[])).drew) := by
  have hobj : (((W3.setCell ⟨gw, 2, none⟩ (.func (.func 61) #[.pointer (some ⟨gw, 0, none⟩)] #[])).setCell ⟨gw, 3, none⟩ (.func (.func 64) #[.pointer (some ⟨gw, 0, none⟩)] #[])).drew).heap[gw]? = some (.cells (objV A t.ns.length c t.rt gw) 88 (0, 0)) := blk_set (blk_set hG 2 _) 3 _
  have hoth : ∀ k, k ≠ gw → (((W3.setCell ⟨gw, 2, none⟩ (.func (.func 61) #[.pointer (some ⟨gw, 0, none⟩)] #[])).setCell ⟨gw, 3, none⟩ (.func (.func 64) #[.pointer (some ⟨gw, 0, none⟩)] #[])).drew).heap[k]? = W3.heap[k]? := fun k hk => by
    show ((W3.setCell _ _).setCell _ _).heap[k]? = _
    rw [Below.heap_setCell _ _ _ _ (by simpa using hk), Below.heap_setCell _ _ _ _ (by simpa using hk)]
  have hbel : Below w.heap.size w (((W3.setCell ⟨gw, 2, none⟩ (.func (.func 61) #[.pointer (some ⟨gw, 0, none⟩)] #[])).setCell ⟨gw, 3, none⟩ (.func (.func 64) #[.pointer (some ⟨gw, 0, none⟩)] #[])).drew) := Below.drew (Below.setCell (Below.setCell hB (p := ⟨gw, 2, none⟩) hle _) (p := ⟨gw, 3, none⟩) hle _)
  by_cases h0 : 0 < t.ns.length
  · obtain ⟨g, cur, rs, e1, e2, e3, e4, e5, e6, e7⟩ := hown h0
    have hb : (((W3.setCell ⟨gw, 2, none⟩ (.func (.func 61) #[.pointer (some ⟨gw, 0, none⟩)] #[])).setCell ⟨gw, 3, none⟩ (.func (.func 64) #[.pointer (some ⟨gw, 0, none⟩)] #[])).drew).heap[g]? = some (.cells cur 74 (0, 0)) := (hoth g (by omega)).trans ((h3 g e3).trans e5)
    exact ⟨A, c, gw, g, rfl, ⟨hobj, by omega, hl, fun _ => ⟨e1, cur, rs, hb, e6⟩, fun _ => ⟨hlc, e4, fun cur2 hc => by
      have e9 := hb.symm.trans hc
      injection e9 with e9
      injection e9 with e9
      rw [← e9, ← Array.length_toList, e6, List.length_append, flat_length, e7]⟩⟩, hle, e2, hbel, hlc, fun _ => ⟨e4, cur, rs, hb, e6, e7⟩⟩
  · exact ⟨A, c, gw, gw + 1, rfl, ⟨hobj, by omega, hl, fun h => absurd h h0, fun h => absurd h h0⟩, hle, by omega, hbel, hlc, fun h => absurd h h0⟩
set_option maxHeartbeats 4000000 in
set_option maxRecDepth 100000 in
theorem begin_ (A0 : Option Addr) (c0 : Nat) (t : St) (w : World) (hr : kn.C w A0 t.ns.length t.ns) (hl : t.ns.length ≤ 1000000) :
    Calls Tryd.prog 52 #[.agg #[.int .i64 t.rt, .slice A0 t.ns.length c0]] w fun e w' => BPost w t e w' := by
  have HR := Aside0.mk hr
  have HL := Aside0.mk hl
  clear hr hl
  go_enter Tryd.func52, Tryd.ntmps52
  go_upto_region 1 with (fail)
  have HB1 := Aside0.mk (below_alloc (Below.refl w.heap.size w) (.cells #[.int .i64 t.rt, .slice A0 t.ns.length c0] 25))
  have HX1 := Aside0.mk (show (w.alloc (.cells #[.int .i64 t.rt, .slice A0 t.ns.length c0] 25)).heap[w.heap.size]? = some (.cells #[.int .i64 t.rt, .slice A0 t.ns.length c0] 25 (0, 0)) from blk_new w _)
  generalize w.alloc (.cells #[.int .i64 t.rt, .slice A0 t.ns.length c0] 25) = W1 at HB1 HX1 ⊢
  have a0 := (show W1.cell? ⟨w.heap.size, 0, none⟩ = some (.int .i64 t.rt) from (blk_cell HX1.out 0).trans rfl)
  have a1 := (show W1.cell? ⟨w.heap.size, 1, none⟩ = some (.slice A0 t.ns.length c0) from (blk_cell HX1.out 1).trans rfl)
  have HBD := Aside0.mk (Below.drew HB1.out)
  have HXD := Aside0.mk (show W1.drew.heap[w.heap.size]? = some (.cells #[.int .i64 t.rt, .slice A0 t.ns.length c0] 25 (0, 0)) from HX1.out)
  go_region_with (go_at_call 77; refine (clone_ A0 c0 t.ns _ (Kd.C_below HR.out HBD.out) HL.out).mono ?_; rintro e wq ⟨v, rfl, hR, hb⟩; obtain ⟨A1, c1, hv, hlc, _⟩ := Kd.R_reads hR; subst hv; have HRR := Aside0.mk hR; have HB2 := Aside0.mk (below_step HBD.out hb); have HX2 := Aside0.mk (blk_below HXD.out hb); have HLC := Aside0.mk hlc; have HWQ := Aside0.mk hb.size; clear hR hb hlc; have a2 := (show wq.cell? ⟨w.heap.size, 0, none⟩ = some (.int .i64 t.rt) from (blk_cell HX2.out 0).trans rfl))
  all_goals
    have HB3 := Aside0.mk (below_alloc HB2.out (.cells #[.slice A1 t.ns.length c1, .int .i64 t.rt, .nilFunc, .nilFunc] 88))
    have HO3 := Aside0.mk (fun h0 => own_of HRR.out (show w.heap.size ≤ W1.drew.heap.size from HBD.out.size) h0)
    have H33 := Aside0.mk (fun k hk => (below_alloc (Below.refl wq.heap.size wq) (.cells #[.slice A1 t.ns.length c1, .int .i64 t.rt, .nilFunc, .nilFunc] 88)).block k hk)
    have HG3 := Aside0.mk (blk_new wq (.cells #[.slice A1 t.ns.length c1, .int .i64 t.rt, .nilFunc, .nilFunc] 88))
    have HGE := Aside0.mk (show w.heap.size ≤ wq.heap.size from HB2.out.size)
    clear a0 a1 a2 HRR HX2 HB2 HWQ
    generalize wq.alloc (.cells #[.slice A1 t.ns.length c1, .int .i64 t.rt, .nilFunc, .nilFunc] 88) = W3 at HB3 HO3 HG3 H33 ⊢
    have HFIN := Aside0.mk (fun (gw : Nat) (hgw : gw = wq.heap.size) (hG : W3.heap[gw]? = some (.cells #[.slice A1 t.ns.length c1, .int .i64 t.rt, .nilFunc, .nilFunc] 88 (0, 0))) (hle : w.heap.size ≤ gw) => begin_fin (n := 0) HB3.out HL.out HLC.out hgw hle HO3.out H33.out hG)
    have HEQ := Aside0.mk (show wq.heap.size = wq.heap.size from rfl)
    generalize hgw : wq.heap.size = gw at HG3 HGE ⊢
    have HFI2 := Aside0.mk (HFIN.out gw hgw.symm HG3.out HGE.out)
    clear HFIN HEQ H33 HO3 hgw
    have b2 := (show W3.cell? ⟨gw, 2, none⟩ = some .nilFunc from (blk_cell HG3.out 2).trans rfl)
    have b3 := (show W3.cell? ⟨gw, 3, none⟩ = some .nilFunc from (blk_cell HG3.out 3).trans rfl)
    have d2 := blk_frozen HG3.out 2
    have d3 := blk_frozen HG3.out 3
    go_wp2
    go_region
  all_goals
    go_wp2
    go_ret
    exact HFI2.out
end Go.Proofs.YtnkhnnojdlgfjaaDoor.Tm
end
section
namespace Go.Proofs.YtnkhnnojdlgfjaaDoor.Tm
open Go.RowKit Go Go.Proofs Go.Proofs.YtnkhnnojdlgfjaaDoor Go.Proofs.YtnkhnnojdlgfjaaDoor.Tr Go.Proofs.YtnkhnnojdlgfjaaDoorW.PrintWords Go.Proofs.YtnkhnnojdlgfjaaDoorW.PrintLast Go.Proofs.YtnkhnnojdlgfjaaDoorW.PrintMore
set_option linter.unusedVariables false
set_option linter.unusedSimpArgs false
theorem results_c1 {P : Program} {fn : Func} {p : Tmp} {ty : TypeId} (h : fn.results = #[.cell p ty]) (tmps : Array Value) (w : World) (g : Nat) (t : TypeId) (cs : Array Value) (fr : Nat × Nat) (d : TypeDesc)
    (hp : tmps.getD p undef = .pointer (some ⟨g, 0, none⟩)) (hg : w.heap[g]? = some (.cells cs t fr))
    (hu : P.underlying ty = some d) (hd : (match d with | .struct _ | .array _ _ => true | _ => false) = true) (hi : (P.info? ty).map (·.size) = some cs.size) :
    (results fn tmps).run P w = .ok (.agg cs) w := by
  have hp' : tmps[p]?.getD undef = .pointer (some ⟨g, 0, none⟩) := by simpa using hp
  simp [results, h, hp', asAddr, run_loadVar_row w g t ty cs fr d hg hu hd hi]
variable {A : Option Addr} {c : Nat} {w : World} {g b : Nat} {t : St}
set_option maxHeartbeats 4000000 in
set_option maxRecDepth 100000 in
theorem tree_ (h : Wk A c w g b t) : Calls Tryd.prog 56 #[.pointer (some ⟨g, 0, none⟩)] w fun e w' => e = .returned (.agg #[.int .i64 t.rt, .slice A t.ns.length c]) ∧ Below w.heap.size w w' := by
  have H := Aside0.mk h
  clear h
  go_enter Tryd.func56, Tryd.ntmps56
  go_upto_region 1 with (fail)
  have HB := Aside0.mk (below_alloc (Below.refl w.heap.size w) (.cells #[.int .i64 0, .slice none 0 0] 25))
  have HG := Aside0.mk (blk_new w (.cells #[.int .i64 0, .slice none 0 0] 25))
  have HW := Aside0.mk (H.out.alloc (.cells #[.int .i64 0, .slice none 0 0] 25))
  have HN := Aside0.mk (show w.heap.size ≤ w.heap.size from Nat.le_refl _)
  generalize w.alloc (.cells #[.int .i64 0, .slice none 0 0] 25) = W1 at HB HG HW ⊢
  generalize hgw : w.heap.size = gw at HG ⊢
  have HGW := Aside0.mk hgw
  clear hgw
  have c0 := HW.out.c0
  have c1 := HW.out.c1
  have d0 := (show W1.cell? ⟨gw, 0, none⟩ = some (.int .i64 0) from (blk_cell HG.out 0).trans rfl)
  have d1 := (show W1.cell? ⟨gw, 1, none⟩ = some (.slice none 0 0) from (blk_cell HG.out 1).trans rfl)
  have f0 := blk_frozen HG.out 0
  have f1 := blk_frozen HG.out 1
  go_region
  all_goals go_wp2
  have hst := blk_set (blk_set HG.out 0 (.int .i64 t.rt)) 1 (.slice A t.ns.length c)
  refine bodyPost_ret (results_c1 (cs := #[.int .i64 t.rt, .slice A t.ns.length c]) rfl _ _ gw 25 (0, 0) _ rfl hst Tryd.underlying25 rfl (by kernel_rfl)) rfl ?_
  exact ⟨rfl, Below.drew (Below.setCell (Below.setCell HB.out (p := ⟨gw, 0, none⟩) (Nat.le_of_eq HGW.out) _) (p := ⟨gw, 1, none⟩) (Nat.le_of_eq HGW.out) _)⟩
end Go.Proofs.YtnkhnnojdlgfjaaDoor.Tm
end
