/- A tree at work: what it is told as. No condition. Written by hand. -/
import Derived.Test.YtfapmcpmfeigbaaDoorTm2
namespace Go.Proofs.YtfapmcpmfeigbaaDoor.Tm
open Go.RowKit Go Go.Proofs Go.Proofs.YtfapmcpmfeigbaaDoor Go.Proofs.YtfapmcpmfeigbaaDoor.Tr Go.Proofs.YtfapmcpmfeigbaaDoorW.PrintWords Go.Proofs.YtfapmcpmfeigbaaDoorW.PrintLast Go.Proofs.YtfapmcpmfeigbaaDoorW.PrintMore
set_option linter.unusedVariables false
set_option linter.unusedSimpArgs false
theorem results_c1 {P : Program} {fn : Func} {p : Tmp} {ty : TypeId} (h : fn.results = #[.cell p ty]) (tmps : Array Value) (w : World) (g : Nat) (t : TypeId) (cs : Array Value) (fr : Nat × Nat) (d : TypeDesc)
    (hp : tmps.getD p undef = .pointer (some ⟨g, 0, none⟩)) (hg : w.heap[g]? = some (.cells cs t fr))
    (hu : P.underlying ty = some d) (hd : (match d with | .struct _ | .array _ _ => true | _ => false) = true) (hi : (P.info? ty).map (·.size) = some cs.size) :
    (results fn tmps).run P w = .ok (.agg cs) w := by
  have hp' : tmps[p]?.getD undef = .pointer (some ⟨g, 0, none⟩) := by simpa using hp
  simp [results, h, hp', asAddr, run_loadVar_row w g t ty cs fr d hg hu hd hi]
variable {A : Option Addr} {c : Nat} {w : World} {g b : Nat} {t : St}
set_option maxHeartbeats 4000000 in
set_option maxRecDepth 100000 in
theorem tree_ (h : Wk A c w g b t) : Calls Tryd.prog 37 #[.pointer (some ⟨g, 0, none⟩)] w fun e w' => e = .returned (.agg #[.int .i64 t.rt, .slice A t.ns.length c]) ∧ Below w.heap.size w w' := by
  have H := Aside0.mk h
  clear h
  go_enter Tryd.func37, Tryd.ntmps37
  go_upto_region 1 with (fail)
  have HB := Aside0.mk (below_alloc (Below.refl w.heap.size w) (.cells #[.int .i64 0, .slice none 0 0] 24))
  have HG := Aside0.mk (blk_new w (.cells #[.int .i64 0, .slice none 0 0] 24))
  have HW := Aside0.mk (H.out.alloc (.cells #[.int .i64 0, .slice none 0 0] 24))
  have HN := Aside0.mk (show w.heap.size ≤ w.heap.size from Nat.le_refl _)
  generalize w.alloc (.cells #[.int .i64 0, .slice none 0 0] 24) = W1 at HB HG HW ⊢
  generalize hgw : w.heap.size = gw at HG ⊢
  have HGW := Aside0.mk hgw
  clear hgw
  have c0 := HW.out.c0
  have c1 := HW.out.c1
  have d0 := (show W1.cell? ⟨gw, 0, none⟩ = some (.int .i64 0) from (blk_cell HG.out 0).trans rfl)
  have d1 := (show W1.cell? ⟨gw, 1, none⟩ = some (.slice none 0 0) from (blk_cell HG.out 1).trans rfl)
  have f0 := blk_frozen HG.out 0
  have f1 := blk_frozen HG.out 1
  go_region
  all_goals go_wp2
  have hst := blk_set (blk_set HG.out 0 (.int .i64 t.rt)) 1 (.slice A t.ns.length c)
  refine bodyPost_ret (results_c1 (cs := #[.int .i64 t.rt, .slice A t.ns.length c]) rfl _ _ gw 24 (0, 0) _ rfl hst Tryd.underlying24 rfl (by kernel_rfl)) rfl ?_
  exact ⟨rfl, Below.drew (Below.setCell (Below.setCell HB.out (p := ⟨gw, 0, none⟩) (Nat.le_of_eq HGW.out) _) (p := ⟨gw, 1, none⟩) (Nat.le_of_eq HGW.out) _)⟩
end Go.Proofs.YtfapmcpmfeigbaaDoor.Tm
