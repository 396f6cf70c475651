/- What a world holds of the table of weights, and the two functions that read it: weight.Of and weight.Nice, by their contracts. Condition: the table lies in block 0 as it was laid. -/
import Derived.Below
import Derived.WalkKit
import Derived.LoopTactic
import Derived.RowKit
import Derived.Outline
import Derived.Lib.Hide
import Derived.LaidMore
import Derived.Lib.LaidTab
import Derived.KernelRfl
import Derived.Test.YteppeacpjpgobaaDoorProg
import Derived.Test.YteppeacpjpgobaaDoorRows
import Derived.Test.YteppeacpjpgobaaDoorWWords
namespace Go.Proofs.YteppeacpjpgobaaDoor.Table
open Go.RowKit Go Go.Proofs Go.Proofs.YteppeacpjpgobaaDoor Go.Proofs.YteppeacpjpgobaaDoorW.PrintWords

def ws : List Int := [88761, 71755, 56483, 46273, 36291, 29154, 23254, 18705, 14949, 11916, 9548, 7620, 6100, 4904, 3906, 3121, 2501, 1991, 1586, 1277, 1024, 820, 655, 526, 423, 335, 272, 215, 172, 137, 110, 87, 70, 56, 45, 36, 29, 23, 18, 15]
/-- the table lies in block 0 -/
def Tab (w : World) : Prop := 0 < w.heap.size ∧ ∀ i, i < 40 → w.cell? ⟨0, i, none⟩ = some (.int .i64 (ws.getD i 0))
theorem Tab.below {w W : World} (h : Tab w) (hb : Below w.heap.size w W) : Tab W :=
  ⟨Nat.lt_of_lt_of_le h.1 hb.size, fun i hi => (hb.cell (p := ⟨0, i, none⟩) h.1).trans (h.2 i hi)⟩
theorem Tab.drewN {w : World} (h : Tab w) (n : Nat) : Tab (w.drewN n) := h
theorem Tab.drew {w : World} (h : Tab w) : Tab w.drew := h
theorem ws_bd (i : Nat) : 0 ≤ ws.getD i 0 ∧ ws.getD i 0 ≤ 88761 := by
  by_cases h : i < 40
  · have : ∀ j : Fin 40, 0 ≤ ws.getD j.1 0 ∧ ws.getD j.1 0 ≤ 88761 := by decide
    exact this ⟨i, h⟩
  · rw [List.getD_eq_getElem?_getD, List.getElem?_eq_none (by simp [ws]; omega)]; simp

def Of.f (a0 : Int) : Option (Int × Int) := if a0 < -20 then some (0, 1) else if a0 > 19 then some (0, 1) else some (rd ws (a0 + 20), 0)
set_option maxHeartbeats 400000 in
theorem of_any (a0 : Int) (r1 r2 : Int) (w : World) (hT : Tab w) (h : Of.f a0 = some (r1, r2)) :
    Calls Tryd.prog 10 #[.int .i64 a0] w fun e w' => e = .returned (.tuple #[.int .i64 r1, .int .i64 r2]) ∧ Drawn0 w w' := by
  unfold Of.f at h
  by_cases c1 : a0 < -20
  · rw [if_pos c1] at h
    cases h
    go_enter Tryd.func10, Tryd.ntmps10
    go_wp2
    go_ret2
    exact ⟨rfl, Drawn0.refl _⟩
  · rw [if_neg c1] at h
    by_cases c2 : a0 > 19
    · rw [if_pos c2] at h
      cases h
      go_enter Tryd.func10, Tryd.ntmps10
      go_wp2
      go_ret2
      exact ⟨rfl, Drawn0.refl _⟩
    · rw [if_neg c2] at h
      obtain ⟨k, rfl⟩ : ∃ k : Nat, a0 = (k : Int) - 20 := ⟨(a0 + 20).toNat, by omega⟩
      have hk : k < 40 := by omega
      have e : (k : Int) - 20 + 20 = k := by omega
      rw [e] at h
      unfold rd at h
      simp only [Int.toNat_natCast] at h
      obtain ⟨e1, e2⟩ := Prod.mk.inj (Option.some.inj h)
      have hc := hT.2 k hk
      rw [e1] at hc
      clear e h e1
      subst e2
      go_enter Tryd.func10, Tryd.ntmps10
      go_wp2
      go_ret2
      exact ⟨rfl, Drawn0.refl _⟩

/-- the least place from one on whose weight is no more -/
def nn : List Int → Int → Int → Int
  | [], _, _ => 19
  | x :: t, i, a => if x ≤ a then i else nn t (i + 1) a
def Nice.f (a0 : Int) : Option Int := some (nn ws (-20) a0)
theorem nn_step (k : Nat) (hk : k < 40) (i a : Int) : nn (ws.drop k) i a = if ws.getD k 0 ≤ a then i else nn (ws.drop (k + 1)) (i + 1) a := by
  have hl : k < ws.length := by simpa [ws] using hk
  rw [List.drop_eq_getElem_cons hl, List.getD_eq_getElem?_getD, List.getElem?_eq_getElem hl]; rfl
set_option maxHeartbeats 800000 in
theorem nice_any (a0 : Int) (r : Int) (w : World) (hT : Tab w) (h : Nice.f a0 = some r) :
    Calls Tryd.prog 15 #[.int .i64 a0] w fun e w' => e = .returned (.int .i64 r) ∧ Drawn0 w w' := by
  obtain rfl := Option.some.inj h
  clear h
  go_enter Tryd.func15, Tryd.ntmps15
  go_wp2
  go_loop [4] (fun i => ∃ k : Nat, k ≤ 40 ∧ i = .int .i64 k ∧ Hid (nn ws (-20) a0 = nn (ws.drop k) (-20 + k) a0)) (fun i => 40 - (intOf i).toNat)
  case atStart => exact ⟨0, by omega, rfl, Lib.hid rfl⟩
  case round =>
    obtain ⟨k, hk, rfl, he⟩ := hrel
    by_cases hlt : k < 40
    · have hc := hT.2 k hlt
      have hs := Lib.hid (nn_step k hlt (-20 + k) a0)
      obtain ⟨x, hx⟩ : ∃ x, x = ws.getD k 0 := ⟨_, rfl⟩
      rw [← hx] at hc hs
      clear hx
      by_cases c : x ≤ a0
      · go_wp2
        go_ret
        exact ⟨by rw [he.out, hs.out, if_pos c]; rfl, Drawn0.refl _⟩
      · go_wp2
        go_round
        case rel => exact ⟨k + 1, by omega, by go_num, Lib.hid (by rw [he.out, hs.out, if_neg c]; congr 1; omega)⟩
        case measure => simp [intOf]; omega
    · obtain rfl : k = 40 := by omega
      go_wp2
      go_ret
      exact ⟨by rw [he.out]; rfl, Drawn0.refl _⟩

theorem gW : Tryd.prog.globalNamed "turnspit/weight.weights" = some 0 := by kernel_rfl
theorem tW : (Tryd.prog.globals[0]?).map (·.type) = some 40 := by kernel_rfl
/-- what the row's condition gives -/
theorem Tab_of_laid {W : World} (h : laidMetH Tryd.prog [("turnspit/weight.weights", Rows.laid_turnspit_weight_weights)] W) : Tab W := by
  rw [MakeChecks.laidMetH_plain _ _ _ (by kernel_rfl)] at h
  have hI : Lib.TabIs Tryd.prog W "turnspit/weight.weights" .i64 ws := Lib.tabIs_of_head gW tW Tryd.underlying40 Tryd.underlying3 (by kernel_rfl) (by kernel_rfl) h
  have hc := fun i (hi : i < 40) => hI.cell gW i (by simpa [ws] using hi)
  exact ⟨World.block_lt_of_cell? W _ (hc 0 (by decide)), hc⟩

end Go.Proofs.YteppeacpjpgobaaDoor.Table
