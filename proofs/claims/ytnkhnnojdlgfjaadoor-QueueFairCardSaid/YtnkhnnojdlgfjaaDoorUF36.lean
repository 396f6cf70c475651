/- Parts of the proof, joined: Q6. -/
import Derived.Test.YtnkhnnojdlgfjaaDoorUF35
namespace Go.Proofs.YtnkhnnojdlgfjaaDoor.Qw
open Go.RowKit Go Go.Proofs Go.Proofs.YtnkhnnojdlgfjaaDoor Go.Proofs.YtnkhnnojdlgfjaaDoor.Tr Go.Proofs.YtnkhnnojdlgfjaaDoor.Tk Go.Proofs.YtnkhnnojdlgfjaaDoor.Tm Go.Proofs.YtnkhnnojdlgfjaaDoor.Qu Go.Proofs.YtnkhnnojdlgfjaaDoorW.PrintWords Go.Proofs.YtnkhnnojdlgfjaaDoorW.PrintLast Go.Proofs.YtnkhnnojdlgfjaaDoorW.PrintMore
set_option linter.unusedVariables false
set_option linter.unusedSimpArgs false
variable {S : Nat → Prop} {A B : Option Addr} {c d : Nat} {w w' : World} {q : Q}
theorem right_cur {q : Q} (h : rightQ q = true) : rightA q.t q.mn = true ∧ CurOk q := by
  obtain ⟨L, hj⟩ := right_QJ h
  refine ⟨hj.tr.right, ⟨?_⟩⟩
  by_cases c : q.cur = -1
  · exact Or.inl c
  · have := hj.c1
    exact Or.inr ⟨by omega, hj.out c⟩
set_option maxHeartbeats 8000000 in
set_option maxRecDepth 100000 in
theorem KeysQ_ (h : QIn S A c B d w q) (hT : Emp w) : Calls Tryd.prog 14 #[.agg (qc A c B d q)] w fun e w' => KPost w (keysF q) e w' := by
  have HQ := Aside0.mk h
  have HT := Aside0.mk hT
  have HRI := Aside0.mk (fun (W : World) (h : QIn S A c B d W q) (hT : Emp W) => RightQ_ h hT)
  have HK := Aside0.mk (fun (hr : rightQ q = true) (W : World) (h : QIn S A c B d W q) (hT : Emp W) => keys_ h (right_cur hr).1 (right_cur hr).2 hT)
  unfold keysF
  generalize keysA q = KL at HK ⊢
  generalize rightQ q = RQ at HK HRI ⊢
  clear h hT
  obtain ⟨⟨ns, rt⟩, cur, v, mn, load, ws⟩ := q
  replace HK : Aside0 (RQ = true → ∀ (W : World), QIn S A c B d W ⟨⟨ns, rt⟩, cur, v, mn, load, ws⟩ → Emp W → Calls Tryd.prog 32 #[.agg #[.int .i64 rt, .slice A ns.length c, .int .i64 cur, .int .u64 v, .int .u64 mn, .int .i64 load, .slice B ws.length d]] W fun e w' => KPost W KL e w') := HK
  replace HRI : Aside0 (∀ (W : World), QIn S A c B d W ⟨⟨ns, rt⟩, cur, v, mn, load, ws⟩ → Emp W → Calls Tryd.prog 18 #[.agg #[.int .i64 rt, .slice A ns.length c, .int .i64 cur, .int .u64 v, .int .u64 mn, .int .i64 load, .slice B ws.length d]] W fun e w' => e = .returned (.bool RQ) ∧ Below W.heap.size W w') := HRI
  show Calls Tryd.prog 14 #[.agg #[.int .i64 rt, .slice A ns.length c, .int .i64 cur, .int .u64 v, .int .u64 mn, .int .i64 load, .slice B ws.length d]] w _
  go_enter Tryd.func14, Tryd.ntmps14
  go_upto_region 1 with (fail)
  have HX := Aside0.mk (QB.new w rt A ns.length c cur v mn load B ws.length d)
  have HB := Aside0.mk (below_alloc (Below.refl w.heap.size w) (.cells #[.int .i64 rt, .slice A ns.length c, .int .i64 cur, .int .u64 v, .int .u64 mn, .int .i64 load, .slice B ws.length d] 28))
  generalize w.alloc (.cells #[.int .i64 rt, .slice A ns.length c, .int .i64 cur, .int .u64 v, .int .u64 mn, .int .i64 load, .slice B ws.length d] 28) = W1 at HX HB ⊢
  have HQ1 := Aside0.mk (HQ.out.below HB.out)
  have HT1 := Aside0.mk (HT.out.below HB.out)
  have a0 := HX.out.c0
  have a1 := HX.out.c1
  have a2 := HX.out.c2
  have a3 := HX.out.c3
  have a4 := HX.out.c4
  have a5 := HX.out.c5
  have a6 := HX.out.c6
  cases RQ with
  | false =>
    go_wp2_with (go_at_call 18; refine (HRI.out _ HQ1.out HT1.out).mono ?_; rintro e w2 ⟨rfl, hb⟩; have HB2 := Aside0.mk (below_step HB.out hb); clear hb)
    go_ret
    exact ⟨_, rfl, Kd.R_nil _ _ _ _ _, HB2.out⟩
  | true =>
    have HK2 := Aside0.mk (fun (W : World) (h : QIn S A c B d W ⟨⟨ns, rt⟩, cur, v, mn, load, ws⟩) (hT : Emp W) => HK.out (by first | rfl | trivial) W h hT)
    clear HK
    have HSZ := Aside0.mk (HB.out.size)
    go_wp2_with (first
      | (go_at_call 18; refine (HRI.out _ HQ1.out HT1.out).mono ?_; rintro e w2 ⟨rfl, hb⟩; have HX2 := Aside0.mk (HX.out.below hb); have HB2 := Aside0.mk (below_step HB.out hb); have HQ2 := Aside0.mk (HQ1.out.below hb); have HT2 := Aside0.mk (HT1.out.below hb); clear hb; have b0 := HX2.out.c0; have b1 := HX2.out.c1; have b2 := HX2.out.c2; have b3 := HX2.out.c3; have b4 := HX2.out.c4; have b5 := HX2.out.c5; have b6 := HX2.out.c6)
      | (go_at_call 32; refine (HK2.out _ HQ2.out HT2.out).mono ?_; rintro e w3 ⟨v3, rfl, hR3, hb3⟩; have HR3 := Aside0.mk hR3; have HB3 := Aside0.mk (below_step HB2.out hb3); have HZ3 := Aside0.mk (HB2.out.size); clear hR3 hb3))
    go_ret
    exact ⟨_, rfl, Kd.R_lower HR3.out HZ3.out, HB3.out⟩
abbrev ifV (hb eb : Nat) : Value := .func (.func 50) #[] #[.pointer (some ⟨hb, 0, none⟩), .pointer (some ⟨eb, 0, none⟩)]
set_option maxHeartbeats 8000000 in
set_option maxRecDepth 100000 in
theorem if_ (x : Int) (fn : Nat) (cap : Array Value) (w : World) : Calls Tryd.prog 21 #[.int .i64 x, .func (.func fn) #[] cap] w fun e w' => e = .returned (ifV (w.heap.size + 1) w.heap.size) ∧ w'.cell? ⟨w.heap.size, 0, none⟩ = some (.int .i64 x) ∧ w'.cell? ⟨w.heap.size + 1, 0, none⟩ = some (.func (.func fn) #[] cap) ∧ Below w.heap.size w w' := by
  have HB := Aside0.mk (below_alloc (below_alloc (Below.refl w.heap.size w) (.cells #[.int .i64 x] 29)) (.cells #[.func (.func fn) #[] cap] 32))
  have HX := Aside0.mk (blk_below (blk_new w (.cells #[.int .i64 x] 29)) (below_alloc (Below.refl _ _) (.cells #[.func (.func fn) #[] cap] 32)))
  have HY := Aside0.mk (blk_new (w.alloc (.cells #[.int .i64 x] 29)) (.cells #[.func (.func fn) #[] cap] 32))
  simp only [World.size_alloc] at HY
  go_enter Tryd.func21, Tryd.ntmps21
  go_wp2
  go_ret
  exact ⟨rfl, (blk_cell HX.out 0).trans rfl, (blk_cell HY.out 0).trans rfl, HB.out⟩
set_option maxHeartbeats 8000000 in
set_option maxRecDepth 100000 in
theorem if1_22 (cap : Array Value) (hb eb : Nat) (x : Int) (b : Bool) (w : World) (h1 : w.cell? ⟨hb, 0, none⟩ = some (.func (.func 22) #[] cap)) (h2 : w.cell? ⟨eb, 0, none⟩ = some (.int .i64 x))
    (hc : Calls Tryd.prog 22 cap w fun e w' => e = .returned (.bool b) ∧ Below w.heap.size w w') :
    Calls Tryd.prog 50 #[.pointer (some ⟨hb, 0, none⟩), .pointer (some ⟨eb, 0, none⟩)] w fun e w' => e = .returned (.int .i64 (if b = true then x else 0)) ∧ Below w.heap.size w w' := by
  have HC := Aside0.mk hc
  have HE := Aside0.mk h2
  clear hc
  go_enter Tryd.func50, Tryd.ntmps50
  cases b with
  | true =>
    go_wp2_with (go_at_call 22; refine HC.out.mono ?_; rintro e w2 ⟨rfl, hb⟩; have HB := Aside0.mk hb; have h3 := pw_cell_below hb HE.out; clear hb)
    go_ret
    exact ⟨rfl, HB.out⟩
  | false =>
    go_wp2_with (go_at_call 22; refine HC.out.mono ?_; rintro e w2 ⟨rfl, hb⟩; have HB := Aside0.mk hb; have h3 := pw_cell_below hb HE.out; clear hb)
    go_ret
    exact ⟨rfl, HB.out⟩
set_option maxHeartbeats 8000000 in
set_option maxRecDepth 100000 in
theorem if1_25 (cap : Array Value) (hb eb : Nat) (x : Int) (b : Bool) (w : World) (h1 : w.cell? ⟨hb, 0, none⟩ = some (.func (.func 25) #[] cap)) (h2 : w.cell? ⟨eb, 0, none⟩ = some (.int .i64 x))
    (hc : Calls Tryd.prog 25 cap w fun e w' => e = .returned (.bool b) ∧ Below w.heap.size w w') :
    Calls Tryd.prog 50 #[.pointer (some ⟨hb, 0, none⟩), .pointer (some ⟨eb, 0, none⟩)] w fun e w' => e = .returned (.int .i64 (if b = true then x else 0)) ∧ Below w.heap.size w w' := by
  have HC := Aside0.mk hc
  have HE := Aside0.mk h2
  clear hc
  go_enter Tryd.func50, Tryd.ntmps50
  cases b with
  | true =>
    go_wp2_with (go_at_call 25; refine HC.out.mono ?_; rintro e w2 ⟨rfl, hb⟩; have HB := Aside0.mk hb; have h3 := pw_cell_below hb HE.out; clear hb)
    go_ret
    exact ⟨rfl, HB.out⟩
  | false =>
    go_wp2_with (go_at_call 25; refine HC.out.mono ?_; rintro e w2 ⟨rfl, hb⟩; have HB := Aside0.mk hb; have h3 := pw_cell_below hb HE.out; clear hb)
    go_ret
    exact ⟨rfl, HB.out⟩
set_option maxHeartbeats 8000000 in
set_option maxRecDepth 100000 in
theorem if1_31 (cap : Array Value) (hb eb : Nat) (x : Int) (b : Bool) (w : World) (h1 : w.cell? ⟨hb, 0, none⟩ = some (.func (.func 31) #[] cap)) (h2 : w.cell? ⟨eb, 0, none⟩ = some (.int .i64 x))
    (hc : Calls Tryd.prog 31 cap w fun e w' => e = .returned (.bool b) ∧ Below w.heap.size w w') :
    Calls Tryd.prog 50 #[.pointer (some ⟨hb, 0, none⟩), .pointer (some ⟨eb, 0, none⟩)] w fun e w' => e = .returned (.int .i64 (if b = true then x else 0)) ∧ Below w.heap.size w w' := by
  have HC := Aside0.mk hc
  have HE := Aside0.mk h2
  clear hc
  go_enter Tryd.func50, Tryd.ntmps50
  cases b with
  | true =>
    go_wp2_with (go_at_call 31; refine HC.out.mono ?_; rintro e w2 ⟨rfl, hb⟩; have HB := Aside0.mk hb; have h3 := pw_cell_below hb HE.out; clear hb)
    go_ret
    exact ⟨rfl, HB.out⟩
  | false =>
    go_wp2_with (go_at_call 31; refine HC.out.mono ?_; rintro e w2 ⟨rfl, hb⟩; have HB := Aside0.mk hb; have h3 := pw_cell_below hb HE.out; clear hb)
    go_ret
    exact ⟨rfl, HB.out⟩
set_option maxHeartbeats 8000000 in
set_option maxRecDepth 100000 in
theorem if1_37 (cap : Array Value) (hb eb : Nat) (x : Int) (b : Bool) (w : World) (h1 : w.cell? ⟨hb, 0, none⟩ = some (.func (.func 37) #[] cap)) (h2 : w.cell? ⟨eb, 0, none⟩ = some (.int .i64 x))
    (hc : Calls Tryd.prog 37 cap w fun e w' => e = .returned (.bool b) ∧ Below w.heap.size w w') :
    Calls Tryd.prog 50 #[.pointer (some ⟨hb, 0, none⟩), .pointer (some ⟨eb, 0, none⟩)] w fun e w' => e = .returned (.int .i64 (if b = true then x else 0)) ∧ Below w.heap.size w w' := by
  have HC := Aside0.mk hc
  have HE := Aside0.mk h2
  clear hc
  go_enter Tryd.func50, Tryd.ntmps50
  cases b with
  | true =>
    go_wp2_with (go_at_call 37; refine HC.out.mono ?_; rintro e w2 ⟨rfl, hb⟩; have HB := Aside0.mk hb; have h3 := pw_cell_below hb HE.out; clear hb)
    go_ret
    exact ⟨rfl, HB.out⟩
  | false =>
    go_wp2_with (go_at_call 37; refine HC.out.mono ?_; rintro e w2 ⟨rfl, hb⟩; have HB := Aside0.mk hb; have h3 := pw_cell_below hb HE.out; clear hb)
    go_ret
    exact ⟨rfl, HB.out⟩
set_option maxHeartbeats 8000000 in
set_option maxRecDepth 100000 in
theorem if1_68 (cap : Array Value) (hb eb : Nat) (x : Int) (b : Bool) (w : World) (h1 : w.cell? ⟨hb, 0, none⟩ = some (.func (.func 68) #[] cap)) (h2 : w.cell? ⟨eb, 0, none⟩ = some (.int .i64 x))
    (hc : Calls Tryd.prog 68 cap w fun e w' => e = .returned (.bool b) ∧ Below w.heap.size w w') :
    Calls Tryd.prog 50 #[.pointer (some ⟨hb, 0, none⟩), .pointer (some ⟨eb, 0, none⟩)] w fun e w' => e = .returned (.int .i64 (if b = true then x else 0)) ∧ Below w.heap.size w w' := by
  have HC := Aside0.mk hc
  have HE := Aside0.mk h2
  clear hc
  go_enter Tryd.func50, Tryd.ntmps50
  cases b with
  | true =>
    go_wp2_with (go_at_call 68; refine HC.out.mono ?_; rintro e w2 ⟨rfl, hb⟩; have HB := Aside0.mk hb; have h3 := pw_cell_below hb HE.out; clear hb)
    go_ret
    exact ⟨rfl, HB.out⟩
  | false =>
    go_wp2_with (go_at_call 68; refine HC.out.mono ?_; rintro e w2 ⟨rfl, hb⟩; have HB := Aside0.mk hb; have h3 := pw_cell_below hb HE.out; clear hb)
    go_ret
    exact ⟨rfl, HB.out⟩
set_option maxHeartbeats 8000000 in
set_option maxRecDepth 100000 in
theorem if1_44 (cap : Array Value) (hb eb : Nat) (x : Int) (b : Bool) (w : World) (h1 : w.cell? ⟨hb, 0, none⟩ = some (.func (.func 44) #[] cap)) (h2 : w.cell? ⟨eb, 0, none⟩ = some (.int .i64 x))
    (hc : Calls Tryd.prog 44 cap w fun e w' => e = .returned (.bool b) ∧ Below w.heap.size w w') :
    Calls Tryd.prog 50 #[.pointer (some ⟨hb, 0, none⟩), .pointer (some ⟨eb, 0, none⟩)] w fun e w' => e = .returned (.int .i64 (if b = true then x else 0)) ∧ Below w.heap.size w w' := by
  have HC := Aside0.mk hc
  have HE := Aside0.mk h2
  clear hc
  go_enter Tryd.func50, Tryd.ntmps50
  cases b with
  | true =>
    go_wp2_with (go_at_call 44; refine HC.out.mono ?_; rintro e w2 ⟨rfl, hb⟩; have HB := Aside0.mk hb; have h3 := pw_cell_below hb HE.out; clear hb)
    go_ret
    exact ⟨rfl, HB.out⟩
  | false =>
    go_wp2_with (go_at_call 44; refine HC.out.mono ?_; rintro e w2 ⟨rfl, hb⟩; have HB := Aside0.mk hb; have h3 := pw_cell_below hb HE.out; clear hb)
    go_ret
    exact ⟨rfl, HB.out⟩
set_option maxHeartbeats 8000000 in
set_option maxRecDepth 100000 in
theorem if1_45 (cap : Array Value) (hb eb : Nat) (x : Int) (b : Bool) (w : World) (h1 : w.cell? ⟨hb, 0, none⟩ = some (.func (.func 45) #[] cap)) (h2 : w.cell? ⟨eb, 0, none⟩ = some (.int .i64 x))
    (hc : Calls Tryd.prog 45 cap w fun e w' => e = .returned (.bool b) ∧ Below w.heap.size w w') :
    Calls Tryd.prog 50 #[.pointer (some ⟨hb, 0, none⟩), .pointer (some ⟨eb, 0, none⟩)] w fun e w' => e = .returned (.int .i64 (if b = true then x else 0)) ∧ Below w.heap.size w w' := by
  have HC := Aside0.mk hc
  have HE := Aside0.mk h2
  clear hc
  go_enter Tryd.func50, Tryd.ntmps50
  cases b with
  | true =>
    go_wp2_with (go_at_call 45; refine HC.out.mono ?_; rintro e w2 ⟨rfl, hb⟩; have HB := Aside0.mk hb; have h3 := pw_cell_below hb HE.out; clear hb)
    go_ret
    exact ⟨rfl, HB.out⟩
  | false =>
    go_wp2_with (go_at_call 45; refine HC.out.mono ?_; rintro e w2 ⟨rfl, hb⟩; have HB := Aside0.mk hb; have h3 := pw_cell_below hb HE.out; clear hb)
    go_ret
    exact ⟨rfl, HB.out⟩
def firstNZ : List Int → Int
  | [] => 0
  | x :: t => if x = 0 then firstNZ t else x
abbrev Cl := Nat × Nat × Int
def clV (x : Cl) : Value := ifV x.1 x.2.1
def cl (L : List Cl) (i : Nat) : Cl := L.getD i (0, 0, 0)
def res (L : List Cl) : List Int := L.map fun x => x.2.2
theorem nz_yes : ∀ {L : List Cl} (i : Nat), i < L.length → (∀ j, j < i → (cl L j).2.2 = 0) → (cl L i).2.2 ≠ 0 → firstNZ (res L) = (cl L i).2.2
  | [], i, h, _, _ => by simp at h
  | x :: t, 0, _, _, h => by
    show (if x.2.2 = 0 then firstNZ (res t) else x.2.2) = x.2.2
    have e : ¬ x.2.2 = 0 := h
    rw [if_neg e]
  | x :: t, i + 1, h, h1, h2 => by
    show (if x.2.2 = 0 then firstNZ (res t) else x.2.2) = _
    have e : x.2.2 = 0 := h1 0 (by omega)
    rw [if_pos e]
    exact nz_yes (L := t) i (by simpa using h) (fun j hj => h1 (j + 1) (by omega)) h2
theorem nz_no : ∀ {L : List Cl}, (∀ j, j < L.length → (cl L j).2.2 = 0) → firstNZ (res L) = 0
  | [], _ => rfl
  | x :: t, h => by
    show (if x.2.2 = 0 then firstNZ (res t) else x.2.2) = 0
    have e : x.2.2 = 0 := h 0 (by simp)
    rw [if_pos e]
    exact nz_no (L := t) (fun j hj => h (j + 1) (by simpa using hj))
structure FRel (L : List Cl) (w : World) (i : Value) (k : Nat) (wr : World) : Prop where mk ::
  le : k ≤ L.length
  hi : i = .int .i64 (k : Int)
  ok : ∀ j, j < k → (cl L j).2.2 = 0
  hb : Below w.heap.size w wr
structure FRl (L : List Cl) (w : World) (i : Value) (wr : World) : Prop where mk ::
  out : ∃ k, FRel L w i k wr
set_option maxHeartbeats 8000000 in
set_option maxRecDepth 100000 in
theorem first_ (h : QIn S A c B d w q) (hT : Emp w) (L : List Cl) (gl : Nat) (hl : L.length ≤ 1000) (hL : w.heap[gl]? = some (.cells (L.map clV).toArray 55 (0, 0)))
    (hc : ∀ i, i < L.length → rightQ q = true → (∀ j, j < i → (cl L j).2.2 = 0) → ∀ W, Below w.heap.size w W → Calls Tryd.prog 50 #[.pointer (some ⟨(cl L i).1, 0, none⟩), .pointer (some ⟨(cl L i).2.1, 0, none⟩)] W fun e w' => e = .returned (.int .i64 (cl L i).2.2) ∧ Below W.heap.size W w') :
    Calls Tryd.prog 20 #[.agg (qc A c B d q), .slice (some ⟨gl, 0, none⟩) L.length L.length] w fun e w' => e = .returned (.int .i64 (if rightQ q = true then firstNZ (res L) else 4)) ∧ Below w.heap.size w w' := by
  have HQ := Aside0.mk h
  have HT := Aside0.mk hT
  have HC := Aside0.mk hc
  have HL := Aside0.mk hL
  have HLN := Aside0.mk hl
  have HRI := Aside0.mk (fun (W : World) (h : QIn S A c B d W q) (hT : Emp W) => RightQ_ h hT)
  generalize rightQ q = RQ at HC HRI ⊢
  clear h hT hc hL hl
  obtain ⟨⟨ns, rt⟩, cur, v, mn, load, ws⟩ := q
  replace HRI : Aside0 (∀ (W : World), QIn S A c B d W ⟨⟨ns, rt⟩, cur, v, mn, load, ws⟩ → Emp W → Calls Tryd.prog 18 #[.agg #[.int .i64 rt, .slice A ns.length c, .int .i64 cur, .int .u64 v, .int .u64 mn, .int .i64 load, .slice B ws.length d]] W fun e w' => e = .returned (.bool RQ) ∧ Below W.heap.size W w') := HRI
  show Calls Tryd.prog 20 #[.agg #[.int .i64 rt, .slice A ns.length c, .int .i64 cur, .int .u64 v, .int .u64 mn, .int .i64 load, .slice B ws.length d], _] w _
  go_enter Tryd.func20, Tryd.ntmps20
  go_upto_region 1 with (fail)
  have HX := Aside0.mk (QB.new w rt A ns.length c cur v mn load B ws.length d)
  have HB := Aside0.mk (below_alloc (Below.refl w.heap.size w) (.cells #[.int .i64 rt, .slice A ns.length c, .int .i64 cur, .int .u64 v, .int .u64 mn, .int .i64 load, .slice B ws.length d] 28))
  generalize w.alloc (.cells #[.int .i64 rt, .slice A ns.length c, .int .i64 cur, .int .u64 v, .int .u64 mn, .int .i64 load, .slice B ws.length d] 28) = W1 at HX HB ⊢
  have HQ1 := Aside0.mk (HQ.out.below HB.out)
  have HT1 := Aside0.mk (HT.out.below HB.out)
  have a0 := HX.out.c0
  have a1 := HX.out.c1
  have a2 := HX.out.c2
  have a3 := HX.out.c3
  have a4 := HX.out.c4
  have a5 := HX.out.c5
  have a6 := HX.out.c6
  cases RQ with
  | false =>
    go_wp2_with (go_at_call 18; refine (HRI.out _ HQ1.out HT1.out).mono ?_; rintro e w2 ⟨rfl, hb⟩; have HB2 := Aside0.mk (below_step HB.out hb); clear hb)
    go_ret
    exact ⟨rfl, HB2.out⟩
  | true =>
    have HC2 := Aside0.mk (fun i (hi : i < L.length) => HC.out i hi (by first | rfl | trivial))
    clear HC
    go_wp2_with (go_at_call 18; refine (HRI.out _ HQ1.out HT1.out).mono ?_; rintro e w2 ⟨rfl, hb⟩; have HB2 := Aside0.mk (below_step HB.out hb); clear hb)
    clear a0 a1 a2 a3 a4 a5 a6
    go_loopw [13] (fun i wr => FRl L w i wr) (fun i wr => L.length - (intOf i).toNat)
    case atStart => exact ⟨0, Nat.zero_le _, rfl, fun j hj => by omega, HB2.out⟩
    case round =>
      obtain ⟨k, hle, rfl, hok, hb⟩ := hrel.out
      clear hrel
      have HOK := Aside0.mk hok
      have HB3 := Aside0.mk hb
      have HN := HLN.out
      by_cases hlt : k < L.length
      · have HKL := Aside0.mk hlt
        have hki : (k : Int) < (L.length : Int) := by omega
        have hkn : k < 1000000 := by omega
        have HCK := Aside0.mk (fun W (hW : Below w.heap.size w W) => HC2.out k hlt hok W hW)
        have c0 : wr.cell? ⟨gl, k, none⟩ = some (clV (cl L k)) := by
          rw [blk_cell (blk_below HL.out hb)]
          simp [cl, hlt, List.getD_eq_getElem?_getD]
        have HY := Aside0.mk (fun (h : (cl L k).2.2 ≠ 0) => nz_yes k hlt hok h)
        have HZ := Aside0.mk (fun (h : (cl L k).2.2 = 0) j (hj : j < k + 1) => (show (cl L j).2.2 = 0 from by
          by_cases e : j = k
          · subst e; exact h
          · exact hok j (by omega)))
        generalize cl L k = x at c0 HCK HY HZ
        obtain ⟨x1, x2, r⟩ := x
        replace c0 : wr.cell? ⟨gl, k, none⟩ = some (.func (.func 50) #[] #[.pointer (some ⟨x1, 0, none⟩), .pointer (some ⟨x2, 0, none⟩)]) := c0
        clear hok hb hlt
        by_cases hr : r = 0
        · subst hr
          go_wp2_with (go_at_call 50; refine (HCK.out _ HB3.out).mono ?_; rintro e w4 ⟨rfl, hb⟩; have HB4 := Aside0.mk (below_step HB3.out hb); clear hb)
          refine ⟨⟨k + 1, by have := HKL.out; omega, by simp, HZ.out (by first | rfl | trivial), HB4.out⟩, ?_⟩
          show L.length - ((k : Int) + 1).toNat < L.length - (k : Int).toNat
          have := HKL.out
          omega
        · have hr2 : (r != 0) = true := by simpa using hr
          have HYR := Aside0.mk (HY.out hr)
          go_wp2_with (go_at_call 50; refine (HCK.out _ HB3.out).mono ?_; rintro e w4 ⟨rfl, hb⟩; have HB4 := Aside0.mk (below_step HB3.out hb); clear hb)
          go_ret
          exact ⟨by rw [HYR.out]; rfl, HB4.out⟩
      · obtain rfl : k = L.length := by omega
        go_wp2
        go_ret
        exact ⟨by rw [nz_no HOK.out]; rfl, HB3.out⟩
end Go.Proofs.YtnkhnnojdlgfjaaDoor.Qw
