/- Parts of the proof, joined: AwQ2. -/
import Derived.Test.YtnkhnnojdlgfjaaDoorUF23
import Derived.Test.YtnkhnnojdlgfjaaDoorUF39
import Derived.Test.YtnkhnnojdlgfjaaDoorUF40
import Derived.Test.YtnkhnnojdlgfjaaDoorUF41
import Derived.Test.YtnkhnnojdlgfjaaDoorUF43
import Derived.Test.YtnkhnnojdlgfjaaDoorUF44
namespace Go.Proofs.YtnkhnnojdlgfjaaDoor.Qw
open Go.RowKit Go Go.Proofs Go.Proofs.YtnkhnnojdlgfjaaDoor Go.Proofs.YtnkhnnojdlgfjaaDoor.Tr Go.Proofs.YtnkhnnojdlgfjaaDoor.Tk Go.Proofs.YtnkhnnojdlgfjaaDoor.Tm Go.Proofs.YtnkhnnojdlgfjaaDoor.Qu Go.Proofs.YtnkhnnojdlgfjaaDoorW.PrintWords Go.Proofs.YtnkhnnojdlgfjaaDoorW.PrintLast Go.Proofs.YtnkhnnojdlgfjaaDoorW.PrintMore
set_option linter.unusedVariables false
set_option linter.unusedSimpArgs false
abbrev NS : Nat → Prop := fun _ => False
section
variable {A B : Option Addr} {c d : Nat} {w w' : World} {q q' : Q} {rt : Int} {n : Nat} {cur v mn load : Int} {m : Nat} {rt' : Int} {n' : Nat} {cur' v' mn' load' : Int} {m' : Nat}
structure LPost (w : World) (q' : Q) (rt' : Int) (n' : Nat) (cur' v' mn' load' : Int) (m' : Nat) (u : Value) (w' : World) : Prop where mk ::
  out : ∃ A' c' B' d', u = .agg #[.int .i64 rt', .slice A' n' c', .int .i64 cur', .int .u64 v', .int .u64 mn', .int .i64 load', .slice B' m' d'] ∧ QIn NS A' c' B' d' w' q' ∧ Below w.heap.size w w'
theorem lpost {u : Value} (F : FQ q' rt' n' cur' v' mn' load' m') (h : QPost NS w q' u w') : LPost w q' rt' n' cur' v' mn' load' m' u w' := by
  obtain ⟨A, c, B, d, rfl, hq, hb⟩ := h.out
  obtain ⟨rfl, rfl, rfl, rfl, rfl, rfl, rfl⟩ := F
  exact ⟨A, c, B, d, rfl, hq, hb⟩
theorem enterC {id x lag e1 : Int} (hf : enterA q id x lag = some (q', e1)) (F : FQ q rt n cur v mn load m) (F' : FQ q' rt' n' cur' v' mn' load' m') (h : QIn NS A c B d w q) (hT : Emp w) :
    Calls Tryd.prog 11 #[.agg #[.int .i64 rt, .slice A n c, .int .i64 cur, .int .u64 v, .int .u64 mn, .int .i64 load, .slice B m d], .int .i64 id, .int .i64 x, .int .i64 lag] w fun e w' => ∃ u, e = .returned (.tuple #[u, .int .i64 e1]) ∧ LPost w q' rt' n' cur' v' mn' load' m' u w' := by
  obtain ⟨rfl, rfl, rfl, rfl, rfl, rfl, rfl⟩ := F
  refine (Enter_ h hT id x lag (q', e1) hf).mono ?_
  rintro e w' ⟨u, rfl, hp⟩
  exact ⟨u, rfl, lpost F' hp⟩
theorem leaveC {id e1 e2 : Int} (hf : leaveA q id = some (q', e1, e2)) (F : FQ q rt n cur v mn load m) (F' : FQ q' rt' n' cur' v' mn' load' m') (h : QIn NS A c B d w q) (hT : Emp w) :
    Calls Tryd.prog 17 #[.agg #[.int .i64 rt, .slice A n c, .int .i64 cur, .int .u64 v, .int .u64 mn, .int .i64 load, .slice B m d], .int .i64 id] w fun e w' => ∃ u, e = .returned (.tuple #[u, .int .i64 e1, .int .i64 e2]) ∧ LPost w q' rt' n' cur' v' mn' load' m' u w' := by
  obtain ⟨rfl, rfl, rfl, rfl, rfl, rfl, rfl⟩ := F
  refine (Leave_ h hT id (q', e1, e2) hf).mono ?_
  rintro e w' ⟨u, rfl, hp⟩
  exact ⟨u, rfl, lpost F' hp⟩
theorem pickC {e1 e2 : Int} (hf : pickA q = some (q', e1, e2)) (F : FQ q rt n cur v mn load m) (F' : FQ q' rt' n' cur' v' mn' load' m') (h : QIn NS A c B d w q) (hT : Emp w) :
    Calls Tryd.prog 12 #[.agg #[.int .i64 rt, .slice A n c, .int .i64 cur, .int .u64 v, .int .u64 mn, .int .i64 load, .slice B m d]] w fun e w' => ∃ u, e = .returned (.tuple #[u, .int .i64 e1, .int .i64 e2]) ∧ LPost w q' rt' n' cur' v' mn' load' m' u w' := by
  obtain ⟨rfl, rfl, rfl, rfl, rfl, rfl, rfl⟩ := F
  refine (Pick_ h hT (q', e1, e2) hf).mono ?_
  rintro e w' ⟨u, rfl, hp⟩
  exact ⟨u, rfl, lpost F' hp⟩
theorem tickC {x : Int} {b1 : Bool} {e2 : Int} (hf : tickA q x = (q', b1, e2)) (F : FQ q rt n cur v mn load m) (F' : FQ q' rt' n' cur' v' mn' load' m') (h : QIn NS A c B d w q) (hT : Emp w) :
    Calls Tryd.prog 13 #[.agg #[.int .i64 rt, .slice A n c, .int .i64 cur, .int .u64 v, .int .u64 mn, .int .i64 load, .slice B m d], .int .i64 x] w fun e w' => ∃ u, e = .returned (.tuple #[u, .bool b1, .int .i64 e2]) ∧ LPost w q' rt' n' cur' v' mn' load' m' u w' := by
  obtain ⟨rfl, rfl, rfl, rfl, rfl, rfl, rfl⟩ := F
  refine (Tick_ h hT x (q', b1, e2) hf).mono ?_
  rintro e w' ⟨u, rfl, hp⟩
  exact ⟨u, rfl, lpost F' hp⟩
theorem newC {nn mm e1 : Int} (hf : newQ nn mm = (q', e1)) (F' : FQ q' rt' n' cur' v' mn' load' m') (hT : Emp w) :
    Calls Tryd.prog 5 #[.int .i64 nn, .int .u64 mm] w fun e w' => ∃ u, e = .returned (.tuple #[u, .int .i64 e1]) ∧ LPost w q' rt' n' cur' v' mn' load' m' u w' := by
  have h := NewQ_ (w := w) NS (fun k hk => hk.elim) hT nn mm
  rw [hf] at h
  refine h.mono ?_
  rintro e w' ⟨u, rfl, hp⟩
  exact ⟨u, rfl, lpost F' hp⟩
theorem keysC {k : Nat} (hf : (keysF q).length = k) (F : FQ q rt n cur v mn load m) (h : QIn NS A c B d w q) (hT : Emp w) :
    Calls Tryd.prog 14 #[.agg #[.int .i64 rt, .slice A n c, .int .i64 cur, .int .u64 v, .int .u64 mn, .int .i64 load, .slice B m d]] w fun e w' => ∃ A' c', e = .returned (.slice A' k c') ∧ Below w.heap.size w w' := by
  obtain ⟨rfl, rfl, rfl, rfl, rfl, rfl, rfl⟩ := F
  subst hf
  refine (KeysQ_ h hT).mono ?_
  rintro e w' ⟨v, rfl, hR, hB⟩
  obtain ⟨A', c', rfl, _, _⟩ := Kd.R_reads hR
  exact ⟨A', c', rfl, hB⟩
theorem rightC {b1 : Bool} (hf : rightQ q = b1) (F : FQ q rt n cur v mn load m) (h : QIn NS A c B d w q) (hT : Emp w) :
    Calls Tryd.prog 18 #[.agg #[.int .i64 rt, .slice A n c, .int .i64 cur, .int .u64 v, .int .u64 mn, .int .i64 load, .slice B m d]] w fun e w' => e = .returned (.bool b1) ∧ Below w.heap.size w w' := by
  obtain ⟨rfl, rfl, rfl, rfl, rfl, rfl, rfl⟩ := F
  subst hf
  exact RightQ_ h hT
end
set_option maxHeartbeats 32000000 in
set_option maxRecDepth 100000 in
theorem awakeQ_ (w : World) (hT : Emp w) : Calls Tryd.prog 7 #[] w fun e w' => e = .returned (.bool true) ∧ Below w.heap.size w w' := by
  have HT := Aside0.mk hT
  have B0 := Aside0.mk (Below.refl w.heap.size w)
  clear hT
  go_enter Tryd.func7, Tryd.ntmps7
  go_upto_region 2 with (go_at_call 5; (refine (newC a_q f_q HT.out).mono ?_); rintro e wq ⟨u, rfl, hp⟩; obtain ⟨A1, c1, D1, d1, rfl, hC, hB⟩ := hp.out; have C1 := Aside0.mk hC; replace B0 := Aside0.mk (below_step B0.out hB); replace HT := Aside0.mk (HT.out.below hB); clear hp hC hB)
  have X1 := Aside0.mk (QB.new wq (-1) A1 5 c1 (-1) 0 18446744073709551613 0 D1 5 d1)
  have hb := below_alloc (Below.refl wq.heap.size wq) (.cells #[.int .i64 (-1), .slice A1 5 c1, .int .i64 (-1), .int .u64 0, .int .u64 18446744073709551613, .int .i64 0, .slice D1 5 d1] 28)
  replace C1 := Aside0.mk (C1.out.below hb)
  replace B0 := Aside0.mk (below_step B0.out hb)
  replace HT := Aside0.mk (HT.out.below hb)
  clear hb
  generalize wq.alloc (.cells #[.int .i64 (-1), .slice A1 5 c1, .int .i64 (-1), .int .u64 0, .int .u64 18446744073709551613, .int .i64 0, .slice D1 5 d1] 28) = W1 at X1 C1 B0 HT ⊢
  generalize wq.heap.size = b1 at X1 ⊢
  have s0 := X1.out.c0
  have s1 := X1.out.c1
  have s2 := X1.out.c2
  have s3 := X1.out.c3
  have s4 := X1.out.c4
  have s5 := X1.out.c5
  have s6 := X1.out.c6
  go_upto_region 3 with (go_at_call 11; (refine (enterC a_a f_q f_a C1.out HT.out).mono ?_); rintro e wq ⟨u, rfl, hp⟩; obtain ⟨A2, c2, D2, d2, rfl, hC, hB⟩ := hp.out; have C2 := Aside0.mk hC; replace B0 := Aside0.mk (below_step B0.out hB); replace HT := Aside0.mk (HT.out.below hB); replace X1 := Aside0.mk (X1.out.below hB); replace C1 := Aside0.mk (C1.out.below hB); clear hp hC hB)
  clear s0 s1 s2 s3 s4 s5 s6
  have X2 := Aside0.mk (QB.new wq 3 A2 5 c2 (-1) 0 18446744073709551613 1024 D2 5 d2)
  have hb := below_alloc (Below.refl wq.heap.size wq) (.cells #[.int .i64 3, .slice A2 5 c2, .int .i64 (-1), .int .u64 0, .int .u64 18446744073709551613, .int .i64 1024, .slice D2 5 d2] 28)
  replace X1 := Aside0.mk (X1.out.below hb)
  replace C1 := Aside0.mk (C1.out.below hb)
  replace C2 := Aside0.mk (C2.out.below hb)
  replace B0 := Aside0.mk (below_step B0.out hb)
  replace HT := Aside0.mk (HT.out.below hb)
  clear hb
  generalize wq.alloc (.cells #[.int .i64 3, .slice A2 5 c2, .int .i64 (-1), .int .u64 0, .int .u64 18446744073709551613, .int .i64 1024, .slice D2 5 d2] 28) = W2 at X1 C1 X2 C2 B0 HT ⊢
  generalize wq.heap.size = b2 at X2 ⊢
  clear X1 C1
  have s0 := X2.out.c0
  have s1 := X2.out.c1
  have s2 := X2.out.c2
  have s3 := X2.out.c3
  have s4 := X2.out.c4
  have s5 := X2.out.c5
  have s6 := X2.out.c6
  go_upto_region 4 with (go_at_call 11; (refine (enterC a_b f_a f_b C2.out HT.out).mono ?_); rintro e wq ⟨u, rfl, hp⟩; obtain ⟨A3, c3, D3, d3, rfl, hC, hB⟩ := hp.out; have C3 := Aside0.mk hC; replace B0 := Aside0.mk (below_step B0.out hB); replace HT := Aside0.mk (HT.out.below hB); replace X2 := Aside0.mk (X2.out.below hB); replace C2 := Aside0.mk (C2.out.below hB); clear hp hC hB)
  clear s0 s1 s2 s3 s4 s5 s6
  have X3 := Aside0.mk (QB.new wq 3 A3 5 c3 (-1) 0 18446744073709551613 2048 D3 5 d3)
  have hb := below_alloc (Below.refl wq.heap.size wq) (.cells #[.int .i64 3, .slice A3 5 c3, .int .i64 (-1), .int .u64 0, .int .u64 18446744073709551613, .int .i64 2048, .slice D3 5 d3] 28)
  replace X2 := Aside0.mk (X2.out.below hb)
  replace C2 := Aside0.mk (C2.out.below hb)
  replace C3 := Aside0.mk (C3.out.below hb)
  replace B0 := Aside0.mk (below_step B0.out hb)
  replace HT := Aside0.mk (HT.out.below hb)
  clear hb
  generalize wq.alloc (.cells #[.int .i64 3, .slice A3 5 c3, .int .i64 (-1), .int .u64 0, .int .u64 18446744073709551613, .int .i64 2048, .slice D3 5 d3] 28) = W3 at X2 C2 X3 C3 B0 HT ⊢
  generalize wq.heap.size = b3 at X3 ⊢
  clear X2 C2
  have s0 := X3.out.c0
  have s1 := X3.out.c1
  have s2 := X3.out.c2
  have s3 := X3.out.c3
  have s4 := X3.out.c4
  have s5 := X3.out.c5
  have s6 := X3.out.c6
  go_upto_region 5 with (go_at_call 12; (refine (pickC a_c f_b f_c C3.out HT.out).mono ?_); rintro e wq ⟨u, rfl, hp⟩; obtain ⟨A4, c4, D4, d4, rfl, hC, hB⟩ := hp.out; have C4 := Aside0.mk hC; replace B0 := Aside0.mk (below_step B0.out hB); replace HT := Aside0.mk (HT.out.below hB); replace X3 := Aside0.mk (X3.out.below hB); replace C3 := Aside0.mk (C3.out.below hB); clear hp hC hB)
  clear s0 s1 s2 s3 s4 s5 s6
  have X4 := Aside0.mk (QB.new wq 3 A4 5 c4 1 18446744073709551613 18446744073709551613 2048 D4 5 d4)
  have hb := below_alloc (Below.refl wq.heap.size wq) (.cells #[.int .i64 3, .slice A4 5 c4, .int .i64 1, .int .u64 18446744073709551613, .int .u64 18446744073709551613, .int .i64 2048, .slice D4 5 d4] 28)
  replace X3 := Aside0.mk (X3.out.below hb)
  replace C3 := Aside0.mk (C3.out.below hb)
  replace C4 := Aside0.mk (C4.out.below hb)
  replace B0 := Aside0.mk (below_step B0.out hb)
  replace HT := Aside0.mk (HT.out.below hb)
  clear hb
  generalize wq.alloc (.cells #[.int .i64 3, .slice A4 5 c4, .int .i64 1, .int .u64 18446744073709551613, .int .u64 18446744073709551613, .int .i64 2048, .slice D4 5 d4] 28) = W4 at X3 C3 X4 C4 B0 HT ⊢
  generalize wq.heap.size = b4 at X4 ⊢
  clear X3 C3
  have s0 := X4.out.c0
  have s1 := X4.out.c1
  have s2 := X4.out.c2
  have s3 := X4.out.c3
  have s4 := X4.out.c4
  have s5 := X4.out.c5
  have s6 := X4.out.c6
  go_upto_region 6 with (go_at_call 13; (refine (tickC a_d f_c f_d C4.out HT.out).mono ?_); rintro e wq ⟨u, rfl, hp⟩; obtain ⟨A5, c5, D5, d5, rfl, hC, hB⟩ := hp.out; have C5 := Aside0.mk hC; replace B0 := Aside0.mk (below_step B0.out hB); replace HT := Aside0.mk (HT.out.below hB); replace X4 := Aside0.mk (X4.out.below hB); replace C4 := Aside0.mk (C4.out.below hB); clear hp hC hB)
  clear s0 s1 s2 s3 s4 s5 s6
  have X5 := Aside0.mk (QB.new wq 3 A5 5 c5 1 2 18446744073709551613 2048 D5 5 d5)
  have hb := below_alloc (Below.refl wq.heap.size wq) (.cells #[.int .i64 3, .slice A5 5 c5, .int .i64 1, .int .u64 2, .int .u64 18446744073709551613, .int .i64 2048, .slice D5 5 d5] 28)
  replace X4 := Aside0.mk (X4.out.below hb)
  replace C4 := Aside0.mk (C4.out.below hb)
  replace C5 := Aside0.mk (C5.out.below hb)
  replace B0 := Aside0.mk (below_step B0.out hb)
  replace HT := Aside0.mk (HT.out.below hb)
  clear hb
  generalize wq.alloc (.cells #[.int .i64 3, .slice A5 5 c5, .int .i64 1, .int .u64 2, .int .u64 18446744073709551613, .int .i64 2048, .slice D5 5 d5] 28) = W5 at X4 C4 X5 C5 B0 HT ⊢
  generalize wq.heap.size = b5 at X5 ⊢
  have s0 := X5.out.c0
  have s1 := X5.out.c1
  have s2 := X5.out.c2
  have s3 := X5.out.c3
  have s4 := X5.out.c4
  have s5 := X5.out.c5
  have s6 := X5.out.c6
  go_upto_region 7 with (go_at_call 12; (refine (pickC a_x f_d f_x C5.out HT.out).mono ?_); rintro e wq ⟨u, rfl, hp⟩; obtain ⟨A6, c6, D6, d6, rfl, hC, hB⟩ := hp.out; have C6 := Aside0.mk hC; replace B0 := Aside0.mk (below_step B0.out hB); replace HT := Aside0.mk (HT.out.below hB); replace X4 := Aside0.mk (X4.out.below hB); replace C4 := Aside0.mk (C4.out.below hB); replace X5 := Aside0.mk (X5.out.below hB); replace C5 := Aside0.mk (C5.out.below hB); clear hp hC hB)
  clear s0 s1 s2 s3 s4 s5 s6
  have X6 := Aside0.mk (QB.new wq 1 A6 5 c6 3 18446744073709551613 18446744073709551613 2048 D6 5 d6)
  have hb := below_alloc (Below.refl wq.heap.size wq) (.cells #[.int .i64 1, .slice A6 5 c6, .int .i64 3, .int .u64 18446744073709551613, .int .u64 18446744073709551613, .int .i64 2048, .slice D6 5 d6] 28)
  replace X4 := Aside0.mk (X4.out.below hb)
  replace C4 := Aside0.mk (C4.out.below hb)
  replace X5 := Aside0.mk (X5.out.below hb)
  replace C5 := Aside0.mk (C5.out.below hb)
  replace C6 := Aside0.mk (C6.out.below hb)
  replace B0 := Aside0.mk (below_step B0.out hb)
  replace HT := Aside0.mk (HT.out.below hb)
  clear hb
  generalize wq.alloc (.cells #[.int .i64 1, .slice A6 5 c6, .int .i64 3, .int .u64 18446744073709551613, .int .u64 18446744073709551613, .int .i64 2048, .slice D6 5 d6] 28) = W6 at X4 C4 X5 C5 X6 C6 B0 HT ⊢
  generalize wq.heap.size = b6 at X6 ⊢
  have s0 := X6.out.c0
  have s1 := X6.out.c1
  have s2 := X6.out.c2
  have s3 := X6.out.c3
  have s4 := X6.out.c4
  have s5 := X6.out.c5
  have s6 := X6.out.c6
  go_upto_region 8 with (go_at_call 11; (refine (enterC a_k f_x f_0 C6.out HT.out).mono ?_); rintro e wq ⟨u, rfl, hp⟩; obtain ⟨A7, c7, D7, d7, rfl, hC, hB⟩ := hp.out; have C7 := Aside0.mk hC; replace B0 := Aside0.mk (below_step B0.out hB); replace HT := Aside0.mk (HT.out.below hB); replace X4 := Aside0.mk (X4.out.below hB); replace C4 := Aside0.mk (C4.out.below hB); replace X5 := Aside0.mk (X5.out.below hB); replace C5 := Aside0.mk (C5.out.below hB); replace X6 := Aside0.mk (X6.out.below hB); replace C6 := Aside0.mk (C6.out.below hB); clear hp hC hB)
  clear s0 s1 s2 s3 s4 s5 s6
  have X7 := Aside0.mk (QB.new wq 0 A7 0 c7 0 0 0 0 D7 0 d7)
  have hb := below_alloc (Below.refl wq.heap.size wq) (.cells #[.int .i64 0, .slice A7 0 c7, .int .i64 0, .int .u64 0, .int .u64 0, .int .i64 0, .slice D7 0 d7] 28)
  replace X4 := Aside0.mk (X4.out.below hb)
  replace C4 := Aside0.mk (C4.out.below hb)
  replace X5 := Aside0.mk (X5.out.below hb)
  replace C5 := Aside0.mk (C5.out.below hb)
  replace X6 := Aside0.mk (X6.out.below hb)
  replace C6 := Aside0.mk (C6.out.below hb)
  replace C7 := Aside0.mk (C7.out.below hb)
  replace B0 := Aside0.mk (below_step B0.out hb)
  replace HT := Aside0.mk (HT.out.below hb)
  clear hb
  generalize wq.alloc (.cells #[.int .i64 0, .slice A7 0 c7, .int .i64 0, .int .u64 0, .int .u64 0, .int .i64 0, .slice D7 0 d7] 28) = W7 at X4 C4 X5 C5 X6 C6 X7 C7 B0 HT ⊢
  generalize wq.heap.size = b7 at X7 ⊢
  clear X7 C7
  have s0 := X6.out.c0
  have s1 := X6.out.c1
  have s2 := X6.out.c2
  have s3 := X6.out.c3
  have s4 := X6.out.c4
  have s5 := X6.out.c5
  have s6 := X6.out.c6
  go_upto_region 9 with (go_at_call 17; (refine (leaveC a_l f_x f_0 C6.out HT.out).mono ?_); rintro e wq ⟨u, rfl, hp⟩; obtain ⟨A8, c8, D8, d8, rfl, hC, hB⟩ := hp.out; have C8 := Aside0.mk hC; replace B0 := Aside0.mk (below_step B0.out hB); replace HT := Aside0.mk (HT.out.below hB); replace X4 := Aside0.mk (X4.out.below hB); replace C4 := Aside0.mk (C4.out.below hB); replace X5 := Aside0.mk (X5.out.below hB); replace C5 := Aside0.mk (C5.out.below hB); replace X6 := Aside0.mk (X6.out.below hB); replace C6 := Aside0.mk (C6.out.below hB); clear hp hC hB)
  clear s0 s1 s2 s3 s4 s5 s6
  have X8 := Aside0.mk (QB.new wq 0 A8 0 c8 0 0 0 0 D8 0 d8)
  have hb := below_alloc (Below.refl wq.heap.size wq) (.cells #[.int .i64 0, .slice A8 0 c8, .int .i64 0, .int .u64 0, .int .u64 0, .int .i64 0, .slice D8 0 d8] 28)
  replace X4 := Aside0.mk (X4.out.below hb)
  replace C4 := Aside0.mk (C4.out.below hb)
  replace X5 := Aside0.mk (X5.out.below hb)
  replace C5 := Aside0.mk (C5.out.below hb)
  replace X6 := Aside0.mk (X6.out.below hb)
  replace C6 := Aside0.mk (C6.out.below hb)
  replace C8 := Aside0.mk (C8.out.below hb)
  replace B0 := Aside0.mk (below_step B0.out hb)
  replace HT := Aside0.mk (HT.out.below hb)
  clear hb
  generalize wq.alloc (.cells #[.int .i64 0, .slice A8 0 c8, .int .i64 0, .int .u64 0, .int .u64 0, .int .i64 0, .slice D8 0 d8] 28) = W8 at X4 C4 X5 C5 X6 C6 X8 C8 B0 HT ⊢
  generalize wq.heap.size = b8 at X8 ⊢
  clear X8 C8
  have c2 := X4.out.c2
  have d3 := X5.out.c3
  have s0 := X6.out.c0
  have s1 := X6.out.c1
  have s2 := X6.out.c2
  have s3 := X6.out.c3
  have s4 := X6.out.c4
  have s5 := X6.out.c5
  have s6 := X6.out.c6
  go_wp2_with (first
    | (go_at_call 14; refine (keysC a_y f_x C6.out HT.out).mono ?_; rintro e w1 ⟨A9, c9, rfl, hB⟩; have B1 := Aside0.mk (below_step B0.out hB); have HT1 := Aside0.mk (HT.out.below hB); have Y6 := Aside0.mk (X6.out.below hB); have E6 := Aside0.mk (C6.out.below hB); clear hB; have y0 := Y6.out.c0; have y1 := Y6.out.c1; have y2 := Y6.out.c2; have y3 := Y6.out.c3; have y4 := Y6.out.c4; have y5 := Y6.out.c5; have y6 := Y6.out.c6)
    | (go_at_call 18; refine (rightC a_r f_x E6.out HT1.out).mono ?_; rintro e w2 ⟨rfl, hB⟩; have B2 := Aside0.mk (below_step B1.out hB); clear hB))
  go_ret
  exact ⟨rfl, B2.out⟩
end Go.Proofs.YtnkhnnojdlgfjaaDoor.Qw
