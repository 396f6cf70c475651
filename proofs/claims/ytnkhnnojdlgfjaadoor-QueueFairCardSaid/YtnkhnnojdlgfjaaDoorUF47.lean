/- Parts of the proof, joined: FairW. -/
import Derived.Test.YtnkhnnojdlgfjaaDoorUF45
import Derived.Test.YtnkhnnojdlgfjaaDoorUF46
namespace Go.Proofs.YtnkhnnojdlgfjaaDoor.Qw
open Go.RowKit Go Go.Proofs Go.Proofs.YtnkhnnojdlgfjaaDoor Go.Proofs.YtnkhnnojdlgfjaaDoor.Tr Go.Proofs.YtnkhnnojdlgfjaaDoor.Tk Go.Proofs.YtnkhnnojdlgfjaaDoor.Tm Go.Proofs.YtnkhnnojdlgfjaaDoor.Qu Go.Proofs.YtnkhnnojdlgfjaaDoorW.PrintWords Go.Proofs.YtnkhnnojdlgfjaaDoorW.PrintLast Go.Proofs.YtnkhnnojdlgfjaaDoorW.PrintMore
set_option linter.unusedVariables false
set_option linter.unusedSimpArgs false
variable {S : Nat → Prop} {A B : Option Addr} {c d : Nat} {w w' : World} {q : Q}
theorem weight_ (n : Int) (h0 : 0 ≤ n) (h1 : n ≤ 65535) (w : World) (hT : Emp w) : Calls Tryd.prog 10 #[.int .u16 n] w fun e w' => e = .returned (.int .i64 (wOf n)) ∧ Below w.heap.size w w' := by
  refine (QFp.turnspitlaw12_Weight.calls n (wOf n) w hT ?_).mono ?_
  · unfold QFp.turnspitlaw12_Weight.f
    have e1 : Int.tmod (wrap64 n) 6 = ((n.toNat % 6 : Nat) : Int) := by
      rw [wr64, Int.tmod_eq_emod_of_nonneg (by omega)]
      omega
    rw [Option.bind_some, e1, if_pos (Int.natCast_nonneg _), if_pos (by show ((n.toNat % 6 : Nat) : Int) < 6; omega)]
    show some (rd _ _) = some (wOf n)
    unfold rd wOf
    rw [Int.toNat_natCast]
  · rintro e w' ⟨rfl, hb⟩
    first | exact ⟨rfl, hb⟩ | exact ⟨rfl, hb.below⟩
theorem min2_ (a b : Int) (w : World) (hT : Emp w) : Calls Tryd.prog 9 #[.int .i64 a, .int .i64 b] w fun e w' => e = .returned (.int .i64 (if a < b then a else b)) ∧ Below w.heap.size w w' := by
  refine (QFp.turnspitlaw12_min2.calls a b (if a < b then a else b) w hT ?_).mono ?_
  · unfold QFp.turnspitlaw12_min2.f
    split <;> rfl
  · rintro e w' ⟨rfl, hb⟩
    first | exact ⟨rfl, hb⟩ | exact ⟨rfl, hb.below⟩
theorem u16_at {A : Option Addr} {n : Nat} {l : List Int} {w : World} (h : (Kd.int .u16).C w A n l) (i : Nat) (h1 : i < n) : ∃ ad, A = some ad ∧ w.cell? (ad.add i) = some (.int .u16 (l.getD i 0)) := by
  obtain ⟨ad, c, e, _, hK, hc⟩ := Kd.C_get h 0 (i : Int) (by omega) (by omega)
  refine ⟨ad, e, ?_⟩
  have hq := hc 0 (.int .u16 (l.getD ((i : Int)).toNat 0)) (by rw [show c = [.int .u16 (l.getD ((i : Int)).toNat 0)] from hK]; rfl)
  rw [Int.toNat_natCast] at hq
  have h1 : (Kd.int .u16).sz = 1 := rfl
  rw [h1, Nat.mul_one, Nat.add_zero] at hq
  exact hq
def one (g : Nat) : Nat → Prop := fun k => k = g
theorem QIn.put7g {A B : Option Addr} {c d : Nat} {q : Q} {g : Nat} {W : World} (h : QIn (one g) A c B d W q) (v0 v1 v2 v3 v4 v5 v6 : Value) : QIn (one g) A c B d (set7 W g v0 v1 v2 v3 v4 v5 v6) q :=
  h.ag (((((((Ag.refl (one g) W).set (p := ⟨g, 0, none⟩) (Or.inl rfl) v0).set (p := ⟨g, 1, none⟩) (Or.inl rfl) v1).set (p := ⟨g, 2, none⟩) (Or.inl rfl) v2).set (p := ⟨g, 3, none⟩) (Or.inl rfl) v3).set (p := ⟨g, 4, none⟩) (Or.inl rfl) v4).set (p := ⟨g, 5, none⟩) (Or.inl rfl) v5 |>.set (p := ⟨g, 6, none⟩) (Or.inl rfl) v6)
section
variable {S : Nat → Prop} {A B : Option Addr} {c d : Nat} {w w' : World} {q q' : Q} {rt : Int} {n : Nat} {cur v mn load : Int} {m : Nat} {rt' : Int} {n' : Nat} {cur' v' mn' load' : Int} {m' : Nat}
structure LPS (S : Nat → Prop) (w : World) (q' : Q) (rt' : Int) (n' : Nat) (cur' v' mn' load' : Int) (m' : Nat) (u : Value) (w' : World) : Prop where mk ::
  out : ∃ A' c' B' d', u = .agg #[.int .i64 rt', .slice A' n' c', .int .i64 cur', .int .u64 v', .int .u64 mn', .int .i64 load', .slice B' m' d'] ∧ QIn S A' c' B' d' w' q' ∧ Below w.heap.size w w'
theorem lps {u : Value} (F : FQ q' rt' n' cur' v' mn' load' m') (h : QPost S w q' u w') : LPS S w q' rt' n' cur' v' mn' load' m' u w' := by
  obtain ⟨A, c, B, d, rfl, hq, hb⟩ := h.out
  obtain ⟨rfl, rfl, rfl, rfl, rfl, rfl, rfl⟩ := F
  exact ⟨A, c, B, d, rfl, hq, hb⟩
theorem enterS {id x lag e1 : Int} (hf : enterA q id x lag = some (q', e1)) (F : FQ q rt n cur v mn load m) (F' : FQ q' rt' n' cur' v' mn' load' m') (h : QIn S A c B d w q) (hT : Emp w) :
    Calls Tryd.prog 11 #[.agg #[.int .i64 rt, .slice A n c, .int .i64 cur, .int .u64 v, .int .u64 mn, .int .i64 load, .slice B m d], .int .i64 id, .int .i64 x, .int .i64 lag] w fun e w' => ∃ u, e = .returned (.tuple #[u, .int .i64 e1]) ∧ LPS S w q' rt' n' cur' v' mn' load' m' u w' := by
  obtain ⟨rfl, rfl, rfl, rfl, rfl, rfl, rfl⟩ := F
  refine (Enter_ h hT id x lag (q', e1) hf).mono ?_
  rintro e w' ⟨u, rfl, hp⟩
  exact ⟨u, rfl, lps F' hp⟩
theorem pickS {e1 e2 : Int} (hf : pickA q = some (q', e1, e2)) (F : FQ q rt n cur v mn load m) (F' : FQ q' rt' n' cur' v' mn' load' m') (h : QIn S A c B d w q) (hT : Emp w) :
    Calls Tryd.prog 12 #[.agg #[.int .i64 rt, .slice A n c, .int .i64 cur, .int .u64 v, .int .u64 mn, .int .i64 load, .slice B m d]] w fun e w' => ∃ u, e = .returned (.tuple #[u, .int .i64 e1, .int .i64 e2]) ∧ LPS S w q' rt' n' cur' v' mn' load' m' u w' := by
  obtain ⟨rfl, rfl, rfl, rfl, rfl, rfl, rfl⟩ := F
  refine (Pick_ h hT (q', e1, e2) hf).mono ?_
  rintro e w' ⟨u, rfl, hp⟩
  exact ⟨u, rfl, lps F' hp⟩
theorem tickS {x : Int} {b1 : Bool} {e2 : Int} (hf : tickA q x = (q', b1, e2)) (F : FQ q rt n cur v mn load m) (F' : FQ q' rt' n' cur' v' mn' load' m') (h : QIn S A c B d w q) (hT : Emp w) :
    Calls Tryd.prog 13 #[.agg #[.int .i64 rt, .slice A n c, .int .i64 cur, .int .u64 v, .int .u64 mn, .int .i64 load, .slice B m d], .int .i64 x] w fun e w' => ∃ u, e = .returned (.tuple #[u, .bool b1, .int .i64 e2]) ∧ LPS S w q' rt' n' cur' v' mn' load' m' u w' := by
  obtain ⟨rfl, rfl, rfl, rfl, rfl, rfl, rfl⟩ := F
  refine (Tick_ h hT x (q', b1, e2) hf).mono ?_
  rintro e w' ⟨u, rfl, hp⟩
  exact ⟨u, rfl, lps F' hp⟩
theorem keysS {kl : List K} (hf : keysF q = kl) (F : FQ q rt n cur v mn load m) (h : QIn S A c B d w q) (hT : Emp w) :
    Calls Tryd.prog 14 #[.agg #[.int .i64 rt, .slice A n c, .int .i64 cur, .int .u64 v, .int .u64 mn, .int .i64 load, .slice B m d]] w fun e w' => KPost w kl e w' := by
  obtain ⟨rfl, rfl, rfl, rfl, rfl, rfl, rfl⟩ := F
  subst hf
  exact KeysQ_ h hT
end
structure QIs (P : Q → Prop) (g : Nat) (w0 W : World) : Prop where mk ::
  out : ∃ rt A n c cur v mn load B m d q, QB rt A n c cur v mn load B m d W g ∧ FQ q rt n cur v mn load m ∧ QIn (one g) A c B d W q ∧ P q
  b : Below w0.heap.size w0 W
  t : Emp W
theorem QIs.step {P : Q → Prop} {g : Nat} {w0 W W' : World} (h : QIs P g w0 W) (hb : Below W.heap.size W W') : QIs P g w0 W' := by
  obtain ⟨⟨rt, A, n, c, cur, v, mn, load, B, m, d, q, h1, h2, h3, h4⟩, h5, h6⟩ := h
  exact ⟨⟨rt, A, n, c, cur, v, mn, load, B, m, d, q, h1.below hb, h2, h3.below hb, h4⟩, below_step h5 hb, h6.below hb⟩
structure L1Rel (T : List Int) (P : Q → Prop) (g : Nat) (w0 : World) (s i : Value) (k : Nat) (l : Int) (wr : World) : Prop where mk ::
  le : k ≤ T.length ∧ k ≤ 12
  hi : i = .int .i64 (k : Int)
  hs : s = .int .i64 l
  ok : 15 ≤ l ∧ l ≤ 88761 ∧ ∀ j : Nat, j < k → l ≤ wOf (T.getD j 0)
  q : QIs P g w0 wr
structure L1Rl (T : List Int) (P : Q → Prop) (g : Nat) (w0 : World) (s i : Value) (wr : World) : Prop where mk ::
  out : ∃ k l, L1Rel T P g w0 s i k l wr
structure L2Rel (T : List Int) (mn l bd : Int) (g : Nat) (w0 : World) (i : Value) (k : Nat) (wr : World) : Prop where mk ::
  le : k ≤ T.length ∧ k ≤ 12
  hi : i = .int .i64 (k : Int)
  q : QIs (FE mn l bd k) g w0 wr
structure L2Rl (T : List Int) (mn l bd : Int) (g : Nat) (w0 : World) (i : Value) (wr : World) : Prop where mk ::
  out : ∃ k, L2Rel T mn l bd g w0 i k wr
structure L3Rel (U : List Int) (l bd : Int) (g : Nat) (w0 : World) (i : Value) (k : Nat) (wr : World) : Prop where mk ::
  le : k ≤ U.length ∧ k ≤ 60
  hi : i = .int .i64 (k : Int)
  q : QIs (FT l bd) g w0 wr
structure L3Rl (U : List Int) (l bd : Int) (g : Nat) (w0 : World) (i : Value) (wr : World) : Prop where mk ::
  out : ∃ k, L3Rel U l bd g w0 i k wr
theorem QIs.imp {P P' : Q → Prop} {g : Nat} {w0 W : World} (h : QIs P g w0 W) (hP : ∀ q, P q → P' q) : QIs P' g w0 W := by
  obtain ⟨⟨rt, A, n, c, cur, v, mn, load, B, m, d, q, h1, h2, h3, h4⟩, h5, h6⟩ := h
  exact ⟨⟨rt, A, n, c, cur, v, mn, load, B, m, d, q, h1, h2, h3, hP q h4⟩, h5, h6⟩
def two (g gx : Nat) : Nat → Prop := fun k => k = g ∨ k = gx
theorem QIn.two {A B : Option Addr} {c d : Nat} {q : Q} {g gx : Nat} {W W' : World} (h : QIn (one g) A c B d W q) (hb : Below W.heap.size W W') (hx : gx = W.heap.size) (hl : gx < W'.heap.size) : QIn (two g gx) A c B d W' q :=
  h.more hb (fun k hk => hk.elim Or.inl (fun e => Or.inr (by rw [e, hx]; exact Nat.le_refl _))) (fun k hk => hk.elim (fun e => Nat.lt_of_lt_of_le (h.sl k e) hb.size) (fun e => by rw [e]; exact hl))
theorem QIn.put7x {A B : Option Addr} {c d : Nat} {q : Q} {g gx : Nat} {W : World} (h : QIn (Qw.two g gx) A c B d W q) (v0 v1 v2 v3 v4 v5 v6 : Value) : QIn (one g) A c B d (set7 W gx v0 v1 v2 v3 v4 v5 v6) q :=
  (h.ag (((((((Ag.refl (Qw.two g gx) W).set (p := ⟨gx, 0, none⟩) (Or.inl (Or.inr rfl)) v0).set (p := ⟨gx, 1, none⟩) (Or.inl (Or.inr rfl)) v1).set (p := ⟨gx, 2, none⟩) (Or.inl (Or.inr rfl)) v2).set (p := ⟨gx, 3, none⟩) (Or.inl (Or.inr rfl)) v3).set (p := ⟨gx, 4, none⟩) (Or.inl (Or.inr rfl)) v4).set (p := ⟨gx, 5, none⟩) (Or.inl (Or.inr rfl)) v5 |>.set (p := ⟨gx, 6, none⟩) (Or.inl (Or.inr rfl)) v6)).less (fun k hk => Or.inl hk)
structure EB (S : Nat → Prop) (rt : Int) (A : Option Addr) (n c : Nat) (cur v mn load : Int) (B : Option Addr) (m d : Nat) (q : Q) (g : Nat) (w0 : World) (ad : Addr) (k : Nat) (tk : Int) (W : World) : Prop where mk ::
  x : QB rt A n c cur v mn load B m d W g
  q : QIn S A c B d W q
  b : Below w0.heap.size w0 W
  t : Emp W
  y : W.cell? (ad.add k) = some (.int .u16 tk)
section
variable {S : Nat → Prop} {rt : Int} {A : Option Addr} {n c : Nat} {cur v mn load : Int} {B : Option Addr} {m d : Nat} {q : Q} {g gx : Nat} {w0 : World} {ad : Addr} {k : Nat} {tk : Int} {W W' : World}
theorem EB.step (h : EB S rt A n c cur v mn load B m d q g w0 ad k tk W) (hb : Below W.heap.size W W') : EB S rt A n c cur v mn load B m d q g w0 ad k tk W' := ⟨h.x.below hb, h.q.below hb, below_step h.b hb, h.t.below hb, pw_cell_below hb h.y⟩
theorem EB.drew (h : EB S rt A n c cur v mn load B m d q g w0 ad k tk W) : EB S rt A n c cur v mn load B m d q g w0 ad k tk W.drew := h.step (Below.drew (Below.refl _ _))
theorem EB.box (h : EB (one g) rt A n c cur v mn load B m d q g w0 ad k tk W) (hb : Below W.heap.size W W') (hx : gx = W.heap.size) (hl : gx < W'.heap.size) : EB (Qw.two g gx) rt A n c cur v mn load B m d q g w0 ad k tk W' := ⟨h.x.below hb, h.q.two hb hx hl, below_step h.b hb, h.t.below hb, pw_cell_below hb h.y⟩
end
structure XB (rt : Int) (A : Option Addr) (n c : Nat) (cur v mn load : Int) (B : Option Addr) (m d : Nat) (rt' : Int) (A' : Option Addr) (n' c' : Nat) (cur' v' mn' load' : Int) (B' : Option Addr) (m' d' : Nat) (q' : Q) (g gx : Nat) (w0 W : World) : Prop where mk ::
  x : QB rt A n c cur v mn load B m d W g
  n : QB rt' A' n' c' cur' v' mn' load' B' m' d' W gx
  ne : g < gx
  q : QIn (one g) A' c' B' d' W q'
  b : Below w0.heap.size w0 W
  t : Emp W
theorem XB.mk' {rt : Int} {A : Option Addr} {n c : Nat} {cur v mn load : Int} {B : Option Addr} {m d : Nat} {rt' : Int} {A' : Option Addr} {n' c' : Nat} {cur' v' mn' load' : Int} {B' : Option Addr} {m' d' : Nat} {q q' : Q} {g gx : Nat} {w0 W : World} {ad : Addr} {k : Nat} {tk : Int}
    (hT : Emp w0) (hx : EB (Qw.two g gx) rt A n c cur v mn load B m d q g w0 ad k tk W) (hz : QB 0 none 0 0 0 0 0 0 none 0 0 W gx) (hq : QIn (Qw.two g gx) A' c' B' d' W q') (hg : g < gx) (hw : w0.heap.size ≤ gx) :
    XB rt A n c cur v mn load B m d rt' A' n' c' cur' v' mn' load' B' m' d' q' g gx w0 (set7 W gx (.int .i64 rt') (.slice A' n' c') (.int .i64 cur') (.int .u64 v') (.int .u64 mn') (.int .i64 load') (.slice B' m' d')) :=
  have hb := set7_below hx.b (g := gx) hw (.int .i64 rt') (.slice A' n' c') (.int .i64 cur') (.int .u64 v') (.int .u64 mn') (.int .i64 load') (.slice B' m' d')
  ⟨hx.x.far7 (by omega) _ _ _ _ _ _ _, ⟨set7_out hz.out rfl _ _ _ _ _ _ _⟩, hg, hq.put7x _ _ _ _ _ _ _, hb, hT.below hb⟩
theorem XB.step {rt : Int} {A : Option Addr} {n c : Nat} {cur v mn load : Int} {B : Option Addr} {m d : Nat} {rt' : Int} {A' : Option Addr} {n' c' : Nat} {cur' v' mn' load' : Int} {B' : Option Addr} {m' d' : Nat} {q' : Q} {g gx : Nat} {w0 W W' : World}
    (h : XB rt A n c cur v mn load B m d rt' A' n' c' cur' v' mn' load' B' m' d' q' g gx w0 W) (hb : Below W.heap.size W W') : XB rt A n c cur v mn load B m d rt' A' n' c' cur' v' mn' load' B' m' d' q' g gx w0 W' := ⟨h.x.below hb, h.n.below hb, h.ne, h.q.below hb, below_step h.b hb, h.t.below hb⟩
theorem day_of {tk m b1 : Int} (h : 0 ≤ tk ∧ tk ≤ 65535) (hm : 1 ≤ m ∧ m ≤ 5000) (hb1 : b1 = m + 1) : 0 ≤ (wrap64 tk).tmod b1 ∧ (wrap64 tk).tmod b1 ≤ m ∧ ¬ b1 = 0 ∧ wrap64 (m + 1) = b1 ∧ IntKind.i64.wrap (m + 1) = b1 := by
  have e1 : wrap64 tk = tk := by rw [wr64]; omega
  have e2 : wrap64 (m + 1) = b1 := by rw [wr64, hb1]; omega
  rw [e1, Int.tmod_eq_emod_of_nonneg (by omega)]
  have h1 := Int.emod_nonneg tk (show b1 ≠ 0 by omega)
  have h2 := Int.emod_lt_of_pos tk (show 0 < b1 by omega)
  exact ⟨by omega, by omega, by omega, e2, (i64_w _).trans e2⟩
theorem bd_of {m l bd : Int} (hm : 1 ≤ m ∧ m ≤ 5000) (hl : 15 ≤ l) (h : bd = wrap64 (wrap64 ((wrap64 (m * 1024)).tdiv l) + 1)) : bd = m * 1024 / l + 1 ∧ 1 ≤ bd ∧ bd ≤ 341334 := by
  have e1 : wrap64 (m * 1024) = m * 1024 := by rw [wr64]; omega
  have h1 : 0 ≤ m * 1024 / l := Int.ediv_nonneg (by omega) (by omega)
  have h2 : m * 1024 / l ≤ m * 1024 / 15 := div_anti (by omega) (by omega) hl
  rw [e1, Int.tdiv_eq_ediv_of_nonneg (by omega)] at h
  generalize m * 1024 / l = x at *
  have e2 : wrap64 (wrap64 x + 1) = x + 1 := by rw [wr64, wr64]; omega
  omega
theorem lag_of {tk bd b1 : Int} (h : 0 ≤ tk ∧ tk ≤ 65535) (hb : 1 ≤ bd ∧ bd ≤ 341334) (hb1 : b1 = bd + 1) : 0 ≤ (wrap64 (wrap64 tk * 37)).tmod b1 ∧ (wrap64 (wrap64 tk * 37)).tmod b1 ≤ bd ∧ ¬ b1 = 0 ∧ wrap64 (bd + 1) = b1 ∧ IntKind.i64.wrap (bd + 1) = b1 := by
  have e1 : wrap64 (wrap64 tk * 37) = tk * 37 := by rw [wr64, wr64]; omega
  have e2 : wrap64 (bd + 1) = b1 := by rw [wr64, hb1]; omega
  rw [e1, Int.tmod_eq_emod_of_nonneg (by omega)]
  have h1 := Int.emod_nonneg (tk * 37) (show b1 ≠ 0 by omega)
  have h2 := Int.emod_lt_of_pos (tk * 37) (show 0 < b1 by omega)
  exact ⟨by omega, by omega, by omega, e2, (i64_w _).trans e2⟩
set_option maxHeartbeats 32000000 in
set_option maxRecDepth 100000 in
theorem Fair_ (mn : Int) (A1 : Option Addr) (c1 : Nat) (T : List Int) (A2 : Option Addr) (c2 : Nat) (U : List Int) (w : World) (hT : Emp w) (r1 : (Kd.int .u16).C w A1 T.length T) (r2 : (Kd.int .u16).C w A2 U.length U)
    (l1 : T.length ≤ 140737488351232) (l2 : U.length ≤ 140737488351232) (g1 : ∀ x ∈ T, 0 ≤ x ∧ x ≤ 65535) (g2 : ∀ x ∈ U, 0 ≤ x ∧ x ≤ 65535) :
    Calls Tryd.prog 4 #[.int .u64 mn, .slice A1 T.length c1, .slice A2 U.length c2] w fun e w' => e = .returned (.bool true) ∧ Below w.heap.size w w' := by
  have HT := Aside0.mk hT
  have R1 := Aside0.mk r1
  have R2 := Aside0.mk r2
  have L1 := Aside0.mk l1
  have L2 := Aside0.mk l2
  have G1 := Aside0.mk g1
  have G2 := Aside0.mk g2
  clear hT r1 r2 l1 l2 g1 g2
  obtain ⟨qn, hq0, -⟩ := fe_new mn 0 0
  have HF0 := Aside0.mk (fun (least bound : Int) => (show FE mn least bound 0 qn from by
    obtain ⟨q1, h1, h2⟩ := fe_new mn least bound
    rw [hq0] at h1
    rw [(Prod.mk.inj h1).1]
    exact h2))
  have HNW := Aside0.mk (fun (W : World) (hT : Emp W) => (show Calls Tryd.prog 5 #[.int .i64 12, .int .u64 mn] W fun e w' => ∃ u, e = .returned (.tuple #[u, .int .i64 0]) ∧ LPost W qn qn.t.rt qn.t.ns.length qn.cur qn.v qn.mn qn.load qn.ws.length u w' from newC hq0 ⟨rfl, rfl, rfl, rfl, rfl, rfl, rfl⟩ hT))
  have HFQ := Aside0.mk (show FQ qn qn.t.rt qn.t.ns.length qn.cur qn.v qn.mn qn.load qn.ws.length from ⟨rfl, rfl, rfl, rfl, rfl, rfl, rfl⟩)
  generalize qn.t.rt = nrt at HNW HFQ
  generalize qn.t.ns.length = nn at HNW HFQ
  generalize qn.cur = ncur at HNW HFQ
  generalize qn.v = nv at HNW HFQ
  generalize qn.mn = nmn at HNW HFQ
  generalize qn.load = nload at HNW HFQ
  generalize qn.ws.length = nm at HNW HFQ
  clear hq0
  go_enter Tryd.func4, Tryd.ntmps4
  go_upto_region 2 with (go_at_call 7; refine (awakeQ_ _ HT.out).mono ?_; rintro e w1 ⟨rfl, hb⟩; have B1 := Aside0.mk hb; have HT1 := Aside0.mk (HT.out.below hb); clear hb)
  go_upto_region 5 with (go_at_call 5; refine (HNW.out _ HT1.out).mono ?_; rintro e w2 ⟨u, rfl, hp⟩; obtain ⟨A3, c3, D3, d3, rfl, hC, hB⟩ := hp.out; have C3 := Aside0.mk hC; have B2 := Aside0.mk (below_step B1.out hB); have HT2 := Aside0.mk (HT1.out.below hB); clear hp hC hB)
  have X3 := QB.new w2 nrt A3 nn c3 ncur nv nmn nload D3 nm d3
  have hb := below_alloc (Below.refl w2.heap.size w2) (.cells #[.int .i64 nrt, .slice A3 nn c3, .int .i64 ncur, .int .u64 nv, .int .u64 nmn, .int .i64 nload, .slice D3 nm d3] 28)
  have HGB := Aside0.mk (B2.out.size)
  have QI := Aside0.mk (show QIs (fun q => ∀ least bound, FE mn least bound 0 q) w2.heap.size w _ from ⟨⟨_, _, _, _, _, _, _, _, _, _, _, _, X3, HFQ.out, C3.out.more hb (fun k hk => Or.inr (by rw [show k = w2.heap.size from hk]; exact Nat.le_refl _)) (fun k hk => by rw [show k = w2.heap.size from hk]; exact X3.lt), HF0.out⟩, below_step B2.out hb, HT2.out.below hb⟩)
  clear X3 hb C3 B2 HT2 HT1 B1 HNW HFQ HF0
  generalize w2.alloc (.cells #[.int .i64 nrt, .slice A3 nn c3, .int .i64 ncur, .int .u64 nv, .int .u64 nmn, .int .i64 nload, .slice D3 nm d3] 28) = W3 at QI ⊢
  generalize w2.heap.size = g at QI HGB ⊢
  by_cases t0 : T.length = 0
  · have t1 : ((T.length : Int) == 0) = true := by simpa using t0
    have HB := Aside0.mk QI.out.b
    clear t0
    go_wp2
    go_ret
    exact ⟨rfl, HB.out⟩
  by_cases u0 : U.length = 0
  · have t1 : ((T.length : Int) == 0) = false := by simpa using t0
    have u1 : ((U.length : Int) == 0) = true := by simpa using u0
    have HB := Aside0.mk QI.out.b
    clear t0 u0
    go_wp2
    go_ret
    exact ⟨rfl, HB.out⟩
  have t1 : ((T.length : Int) == 0) = false := by simpa using t0
  have u1 : ((U.length : Int) == 0) = false := by simpa using u0
  have T0 := Aside0.mk (show 0 < T.length by omega)
  have U0 := Aside0.mk (show 0 < U.length by omega)
  clear t0 u0
  obtain ⟨ad2, e2, x0⟩ := u16_at (Kd.C_below R2.out QI.out.b) 0 U0.out
  subst e2
  have HU0 := Aside0.mk (G2.out (U.getD 0 0) (by rw [List.getD_eq_getElem?_getD, List.getElem?_eq_getElem U0.out]; exact List.getElem_mem U0.out))
  generalize U.getD 0 0 = u0 at x0 HU0
  replace x0 : W3.cell? ad2 = some (.int .u16 u0) := by simpa [Addr.add] using x0
  have hu0 : (0 : Int) < (U.length : Int) := by have := U0.out; omega
  have hl2 : (U.length : Int) ≤ 140737488351232 := by have := L2.out; omega
  go_upto_region 8 with (fail)
  obtain ⟨m, hm⟩ : ∃ m, m = wrap64 (1 + (wrap64 u0).tmod 5000) := ⟨_, rfl⟩
  rw [← hm]
  have HM := Aside0.mk (show 1 ≤ m ∧ m ≤ 5000 from by
    have h1 := HU0.out
    rw [hm, wr64, wr64, Int.tmod_eq_emod_of_nonneg (by omega)]
    omega)
  clear hm x0 t1 u1 hu0 hl2
  go_wp2
  go_loopw [11, 12] (fun s i wr => L1Rl T (fun q => ∀ least bound, FE mn least bound 0 q) g w s i wr) (fun s i wr => 12 - (intOf i).toNat)
  case atStart => exact ⟨0, 88761, ⟨Nat.zero_le _, by omega⟩, rfl, rfl, ⟨by omega, by omega, fun j hj => by omega⟩, QI.out⟩
  case round =>
    obtain ⟨k, l, ⟨hk1, hk2⟩, rfl, rfl, hl, hq⟩ := hrel.out
    clear hrel QI
    have QI := Aside0.mk hq
    have HLL := Aside0.mk hl
    clear hq hl
    have hT2 : (T.length : Int) ≤ 140737488351232 := by have := L1.out; omega
    have hkn : k < 1000000 := by omega
    by_cases cx : k < T.length ∧ k < 12
    · obtain ⟨c1x, c2x⟩ := cx
      have c1i : (k : Int) < (T.length : Int) := by omega
      have c2i : (k : Int) < 12 := by omega
      have HK := Aside0.mk (And.intro c1x c2x)
      obtain ⟨ad1, e1, y0⟩ := u16_at (Kd.C_below R1.out QI.out.b) k c1x
      subst e1
      have HTK := Aside0.mk (G1.out (T.getD k 0) (by rw [List.getD_eq_getElem?_getD, List.getElem?_eq_getElem c1x]; exact List.getElem_mem c1x))
      have HWE := Aside0.mk (show ∀ j : Nat, j < k + 1 → (j < k ∨ j = k) from fun j hj => by omega)
      have HWO := Aside0.mk (wOf_in (T.getD k 0))
      obtain ⟨tk, htk⟩ : ∃ tk, tk = T.getD k 0 := ⟨_, rfl⟩
      rw [← htk] at y0 HTK HWO
      have HTQ := Aside0.mk htk
      clear htk c1x c2x
      go_wp2_with (first
        | (go_at_call 10; refine (weight_ tk HTK.out.1 HTK.out.2 _ QI.out.t).mono ?_; rintro e w5 ⟨rfl, hb⟩; have QI5 := Aside0.mk (QI.out.step hb); clear hb)
        | (go_at_call 9; refine (min2_ l (wOf tk) _ QI5.out.t).mono ?_; rintro e w6 ⟨rfl, hb⟩; have QI6 := Aside0.mk (QI5.out.step hb); clear hb))
      refine ⟨⟨k + 1, _, ⟨by have := HK.out; omega, by have := HK.out; omega⟩, by simp, rfl, ⟨?_, ?_, fun j hj => ?_⟩, QI6.out⟩, ?_⟩
      · have h1 := HLL.out
        have h2 := HWO.out
        split <;> omega
      · have h1 := HLL.out
        have h2 := HWO.out
        split <;> omega
      · have h1 := HLL.out.2.2
        rcases HWE.out j hj with hj | rfl
        · have := h1 j hj
          split <;> omega
        · rw [← HTQ.out]
          split <;> omega
      · show 12 - ((k : Int) + 1).toNat < 12 - (k : Int).toNat
        have := HK.out
        omega
    · have HEX := Aside0.mk (show ∀ j : Nat, j < T.length → j < 12 → l ≤ wOf (T.getD j 0) from fun j h1 h2 => HLL.out.2.2 j (by omega))
      go_upto_region 10 with (fail)
      go_cut [66] (fun s66 wx => s66 = .bool false ∧ wx = wr)
      case first =>
        by_cases c1x : k < T.length
        · have c1i : (k : Int) < (T.length : Int) := by omega
          have c2i : ¬ (k : Int) < 12 := by omega
          go_wp2_with fail
          go_meet
          exact ⟨by simp [c2i], rfl⟩
        · have c1i : ¬ (k : Int) < (T.length : Int) := by omega
          go_wp2_with fail
          go_meet
          exact ⟨rfl, rfl⟩
      obtain ⟨rfl, hwc⟩ := hcut
      rw [← hwc] at QI
      clear hwc cx
      go_upto_region 13 with (fail)
      have HLI := Aside0.mk (And.intro HLL.out.1 HLL.out.2.1)
      have hl0 : ¬ l = 0 := by have := HLI.out; omega
      have hl1 : 15 ≤ l := by have := HLI.out; omega
      clear HLL
      go_upto_region 14 with (fail)
      obtain ⟨bd, hbd⟩ : ∃ bd, bd = wrap64 (wrap64 ((wrap64 (m * 1024)).tdiv l) + 1) := ⟨_, rfl⟩
      rw [← hbd]
      have HBD := Aside0.mk (bd_of HM.out hl1 hbd)
      clear hbd hl0 hl1 hkn
      replace QI := Aside0.mk (QI.out.imp (P' := FE mn l bd 0) (fun q h => h l bd))
      go_wp2
      go_loopw [14] (fun i wr => L2Rl T mn l bd g w i wr) (fun i wr => 12 - (intOf i).toNat)
      case atStart => exact ⟨0, ⟨Nat.zero_le _, by omega⟩, rfl, QI.out⟩
      case round =>
        obtain ⟨k, ⟨hk1, hk2⟩, rfl, hq⟩ := hrel.out
        clear hrel QI
        have QI := Aside0.mk hq
        clear hq
        have hkn : k < 1000000 := by omega
        by_cases dx : k < T.length ∧ k < 12
        · obtain ⟨d1x, d2x⟩ := dx
          have d1i : (k : Int) < (T.length : Int) := by omega
          have d2i : (k : Int) < 12 := by omega
          have HK := Aside0.mk (And.intro d1x d2x)
          obtain ⟨ad1, e1, y0⟩ := u16_at (Kd.C_below R1.out QI.out.b) k d1x
          subst e1
          have HTK := Aside0.mk (G1.out (T.getD k 0) (by rw [List.getD_eq_getElem?_getD, List.getElem?_eq_getElem d1x]; exact List.getElem_mem d1x))
          have HWO := Aside0.mk (And.intro (wOf_in (T.getD k 0)) (HEX.out k d1x d2x))
          generalize T.getD k 0 = tk at y0 HTK HWO
          obtain ⟨⟨rt, A, nn, c, cur, v, mnn, load, B, mm, d, q, hx, hf, hq, hp⟩, hb, ht⟩ := QI.out
          have SB := Aside0.mk (show EB (one g) rt A nn c cur v mnn load B mm d q g w ad1 k tk wr from ⟨hx, hq, hb, ht, y0⟩)
          obtain ⟨b1, hb1⟩ : ∃ b1, b1 = bd + 1 := ⟨_, rfl⟩
          have HLG := Aside0.mk (lag_of HTK.out HBD.out.2 hb1)
          clear hb1
          obtain ⟨q', hen, hfe⟩ := fe_enter hp d2x HWO.out.1 HWO.out.2 HLG.out.1 HLG.out.2.1 (by have := HBD.out; omega)
          have HFE := Aside0.mk hfe
          obtain ⟨rt', nn', cur', v', mn', load', mm', hf'⟩ : ∃ rt' nn' cur' v' mn' load' mm', FQ q' rt' nn' cur' v' mn' load' mm' := ⟨_, _, _, _, _, _, _, ⟨rfl, rfl, rfl, rfl, rfl, rfl, rfl⟩⟩
          have HF2 := Aside0.mk hf'
          have HEN := Aside0.mk (fun (S : Nat → Prop) (W : World) (h : QIn S A c B d W q) (hT : Emp W) => enterS hen hf hf' h hT)
          have hr0 := HLG.out.2.2.1
          have hr1 := HLG.out.2.2.2.1
          have hr2 := HLG.out.2.2.2.2
          clear QI y0 hx hq hb ht hp hen hfe hf hf' d1x d2x
          have a0 := SB.out.x.c0
          have a1 := SB.out.x.c1
          have a2 := SB.out.x.c2
          have a3 := SB.out.x.c3
          have a4 := SB.out.x.c4
          have a5 := SB.out.x.c5
          have a6 := SB.out.x.c6
          have y0 := SB.out.y
          go_upto_region 17 with (fail)
          go_cut [15, 16] (fun s15 s16 wx => s16 = .int .i64 0 ∧ ∃ gx A7 c7 B7 d7, s15 = .pointer (some ⟨gx, 0, none⟩) ∧ Aside0 (XB rt A nn c cur v mnn load B mm d rt' A7 nn' c7 cur' v' mn' load' B7 mm' d7 q' g gx w wx))
          case first =>
            clear a0 a1 a2 a3 a4 a5 a6 y0
            replace SB := Aside0.mk SB.out.drew
            refine start_ (n := 23) (S := fun w' => w'.cell? ⟨g, 0, none⟩ = some (.int .i64 rt) ∧ w'.cell? ⟨g, 1, none⟩ = some (.slice A nn c) ∧ w'.cell? ⟨g, 2, none⟩ = some (.int .i64 cur) ∧ w'.cell? ⟨g, 3, none⟩ = some (.int .u64 v) ∧ w'.cell? ⟨g, 4, none⟩ = some (.int .u64 mnn) ∧ w'.cell? ⟨g, 5, none⟩ = some (.int .i64 load) ∧ w'.cell? ⟨g, 6, none⟩ = some (.slice B mm d) ∧ w'.cell? (ad1.add k) = some (.int .u16 tk)) (ds := []) #[false, false, false, false, false, false, false, false, false, false, false, false, false, false, false, false, false, false, false, false, false, false, false] (by kernel_rfl) rfl rfl ⟨SB.out.x.c0, SB.out.x.c1, SB.out.x.c2, SB.out.x.c3, SB.out.x.c4, SB.out.x.c5, SB.out.x.c6, SB.out.y⟩ (fun hHeld => ?_)
            generalize World.drew _ = W5 at SB hHeld ⊢
            refine take_ (i := 0) (N := some 92) (v := ?_) (a' := ?_) #[true, false, false, false, false, false, false, false, false, false, false, false, false, false, false, false, false, false, false, false, false, false, false] rfl rfl (by kernel_rfl) (fun _ _ _ h => h) (Or.inl ⟨by rfl, ?_⟩) hHeld ?_ ?_
            rotate_left
            · rintro w' ⟨s0, s1, s2, s3, s4, s5, s6, s7⟩
              go_simp
              with_reducible rfl
            rotate_left
            · (simp only [Act.put, List.setIfInBounds_toArray, List.set_cons_zero, List.set_cons_succ, i64_w, i32_w]; rfl)
            refine pure_ (i := 1) (N := some 93) (v := ?_) (a' := ?_) #[true, true, false, false, false, false, false, false, false, false, false, false, false, false, false, false, false, false, false, false, false, false, false] rfl rfl (by kernel_rfl) (fun _ _ _ h => h) (Or.inl ⟨by rfl, ?_⟩) ?_ ?_
            rotate_left
            · intro w'
              go_simp
              with_reducible rfl
            rotate_left
            · (simp only [Act.put, List.setIfInBounds_toArray, List.set_cons_zero, List.set_cons_succ, i64_w, i32_w]; rfl)
            refine pure_ (i := 2) (N := some 94) (v := ?_) (a' := ?_) #[true, true, true, false, false, false, false, false, false, false, false, false, false, false, false, false, false, false, false, false, false, false, false] rfl rfl (by kernel_rfl) (fun _ _ _ h => h) (Or.inl ⟨by rfl, ?_⟩) ?_ ?_
            rotate_left
            · intro w'
              go_simp
              with_reducible rfl
            rotate_left
            · (simp only [Act.put, List.setIfInBounds_toArray, List.set_cons_zero, List.set_cons_succ, i64_w, i32_w]; rfl)
            refine pure_ (i := 3) (N := some 95) (v := ?_) (a' := ?_) #[true, true, true, true, false, false, false, false, false, false, false, false, false, false, false, false, false, false, false, false, false, false, false] rfl rfl (by kernel_rfl) (fun _ _ _ h => h) (Or.inl ⟨by rfl, ?_⟩) ?_ ?_
            rotate_left
            · intro w'
              go_simp
              with_reducible rfl
            rotate_left
            · (simp only [Act.put, List.setIfInBounds_toArray, List.set_cons_zero, List.set_cons_succ, i64_w, i32_w]; rfl)
            refine pure_ (i := 4) (N := some 96) (v := ?_) (a' := ?_) #[true, true, true, true, true, false, false, false, false, false, false, false, false, false, false, false, false, false, false, false, false, false, false] rfl rfl (by kernel_rfl) (fun _ _ _ h => h) (Or.inl ⟨by rfl, ?_⟩) ?_ ?_
            rotate_left
            · intro w'
              go_simp
              with_reducible rfl
            rotate_left
            · (simp only [Act.put, List.setIfInBounds_toArray, List.set_cons_zero, List.set_cons_succ, i64_w, i32_w]; rfl)
            refine take_ (i := 5) (N := some 97) (v := ?_) (a' := ?_) #[true, true, true, true, true, true, false, false, false, false, false, false, false, false, false, false, false, false, false, false, false, false, false] rfl rfl (by kernel_rfl) (fun _ _ _ h => h) (Or.inl ⟨by rfl, ?_⟩) hHeld ?_ ?_
            rotate_left
            · rintro w' ⟨s0, s1, s2, s3, s4, s5, s6, s7⟩
              go_simp
              with_reducible rfl
            rotate_left
            · (simp only [Act.put, List.setIfInBounds_toArray, List.set_cons_zero, List.set_cons_succ, i64_w, i32_w]; rfl)
            refine pure_ (i := 7) (N := some 99) (v := ?_) (a' := ?_) #[true, true, true, true, true, true, false, true, false, false, false, false, false, false, false, false, false, false, false, false, false, false, false] rfl rfl (by kernel_rfl) (fun _ _ _ h => h) (Or.inl ⟨by rfl, ?_⟩) ?_ ?_
            rotate_left
            · intro w'
              go_simp
              with_reducible rfl
            rotate_left
            · (simp only [Act.put, List.setIfInBounds_toArray, List.set_cons_zero, List.set_cons_succ, i64_w, i32_w]; rfl)
            refine pure_ (i := 8) (N := some 100) (v := ?_) (a' := ?_) #[true, true, true, true, true, true, false, true, true, false, false, false, false, false, false, false, false, false, false, false, false, false, false] rfl rfl (by kernel_rfl) (fun _ _ _ h => h) (Or.inl ⟨by rfl, ?_⟩) ?_ ?_
            rotate_left
            · intro w'
              go_simp
              with_reducible rfl
            rotate_left
            · (simp only [Act.put, List.setIfInBounds_toArray, List.set_cons_zero, List.set_cons_succ, i64_w, i32_w]; rfl)
            refine pure_ (i := 9) (N := some 101) (v := ?_) (a' := ?_) #[true, true, true, true, true, true, false, true, true, true, false, false, false, false, false, false, false, false, false, false, false, false, false] rfl rfl (by kernel_rfl) (fun _ _ _ h => h) (Or.inl ⟨by rfl, ?_⟩) ?_ ?_
            rotate_left
            · intro w'
              go_simp
              with_reducible rfl
            rotate_left
            · (simp only [Act.put, List.setIfInBounds_toArray, List.set_cons_zero, List.set_cons_succ, i64_w, i32_w]; rfl)
            refine take_ (i := 10) (N := some 102) (v := ?_) (a' := ?_) #[true, true, true, true, true, true, false, true, true, true, true, false, false, false, false, false, false, false, false, false, false, false, false] rfl rfl (by kernel_rfl) (fun _ _ _ h => h) (Or.inl ⟨by rfl, ?_⟩) hHeld ?_ ?_
            rotate_left
            · rintro w' ⟨s0, s1, s2, s3, s4, s5, s6, s7⟩
              go_simp
              with_reducible rfl
            rotate_left
            · (simp only [Act.put, List.setIfInBounds_toArray, List.set_cons_zero, List.set_cons_succ, i64_w, i32_w]; rfl)
            refine pure_ (i := 11) (N := some 103) (v := ?_) (a' := ?_) #[true, true, true, true, true, true, false, true, true, true, true, true, false, false, false, false, false, false, false, false, false, false, false] rfl rfl (by kernel_rfl) (fun _ _ _ h => h) (Or.inl ⟨by rfl, ?_⟩) ?_ ?_
            rotate_left
            · intro w'
              go_simp
              with_reducible rfl
            rotate_left
            · (simp only [Act.put, List.setIfInBounds_toArray, List.set_cons_zero, List.set_cons_succ, i64_w, i32_w]; rfl)
            refine pure_ (i := 12) (N := some 104) (v := ?_) (a' := ?_) #[true, true, true, true, true, true, false, true, true, true, true, true, true, false, false, false, false, false, false, false, false, false, false] rfl rfl (by kernel_rfl) (fun _ _ _ h => h) (Or.inl ⟨by rfl, ?_⟩) ?_ ?_
            rotate_left
            · intro w'
              go_simp
              with_reducible rfl
            rotate_left
            · (simp only [Act.put, List.setIfInBounds_toArray, List.set_cons_zero, List.set_cons_succ, i64_w, i32_w]; rfl)
            refine pure_ (i := 13) (N := some 105) (v := ?_) (a' := ?_) #[true, true, true, true, true, true, false, true, true, true, true, true, true, true, false, false, false, false, false, false, false, false, false] rfl rfl (by kernel_rfl) (fun _ _ _ h => h) (Or.inl ⟨by rfl, ?_⟩) ?_ ?_
            rotate_left
            · intro w'
              go_simp
              with_reducible rfl
            rotate_left
            · (simp only [Act.put, List.setIfInBounds_toArray, List.set_cons_zero, List.set_cons_succ, i64_w, i32_w]; rfl)
            refine pure_ (i := 14) (N := some 106) (v := ?_) (a' := ?_) #[true, true, true, true, true, true, false, true, true, true, true, true, true, true, true, false, false, false, false, false, false, false, false] rfl rfl (by kernel_rfl) (fun _ _ _ h => h) (Or.inl ⟨by rfl, ?_⟩) ?_ ?_
            rotate_left
            · intro w'
              go_simp
              with_reducible rfl
            rotate_left
            · (simp only [Act.put, List.setIfInBounds_toArray, List.set_cons_zero, List.set_cons_succ, i64_w, i32_w]; rfl)
            refine pure_ (i := 15) (N := some 107) (v := ?_) (a' := ?_) #[true, true, true, true, true, true, false, true, true, true, true, true, true, true, true, true, false, false, false, false, false, false, false] rfl rfl (by kernel_rfl) (fun _ _ _ h => h) (Or.inl ⟨by rfl, ?_⟩) ?_ ?_
            rotate_left
            · intro w'
              go_simp
              with_reducible rfl
            rotate_left
            · (simp only [Act.put, List.setIfInBounds_toArray, List.set_cons_zero, List.set_cons_succ, i64_w, i32_w]; rfl)
            refine two_ (i := 6) (j := 20) (Ni := some 98) (Nj := some 15) #[true, true, true, true, true, true, true, true, true, true, true, true, true, true, true, true, false, false, false, false, false, false, false] #[true, true, true, true, true, true, false, true, true, true, true, true, true, true, true, true, false, false, false, false, true, false, false] rfl rfl rfl rfl (by kernel_rfl) (by decide) (by decide) (fun K hK => ?_) (fun K hK => ?_)
            · refine goes_ Tryd.func10 (by kernel_rfl) rfl #[.int .u16 tk] (by rfl) rfl rfl (by (try simp only [List.map_toArray, List.map_cons, List.map_nil]); first | done | rfl) ?_
              refine (weight_ tk HTK.out.1 HTK.out.2 _ SB.out.t).mono ?_
              rintro e wq ⟨rfl, hB⟩
              refine ⟨_, rfl, ?_⟩
              replace SB := Aside0.mk (SB.out.step hB)
              clear hB
              refine hK.out _ _ ⟨SB.out.x.c0, SB.out.x.c1, SB.out.x.c2, SB.out.x.c3, SB.out.x.c4, SB.out.x.c5, SB.out.x.c6, SB.out.y⟩ (fun hHeld => ?_)
              clear hK K
              refine norm_ (a' := ?_) ?_ ?_
              rotate_left
              · (show Act.put _ (some 98) _ = _; (simp only [Act.put, List.setIfInBounds_toArray, List.set_cons_zero, List.set_cons_succ, i64_w, i32_w]; rfl))
              refine two_ (i := 16) (j := 20) (Ni := some 108) (Nj := some 15) #[true, true, true, true, true, true, true, true, true, true, true, true, true, true, true, true, true, false, false, false, false, false, false] #[true, true, true, true, true, true, true, true, true, true, true, true, true, true, true, true, false, false, false, false, true, false, false] rfl rfl rfl rfl (by kernel_rfl) (by decide) (by decide) (fun K hK => ?_) (fun K hK => ?_)
              · refine goes_ Tryd.func11 (by kernel_rfl) rfl #[.agg #[.int .i64 rt, .slice A nn c, .int .i64 cur, .int .u64 v, .int .u64 mnn, .int .i64 load, .slice B mm d], .int .i64 (k : Int), .int .i64 (wOf tk), .int .i64 ((wrap64 (wrap64 tk * 37)).tmod b1)] (by rfl) rfl rfl (by (try simp only [List.map_toArray, List.map_cons, List.map_nil]); first | done | rfl) ?_
                refine (HEN.out _ _ SB.out.q SB.out.t).mono ?_
                rintro e wq ⟨u, rfl, hp⟩
                obtain ⟨A7, c7, B7, d7, rfl, hq7, hB⟩ := hp.out
                refine ⟨_, rfl, ?_⟩
                have HQ7 := Aside0.mk hq7
                replace SB := Aside0.mk (SB.out.step hB)
                clear hp hq7
                clear hB
                refine hK.out _ _ ⟨SB.out.x.c0, SB.out.x.c1, SB.out.x.c2, SB.out.x.c3, SB.out.x.c4, SB.out.x.c5, SB.out.x.c6, SB.out.y⟩ (fun hHeld => ?_)
                clear hK K
                refine norm_ (a' := ?_) ?_ ?_
                rotate_left
                · (show Act.put _ (some 108) _ = _; (simp only [Act.put, List.setIfInBounds_toArray, List.set_cons_zero, List.set_cons_succ, i64_w, i32_w]; rfl))
                refine pure_ (i := 17) (N := some 91) (v := ?_) (a' := ?_) #[true, true, true, true, true, true, true, true, true, true, true, true, true, true, true, true, true, true, false, false, false, false, false] rfl rfl (by kernel_rfl) (fun _ _ _ h => h) (Or.inl ⟨by rfl, ?_⟩) ?_ ?_
                rotate_left
                · intro w'
                  go_simp
                  with_reducible rfl
                rotate_left
                · (simp only [Act.put, List.setIfInBounds_toArray, List.set_cons_zero, List.set_cons_succ, i64_w, i32_w]; rfl)
                refine pure_ (i := 18) (N := some 109) (v := ?_) (a' := ?_) #[true, true, true, true, true, true, true, true, true, true, true, true, true, true, true, true, true, true, true, false, false, false, false] rfl rfl (by kernel_rfl) (fun _ _ _ h => h) (Or.inl ⟨by rfl, ?_⟩) ?_ ?_
                rotate_left
                · intro w'
                  go_simp
                  with_reducible rfl
                rotate_left
                · (simp only [Act.put, List.setIfInBounds_toArray, List.set_cons_zero, List.set_cons_succ, i64_w, i32_w]; rfl)
                refine pure_ (i := 19) (N := some 110) (v := ?_) (a' := ?_) #[true, true, true, true, true, true, true, true, true, true, true, true, true, true, true, true, true, true, true, true, false, false, false] rfl rfl (by kernel_rfl) (fun _ _ _ h => h) (Or.inl ⟨by rfl, ?_⟩) ?_ ?_
                rotate_left
                · intro w'
                  go_simp
                  with_reducible rfl
                rotate_left
                · (simp only [Act.put, List.setIfInBounds_toArray, List.set_cons_zero, List.set_cons_succ, i64_w, i32_w]; rfl)
                refine one_ (i := 20) (N := some 15) #[true, true, true, true, true, true, true, true, true, true, true, true, true, true, true, true, true, true, true, true, true, false, false] rfl rfl (by kernel_rfl) (by decide) (fun K hK => ?_)
                refine box_step ?hg (N := 15) ?hd (cs := #[.int .i64 0, .slice none 0 0, .int .i64 0, .int .u64 0, .int .u64 0, .int .i64 0, .slice none 0 0]) (t := 28) ?hr ?_
                case hd => rfl
                case hg => rfl
                case hr => first | (go_simp; done) | (go_simp; rfl)
                intro gx hgx wx hbox hbx
                have HGX := Aside0.mk (show g < gx by rw [hgx]; exact SB.out.x.lt)
                have HYX := Aside0.mk (show (ad1.add k).block < gx by rw [hgx]; exact World.block_lt_of_cell? _ _ SB.out.y)
                have HZX := Aside0.mk (show QB 0 none 0 0 0 0 0 0 none 0 0 wx gx from ⟨hbox⟩)
                have HGW := Aside0.mk (show w.heap.size ≤ gx by rw [hgx]; exact SB.out.b.size)
                replace SB := Aside0.mk (SB.out.box hbx hgx HZX.out.lt)
                replace HQ7 := Aside0.mk (HQ7.out.two hbx hgx HZX.out.lt)
                clear hgx hbox hbx
                refine hK.out _ _ ⟨SB.out.x.c0, SB.out.x.c1, SB.out.x.c2, SB.out.x.c3, SB.out.x.c4, SB.out.x.c5, SB.out.x.c6, SB.out.y⟩ (fun hHeld => ?_)
                clear hK K
                refine norm_ (a' := ?_) ?_ ?_
                rotate_left
                · (show Act.put _ (some 15) _ = _; (simp only [Act.put, List.setIfInBounds_toArray, List.set_cons_zero, List.set_cons_succ, i64_w, i32_w]; rfl))
                have z0 := HZX.out.c0
                have f0 := HZX.out.frozen 0
                have z1 := HZX.out.c1
                have f1 := HZX.out.frozen 1
                have z2 := HZX.out.c2
                have f2 := HZX.out.frozen 2
                have z3 := HZX.out.c3
                have f3 := HZX.out.frozen 3
                have z4 := HZX.out.c4
                have f4 := HZX.out.frozen 4
                have z5 := HZX.out.c5
                have f5 := HZX.out.frozen 5
                have z6 := HZX.out.c6
                have f6 := HZX.out.frozen 6
                refine one_ (i := 21) (N := none) #[true, true, true, true, true, true, true, true, true, true, true, true, true, true, true, true, true, true, true, true, true, true, false] rfl rfl (by kernel_rfl) (by decide) (fun K hK => ?_)
                refine skip_ (w1 := ?_) (by rfl) rfl ?_ ?_
                rotate_left
                · go_simp
                  rfl
                refine hK.out _ _ ⟨(SB.out.x.far7 (k := gx) (by have := HGX.out; omega) _ _ _ _ _ _ _).c0, (SB.out.x.far7 (k := gx) (by have := HGX.out; omega) _ _ _ _ _ _ _).c1, (SB.out.x.far7 (k := gx) (by have := HGX.out; omega) _ _ _ _ _ _ _).c2, (SB.out.x.far7 (k := gx) (by have := HGX.out; omega) _ _ _ _ _ _ _).c3, (SB.out.x.far7 (k := gx) (by have := HGX.out; omega) _ _ _ _ _ _ _).c4, (SB.out.x.far7 (k := gx) (by have := HGX.out; omega) _ _ _ _ _ _ _).c5, (SB.out.x.far7 (k := gx) (by have := HGX.out; omega) _ _ _ _ _ _ _).c6, cell_set7 SB.out.y (k := gx) (by have := HYX.out; omega) _ _ _ _ _ _ _⟩ (fun hHeld => ?_)
                clear hK K
                refine pure_ (i := 22) (N := some 16) (v := ?_) (a' := ?_) #[true, true, true, true, true, true, true, true, true, true, true, true, true, true, true, true, true, true, true, true, true, true, true] rfl rfl (by kernel_rfl) (fun _ _ _ h => h) (Or.inl ⟨by rfl, ?_⟩) ?_ ?_
                rotate_left
                · intro w'
                  go_simp
                  with_reducible rfl
                rotate_left
                · (simp only [Act.put, List.setIfInBounds_toArray, List.set_cons_zero, List.set_cons_succ, i64_w, i32_w]; rfl)
                refine done_ (by kernel_rfl) ?_
                go_wp2_with fail
                go_meet
                exact ⟨rfl, gx, A7, c7, B7, d7, rfl, ⟨XB.mk' HT.out SB.out HZX.out HQ7.out HGX.out HGW.out⟩⟩
              · refine box_step ?hg (N := 15) ?hd (cs := #[.int .i64 0, .slice none 0 0, .int .i64 0, .int .u64 0, .int .u64 0, .int .i64 0, .slice none 0 0]) (t := 28) ?hr ?_
                case hd => rfl
                case hg => rfl
                case hr => first | (go_simp; done) | (go_simp; rfl)
                intro gx hgx wx hbox hbx
                have HGX := Aside0.mk (show g < gx by rw [hgx]; exact SB.out.x.lt)
                have HYX := Aside0.mk (show (ad1.add k).block < gx by rw [hgx]; exact World.block_lt_of_cell? _ _ SB.out.y)
                have HZX := Aside0.mk (show QB 0 none 0 0 0 0 0 0 none 0 0 wx gx from ⟨hbox⟩)
                have HGW := Aside0.mk (show w.heap.size ≤ gx by rw [hgx]; exact SB.out.b.size)
                replace SB := Aside0.mk (SB.out.box hbx hgx HZX.out.lt)
                clear hgx hbox hbx
                refine hK.out _ _ ⟨SB.out.x.c0, SB.out.x.c1, SB.out.x.c2, SB.out.x.c3, SB.out.x.c4, SB.out.x.c5, SB.out.x.c6, SB.out.y⟩ (fun hHeld => ?_)
                clear hK K
                refine norm_ (a' := ?_) ?_ ?_
                rotate_left
                · (show Act.put _ (some 15) _ = _; (simp only [Act.put, List.setIfInBounds_toArray, List.set_cons_zero, List.set_cons_succ, i64_w, i32_w]; rfl))
                refine one_ (i := 16) (N := some 108) #[true, true, true, true, true, true, true, true, true, true, true, true, true, true, true, true, true, false, false, false, true, false, false] rfl rfl (by kernel_rfl) (by decide) (fun K hK => ?_)
                refine goes_ Tryd.func11 (by kernel_rfl) rfl #[.agg #[.int .i64 rt, .slice A nn c, .int .i64 cur, .int .u64 v, .int .u64 mnn, .int .i64 load, .slice B mm d], .int .i64 (k : Int), .int .i64 (wOf tk), .int .i64 ((wrap64 (wrap64 tk * 37)).tmod b1)] (by rfl) rfl rfl (by (try simp only [List.map_toArray, List.map_cons, List.map_nil]); first | done | rfl) ?_
                refine (HEN.out _ _ SB.out.q SB.out.t).mono ?_
                rintro e wq ⟨u, rfl, hp⟩
                obtain ⟨A7, c7, B7, d7, rfl, hq7, hB⟩ := hp.out
                refine ⟨_, rfl, ?_⟩
                have HQ7 := Aside0.mk hq7
                replace SB := Aside0.mk (SB.out.step hB)
                clear hp hq7
                replace HZX := Aside0.mk (HZX.out.below hB)
                clear hB
                refine hK.out _ _ ⟨SB.out.x.c0, SB.out.x.c1, SB.out.x.c2, SB.out.x.c3, SB.out.x.c4, SB.out.x.c5, SB.out.x.c6, SB.out.y⟩ (fun hHeld => ?_)
                clear hK K
                refine norm_ (a' := ?_) ?_ ?_
                rotate_left
                · (show Act.put _ (some 108) _ = _; (simp only [Act.put, List.setIfInBounds_toArray, List.set_cons_zero, List.set_cons_succ, i64_w, i32_w]; rfl))
                refine pure_ (i := 17) (N := some 91) (v := ?_) (a' := ?_) #[true, true, true, true, true, true, true, true, true, true, true, true, true, true, true, true, true, true, false, false, true, false, false] rfl rfl (by kernel_rfl) (fun _ _ _ h => h) (Or.inl ⟨by rfl, ?_⟩) ?_ ?_
                rotate_left
                · intro w'
                  go_simp
                  with_reducible rfl
                rotate_left
                · (simp only [Act.put, List.setIfInBounds_toArray, List.set_cons_zero, List.set_cons_succ, i64_w, i32_w]; rfl)
                refine pure_ (i := 18) (N := some 109) (v := ?_) (a' := ?_) #[true, true, true, true, true, true, true, true, true, true, true, true, true, true, true, true, true, true, true, false, true, false, false] rfl rfl (by kernel_rfl) (fun _ _ _ h => h) (Or.inl ⟨by rfl, ?_⟩) ?_ ?_
                rotate_left
                · intro w'
                  go_simp
                  with_reducible rfl
                rotate_left
                · (simp only [Act.put, List.setIfInBounds_toArray, List.set_cons_zero, List.set_cons_succ, i64_w, i32_w]; rfl)
                refine pure_ (i := 19) (N := some 110) (v := ?_) (a' := ?_) #[true, true, true, true, true, true, true, true, true, true, true, true, true, true, true, true, true, true, true, true, true, false, false] rfl rfl (by kernel_rfl) (fun _ _ _ h => h) (Or.inl ⟨by rfl, ?_⟩) ?_ ?_
                rotate_left
                · intro w'
                  go_simp
                  with_reducible rfl
                rotate_left
                · (simp only [Act.put, List.setIfInBounds_toArray, List.set_cons_zero, List.set_cons_succ, i64_w, i32_w]; rfl)
                have z0 := HZX.out.c0
                have f0 := HZX.out.frozen 0
                have z1 := HZX.out.c1
                have f1 := HZX.out.frozen 1
                have z2 := HZX.out.c2
                have f2 := HZX.out.frozen 2
                have z3 := HZX.out.c3
                have f3 := HZX.out.frozen 3
                have z4 := HZX.out.c4
                have f4 := HZX.out.frozen 4
                have z5 := HZX.out.c5
                have f5 := HZX.out.frozen 5
                have z6 := HZX.out.c6
                have f6 := HZX.out.frozen 6
                refine one_ (i := 21) (N := none) #[true, true, true, true, true, true, true, true, true, true, true, true, true, true, true, true, true, true, true, true, true, true, false] rfl rfl (by kernel_rfl) (by decide) (fun K hK => ?_)
                refine skip_ (w1 := ?_) (by rfl) rfl ?_ ?_
                rotate_left
                · go_simp
                  rfl
                refine hK.out _ _ ⟨(SB.out.x.far7 (k := gx) (by have := HGX.out; omega) _ _ _ _ _ _ _).c0, (SB.out.x.far7 (k := gx) (by have := HGX.out; omega) _ _ _ _ _ _ _).c1, (SB.out.x.far7 (k := gx) (by have := HGX.out; omega) _ _ _ _ _ _ _).c2, (SB.out.x.far7 (k := gx) (by have := HGX.out; omega) _ _ _ _ _ _ _).c3, (SB.out.x.far7 (k := gx) (by have := HGX.out; omega) _ _ _ _ _ _ _).c4, (SB.out.x.far7 (k := gx) (by have := HGX.out; omega) _ _ _ _ _ _ _).c5, (SB.out.x.far7 (k := gx) (by have := HGX.out; omega) _ _ _ _ _ _ _).c6, cell_set7 SB.out.y (k := gx) (by have := HYX.out; omega) _ _ _ _ _ _ _⟩ (fun hHeld => ?_)
                clear hK K
                refine pure_ (i := 22) (N := some 16) (v := ?_) (a' := ?_) #[true, true, true, true, true, true, true, true, true, true, true, true, true, true, true, true, true, true, true, true, true, true, true] rfl rfl (by kernel_rfl) (fun _ _ _ h => h) (Or.inl ⟨by rfl, ?_⟩) ?_ ?_
                rotate_left
                · intro w'
                  go_simp
                  with_reducible rfl
                rotate_left
                · (simp only [Act.put, List.setIfInBounds_toArray, List.set_cons_zero, List.set_cons_succ, i64_w, i32_w]; rfl)
                refine done_ (by kernel_rfl) ?_
                go_wp2_with fail
                go_meet
                exact ⟨rfl, gx, A7, c7, B7, d7, rfl, ⟨XB.mk' HT.out SB.out HZX.out HQ7.out HGX.out HGW.out⟩⟩
            · refine box_step ?hg (N := 15) ?hd (cs := #[.int .i64 0, .slice none 0 0, .int .i64 0, .int .u64 0, .int .u64 0, .int .i64 0, .slice none 0 0]) (t := 28) ?hr ?_
              case hd => rfl
              case hg => rfl
              case hr => first | (go_simp; done) | (go_simp; rfl)
              intro gx hgx wx hbox hbx
              have HGX := Aside0.mk (show g < gx by rw [hgx]; exact SB.out.x.lt)
              have HYX := Aside0.mk (show (ad1.add k).block < gx by rw [hgx]; exact World.block_lt_of_cell? _ _ SB.out.y)
              have HZX := Aside0.mk (show QB 0 none 0 0 0 0 0 0 none 0 0 wx gx from ⟨hbox⟩)
              have HGW := Aside0.mk (show w.heap.size ≤ gx by rw [hgx]; exact SB.out.b.size)
              replace SB := Aside0.mk (SB.out.box hbx hgx HZX.out.lt)
              clear hgx hbox hbx
              refine hK.out _ _ ⟨SB.out.x.c0, SB.out.x.c1, SB.out.x.c2, SB.out.x.c3, SB.out.x.c4, SB.out.x.c5, SB.out.x.c6, SB.out.y⟩ (fun hHeld => ?_)
              clear hK K
              refine norm_ (a' := ?_) ?_ ?_
              rotate_left
              · (show Act.put _ (some 15) _ = _; (simp only [Act.put, List.setIfInBounds_toArray, List.set_cons_zero, List.set_cons_succ, i64_w, i32_w]; rfl))
              refine one_ (i := 6) (N := some 98) #[true, true, true, true, true, true, true, true, true, true, true, true, true, true, true, true, false, false, false, false, true, false, false] rfl rfl (by kernel_rfl) (by decide) (fun K hK => ?_)
              refine goes_ Tryd.func10 (by kernel_rfl) rfl #[.int .u16 tk] (by rfl) rfl rfl (by (try simp only [List.map_toArray, List.map_cons, List.map_nil]); first | done | rfl) ?_
              refine (weight_ tk HTK.out.1 HTK.out.2 _ SB.out.t).mono ?_
              rintro e wq ⟨rfl, hB⟩
              refine ⟨_, rfl, ?_⟩
              replace SB := Aside0.mk (SB.out.step hB)
              replace HZX := Aside0.mk (HZX.out.below hB)
              clear hB
              refine hK.out _ _ ⟨SB.out.x.c0, SB.out.x.c1, SB.out.x.c2, SB.out.x.c3, SB.out.x.c4, SB.out.x.c5, SB.out.x.c6, SB.out.y⟩ (fun hHeld => ?_)
              clear hK K
              refine norm_ (a' := ?_) ?_ ?_
              rotate_left
              · (show Act.put _ (some 98) _ = _; (simp only [Act.put, List.setIfInBounds_toArray, List.set_cons_zero, List.set_cons_succ, i64_w, i32_w]; rfl))
              refine one_ (i := 16) (N := some 108) #[true, true, true, true, true, true, true, true, true, true, true, true, true, true, true, true, true, false, false, false, true, false, false] rfl rfl (by kernel_rfl) (by decide) (fun K hK => ?_)
              refine goes_ Tryd.func11 (by kernel_rfl) rfl #[.agg #[.int .i64 rt, .slice A nn c, .int .i64 cur, .int .u64 v, .int .u64 mnn, .int .i64 load, .slice B mm d], .int .i64 (k : Int), .int .i64 (wOf tk), .int .i64 ((wrap64 (wrap64 tk * 37)).tmod b1)] (by rfl) rfl rfl (by (try simp only [List.map_toArray, List.map_cons, List.map_nil]); first | done | rfl) ?_
              refine (HEN.out _ _ SB.out.q SB.out.t).mono ?_
              rintro e wq ⟨u, rfl, hp⟩
              obtain ⟨A7, c7, B7, d7, rfl, hq7, hB⟩ := hp.out
              refine ⟨_, rfl, ?_⟩
              have HQ7 := Aside0.mk hq7
              replace SB := Aside0.mk (SB.out.step hB)
              clear hp hq7
              replace HZX := Aside0.mk (HZX.out.below hB)
              clear hB
              refine hK.out _ _ ⟨SB.out.x.c0, SB.out.x.c1, SB.out.x.c2, SB.out.x.c3, SB.out.x.c4, SB.out.x.c5, SB.out.x.c6, SB.out.y⟩ (fun hHeld => ?_)
              clear hK K
              refine norm_ (a' := ?_) ?_ ?_
              rotate_left
              · (show Act.put _ (some 108) _ = _; (simp only [Act.put, List.setIfInBounds_toArray, List.set_cons_zero, List.set_cons_succ, i64_w, i32_w]; rfl))
              refine pure_ (i := 17) (N := some 91) (v := ?_) (a' := ?_) #[true, true, true, true, true, true, true, true, true, true, true, true, true, true, true, true, true, true, false, false, true, false, false] rfl rfl (by kernel_rfl) (fun _ _ _ h => h) (Or.inl ⟨by rfl, ?_⟩) ?_ ?_
              rotate_left
              · intro w'
                go_simp
                with_reducible rfl
              rotate_left
              · (simp only [Act.put, List.setIfInBounds_toArray, List.set_cons_zero, List.set_cons_succ, i64_w, i32_w]; rfl)
              refine pure_ (i := 18) (N := some 109) (v := ?_) (a' := ?_) #[true, true, true, true, true, true, true, true, true, true, true, true, true, true, true, true, true, true, true, false, true, false, false] rfl rfl (by kernel_rfl) (fun _ _ _ h => h) (Or.inl ⟨by rfl, ?_⟩) ?_ ?_
              rotate_left
              · intro w'
                go_simp
                with_reducible rfl
              rotate_left
              · (simp only [Act.put, List.setIfInBounds_toArray, List.set_cons_zero, List.set_cons_succ, i64_w, i32_w]; rfl)
              refine pure_ (i := 19) (N := some 110) (v := ?_) (a' := ?_) #[true, true, true, true, true, true, true, true, true, true, true, true, true, true, true, true, true, true, true, true, true, false, false] rfl rfl (by kernel_rfl) (fun _ _ _ h => h) (Or.inl ⟨by rfl, ?_⟩) ?_ ?_
              rotate_left
              · intro w'
                go_simp
                with_reducible rfl
              rotate_left
              · (simp only [Act.put, List.setIfInBounds_toArray, List.set_cons_zero, List.set_cons_succ, i64_w, i32_w]; rfl)
              have z0 := HZX.out.c0
              have f0 := HZX.out.frozen 0
              have z1 := HZX.out.c1
              have f1 := HZX.out.frozen 1
              have z2 := HZX.out.c2
              have f2 := HZX.out.frozen 2
              have z3 := HZX.out.c3
              have f3 := HZX.out.frozen 3
              have z4 := HZX.out.c4
              have f4 := HZX.out.frozen 4
              have z5 := HZX.out.c5
              have f5 := HZX.out.frozen 5
              have z6 := HZX.out.c6
              have f6 := HZX.out.frozen 6
              refine one_ (i := 21) (N := none) #[true, true, true, true, true, true, true, true, true, true, true, true, true, true, true, true, true, true, true, true, true, true, false] rfl rfl (by kernel_rfl) (by decide) (fun K hK => ?_)
              refine skip_ (w1 := ?_) (by rfl) rfl ?_ ?_
              rotate_left
              · go_simp
                rfl
              refine hK.out _ _ ⟨(SB.out.x.far7 (k := gx) (by have := HGX.out; omega) _ _ _ _ _ _ _).c0, (SB.out.x.far7 (k := gx) (by have := HGX.out; omega) _ _ _ _ _ _ _).c1, (SB.out.x.far7 (k := gx) (by have := HGX.out; omega) _ _ _ _ _ _ _).c2, (SB.out.x.far7 (k := gx) (by have := HGX.out; omega) _ _ _ _ _ _ _).c3, (SB.out.x.far7 (k := gx) (by have := HGX.out; omega) _ _ _ _ _ _ _).c4, (SB.out.x.far7 (k := gx) (by have := HGX.out; omega) _ _ _ _ _ _ _).c5, (SB.out.x.far7 (k := gx) (by have := HGX.out; omega) _ _ _ _ _ _ _).c6, cell_set7 SB.out.y (k := gx) (by have := HYX.out; omega) _ _ _ _ _ _ _⟩ (fun hHeld => ?_)
              clear hK K
              refine pure_ (i := 22) (N := some 16) (v := ?_) (a' := ?_) #[true, true, true, true, true, true, true, true, true, true, true, true, true, true, true, true, true, true, true, true, true, true, true] rfl rfl (by kernel_rfl) (fun _ _ _ h => h) (Or.inl ⟨by rfl, ?_⟩) ?_ ?_
              rotate_left
              · intro w'
                go_simp
                with_reducible rfl
              rotate_left
              · (simp only [Act.put, List.setIfInBounds_toArray, List.set_cons_zero, List.set_cons_succ, i64_w, i32_w]; rfl)
              refine done_ (by kernel_rfl) ?_
              go_wp2_with fail
              go_meet
              exact ⟨rfl, gx, A7, c7, B7, d7, rfl, ⟨XB.mk' HT.out SB.out HZX.out HQ7.out HGX.out HGW.out⟩⟩
          obtain ⟨rfl, gx, A7, c7, B7, d7, rfl, XS⟩ := hcut
          clear SB a0 a1 a2 a3 a4 a5 a6 y0 hr0 hr1 hr2
          generalize wc = W7 at XS ⊢
          have a0 := XS.out.x.c0
          have f0 := XS.out.x.frozen 0
          have b0 := XS.out.n.c0
          have a1 := XS.out.x.c1
          have f1 := XS.out.x.frozen 1
          have b1 := XS.out.n.c1
          have a2 := XS.out.x.c2
          have f2 := XS.out.x.frozen 2
          have b2 := XS.out.n.c2
          have a3 := XS.out.x.c3
          have f3 := XS.out.x.frozen 3
          have b3 := XS.out.n.c3
          have a4 := XS.out.x.c4
          have f4 := XS.out.x.frozen 4
          have b4 := XS.out.n.c4
          have a5 := XS.out.x.c5
          have f5 := XS.out.x.frozen 5
          have b5 := XS.out.n.c5
          have a6 := XS.out.x.c6
          have f6 := XS.out.x.frozen 6
          have b6 := XS.out.n.c6
          go_wp2
          refine ⟨⟨k + 1, ⟨by have := HK.out; omega, by have := HK.out; omega⟩, by simp, ⟨⟨rt', A7, nn', c7, cur', v', mn', load', B7, mm', d7, q', ⟨set7_out XS.out.x.out rfl _ _ _ _ _ _ _⟩, HF2.out, XS.out.q.put7g _ _ _ _ _ _ _, HFE.out⟩, set7_below XS.out.b HGB.out _ _ _ _ _ _ _, HT.out.below (set7_below XS.out.b HGB.out _ _ _ _ _ _ _)⟩⟩, ?_⟩
          show 12 - ((k : Int) + 1).toNat < 12 - (k : Int).toNat
          have := HK.out
          omega
        · have HK0 := Aside0.mk (show 0 < k by have := T0.out; omega)
          go_upto_region 15 with (fail)
          go_cut [88] (fun s88 wx => s88 = .bool false ∧ wx = wr)
          case first =>
            by_cases d1x : k < T.length
            · have d1i : (k : Int) < (T.length : Int) := by omega
              have d2i : ¬ (k : Int) < 12 := by omega
              go_wp2_with fail
              go_meet
              exact ⟨by simp [d2i], rfl⟩
            · have d1i : ¬ (k : Int) < (T.length : Int) := by omega
              go_wp2_with fail
              go_meet
              exact ⟨rfl, rfl⟩
          obtain ⟨rfl, hwc⟩ := hcut
          rw [← hwc] at QI
          clear hwc dx
          obtain ⟨⟨rt, A, nn, c, cur, v, mnn, load, B, mm, d, q, hx, hf, hq, hp⟩, hb, ht⟩ := QI.out
          obtain ⟨q', id, hpk, hft⟩ := fe_pick hp HK0.out
          have HFT := Aside0.mk hft
          obtain ⟨rt', nn', cur', v', mn', load', mm', hf'⟩ : ∃ rt' nn' cur' v' mn' load' mm', FQ q' rt' nn' cur' v' mn' load' mm' := ⟨_, _, _, _, _, _, _, ⟨rfl, rfl, rfl, rfl, rfl, rfl, rfl⟩⟩
          have HF2 := Aside0.mk hf'
          have HPK := Aside0.mk (fun (S : Nat → Prop) (W : World) (h : QIn S A c B d W q) (hT : Emp W) => pickS hpk hf hf' h hT)
          have HX := Aside0.mk hx
          have HQ := Aside0.mk hq
          have HBB := Aside0.mk hb
          have HTT := Aside0.mk ht
          clear QI hx hf hq hp hb ht hpk hft hf' HK0
          have a0 := HX.out.c0
          have a1 := HX.out.c1
          have a2 := HX.out.c2
          have a3 := HX.out.c3
          have a4 := HX.out.c4
          have a5 := HX.out.c5
          have a6 := HX.out.c6
          go_upto_region 22 with (go_at_call 12; refine (HPK.out _ _ HQ.out HTT.out).mono ?_; rintro e w5 ⟨u, rfl, hp⟩; obtain ⟨A7, c7, B7, d7, rfl, hq7, hB⟩ := hp.out; have HQ7 := Aside0.mk hq7; replace HX := Aside0.mk (HX.out.below hB); replace HBB := Aside0.mk (below_step HBB.out hB); replace HTT := Aside0.mk (HTT.out.below hB); clear hp hq7 hB a0 a1 a2 a3 a4 a5 a6)
          have HNX := QB.new w5 rt' A7 nn' c7 cur' v' mn' load' B7 mm' d7
          have hb := below_alloc (Below.refl w5.heap.size w5) (.cells #[.int .i64 rt', .slice A7 nn' c7, .int .i64 cur', .int .u64 v', .int .u64 mn', .int .i64 load', .slice B7 mm' d7] 28)
          have XS := Aside0.mk (show XB rt A nn c cur v mnn load B mm d rt' A7 nn' c7 cur' v' mn' load' B7 mm' d7 q' g w5.heap.size w _ from ⟨HX.out.below hb, HNX, HX.out.lt, HQ7.out.below hb, below_step HBB.out hb, HTT.out.below hb⟩)
          clear HNX hb HX HQ7 HBB HTT HQ
          generalize w5.alloc (.cells #[.int .i64 rt', .slice A7 nn' c7, .int .i64 cur', .int .u64 v', .int .u64 mn', .int .i64 load', .slice B7 mm' d7] 28) = W7 at XS ⊢
          generalize w5.heap.size = gx at XS ⊢
          have a0 := XS.out.x.c0
          have f0 := XS.out.x.frozen 0
          have b0 := XS.out.n.c0
          have a1 := XS.out.x.c1
          have f1 := XS.out.x.frozen 1
          have b1 := XS.out.n.c1
          have a2 := XS.out.x.c2
          have f2 := XS.out.x.frozen 2
          have b2 := XS.out.n.c2
          have a3 := XS.out.x.c3
          have f3 := XS.out.x.frozen 3
          have b3 := XS.out.n.c3
          have a4 := XS.out.x.c4
          have f4 := XS.out.x.frozen 4
          have b4 := XS.out.n.c4
          have a5 := XS.out.x.c5
          have f5 := XS.out.x.frozen 5
          have b5 := XS.out.n.c5
          have a6 := XS.out.x.c6
          have f6 := XS.out.x.frozen 6
          have b6 := XS.out.n.c6
          go_upto_region 23 with (fail)
          have QI := Aside0.mk (show QIs (FT l bd) g w (((((((W7.setCell ⟨g, 0, none⟩ (.int .i64 rt')).setCell ⟨g, 1, none⟩ (.slice A7 nn' c7)).setCell ⟨g, 2, none⟩ (.int .i64 cur')).setCell ⟨g, 3, none⟩ (.int .u64 v')).setCell ⟨g, 4, none⟩ (.int .u64 mn')).setCell ⟨g, 5, none⟩ (.int .i64 load')).setCell ⟨g, 6, none⟩ (.slice B7 mm' d7)) from ⟨⟨rt', A7, nn', c7, cur', v', mn', load', B7, mm', d7, q', ⟨set7_out XS.out.x.out rfl _ _ _ _ _ _ _⟩, HF2.out, XS.out.q.put7g _ _ _ _ _ _ _, HFT.out⟩, set7_below XS.out.b HGB.out _ _ _ _ _ _ _, HT.out.below (set7_below XS.out.b HGB.out _ _ _ _ _ _ _)⟩)
          clear XS HF2 HFT HPK a0 f0 b0 a1 f1 b1 a2 f2 b2 a3 f3 b3 a4 f4 b4 a5 f5 b5 a6 f6 b6
          generalize ((((((W7.setCell ⟨g, 0, none⟩ (.int .i64 rt')).setCell ⟨g, 1, none⟩ (.slice A7 nn' c7)).setCell ⟨g, 2, none⟩ (.int .i64 cur')).setCell ⟨g, 3, none⟩ (.int .u64 v')).setCell ⟨g, 4, none⟩ (.int .u64 mn')).setCell ⟨g, 5, none⟩ (.int .i64 load')).setCell ⟨g, 6, none⟩ (.slice B7 mm' d7) = W8 at QI ⊢
          clear hkn
          go_wp2
          trace_state
          go_loopw [20] (fun i wr => L3Rl U l bd g w i wr) (fun i wr => 60 - (intOf i).toNat)
          case atStart => exact ⟨0, ⟨Nat.zero_le _, by omega⟩, rfl, QI.out⟩
          case round =>
            obtain ⟨k, ⟨hk1, hk2⟩, rfl, hq⟩ := hrel.out
            clear hrel QI
            have QI := Aside0.mk hq
            clear hq
            have hT3 : (U.length : Int) ≤ 140737488351232 := by have := L2.out; omega
            have hkn : k < 1000000 := by omega
            by_cases ex : k < U.length ∧ k < 60
            · obtain ⟨e1x, e2x⟩ := ex
              have e1i : (k : Int) < (U.length : Int) := by omega
              have e2i : (k : Int) < 60 := by omega
              have HK := Aside0.mk (And.intro e1x e2x)
              obtain ⟨ad1, e1, y0⟩ := u16_at (Kd.C_below R2.out QI.out.b) k e1x
              replace e1 : some ad2 = some ad1 := e1
              obtain rfl := Option.some.inj e1
              have HTK := Aside0.mk (G2.out (U.getD k 0) (by rw [List.getD_eq_getElem?_getD, List.getElem?_eq_getElem e1x]; exact List.getElem_mem e1x))
              generalize U.getD k 0 = tk at y0 HTK
              obtain ⟨⟨rt, A, nn, c, cur, v, mnn, load, B, mm, d, q, hx, hf, hq, hp⟩, hb, ht⟩ := QI.out
              have SB := Aside0.mk (show EB (one g) rt A nn c cur v mnn load B mm d q g w ad2 k tk wr from ⟨hx, hq, hb, ht, y0⟩)
              obtain ⟨b1, hb1⟩ : ∃ b1, b1 = m + 1 := ⟨_, rfl⟩
              have HLG := Aside0.mk (day_of HTK.out HM.out hb1)
              clear hb1
              obtain ⟨q', more, htk, z, id, hpk, hft⟩ := ft_tick hp HM.out HLI.out.1 HBD.out.1 HLG.out.1 HLG.out.2.1
              have HFT := Aside0.mk hft
              have HKS := Aside0.mk (ft_keys hft (by have := HBD.out; omega) (by have := HBD.out; omega))
              obtain ⟨rt', nn', cur', v', mn', load', mm', hf'⟩ : ∃ rt' nn' cur' v' mn' load' mm', FQ q' rt' nn' cur' v' mn' load' mm' := ⟨_, _, _, _, _, _, _, ⟨rfl, rfl, rfl, rfl, rfl, rfl, rfl⟩⟩
              obtain ⟨rt2, nn2, cur2, v2, mn2, load2, mm2, hf2⟩ : ∃ rt' nn' cur' v' mn' load' mm', FQ z rt' nn' cur' v' mn' load' mm' := ⟨_, _, _, _, _, _, _, ⟨rfl, rfl, rfl, rfl, rfl, rfl, rfl⟩⟩
              have HF3 := Aside0.mk hf2
              have HEN := Aside0.mk (fun (S : Nat → Prop) (W : World) (h : QIn S A c B d W q) (hT : Emp W) => tickS htk hf hf' h hT)
              have HPK := Aside0.mk (fun (S : Nat → Prop) (A : Option Addr) (c : Nat) (B : Option Addr) (d : Nat) (W : World) (h : QIn S A c B d W q') (hT : Emp W) => pickS hpk hf' hf2 h hT)
              have HKY := Aside0.mk (fun (S : Nat → Prop) (A : Option Addr) (c : Nat) (B : Option Addr) (d : Nat) (W : World) (h : QIn S A c B d W z) (hT : Emp W) => keysS (show keysF z = keysA z from if_pos HKS.out.1) hf2 h hT)
              have HKS2 := Aside0.mk (keys_len (right_cur HKS.out.1).1 (right_cur HKS.out.1).2)
              generalize keysA z = kl at HKS HKY HKS2
              have hr0 := HLG.out.2.2.1
              have hr1 := HLG.out.2.2.2.1
              have hr2 := HLG.out.2.2.2.2
              clear QI y0 hx hq hb ht hp htk hpk hft hf hf' hf2 e1x e2x
              have a0 := SB.out.x.c0
              have a1 := SB.out.x.c1
              have a2 := SB.out.x.c2
              have a3 := SB.out.x.c3
              have a4 := SB.out.x.c4
              have a5 := SB.out.x.c5
              have a6 := SB.out.x.c6
              have y0 := SB.out.y
              go_upto_region 26 with (fail)
              go_cut [21, 23] (fun s21 s23 wx => s23 = .int .i64 0 ∧ ∃ gx A7 c7 B7 d7, s21 = .pointer (some ⟨gx, 0, none⟩) ∧ Aside0 (XB rt A nn c cur v mnn load B mm d rt' A7 nn' c7 cur' v' mn' load' B7 mm' d7 q' g gx w wx))
              case first =>
                clear a0 a1 a2 a3 a4 a5 a6 y0
                replace SB := Aside0.mk SB.out.drew
                refine start_ (n := 18) (S := fun w' => w'.cell? ⟨g, 0, none⟩ = some (.int .i64 rt) ∧ w'.cell? ⟨g, 1, none⟩ = some (.slice A nn c) ∧ w'.cell? ⟨g, 2, none⟩ = some (.int .i64 cur) ∧ w'.cell? ⟨g, 3, none⟩ = some (.int .u64 v) ∧ w'.cell? ⟨g, 4, none⟩ = some (.int .u64 mnn) ∧ w'.cell? ⟨g, 5, none⟩ = some (.int .i64 load) ∧ w'.cell? ⟨g, 6, none⟩ = some (.slice B mm d) ∧ w'.cell? (ad2.add k) = some (.int .u16 tk)) (ds := []) #[false, false, false, false, false, false, false, false, false, false, false, false, false, false, false, false, false, false] (by kernel_rfl) rfl rfl ⟨SB.out.x.c0, SB.out.x.c1, SB.out.x.c2, SB.out.x.c3, SB.out.x.c4, SB.out.x.c5, SB.out.x.c6, SB.out.y⟩ (fun hHeld => ?_)
                generalize World.drew _ = W5 at SB hHeld ⊢
                refine take_ (i := 0) (N := some 136) (v := ?_) (a' := ?_) #[true, false, false, false, false, false, false, false, false, false, false, false, false, false, false, false, false, false] rfl rfl (by kernel_rfl) (fun _ _ _ h => h) (Or.inl ⟨by rfl, ?_⟩) hHeld ?_ ?_
                rotate_left
                · rintro w' ⟨s0, s1, s2, s3, s4, s5, s6, s7⟩
                  go_simp
                  with_reducible rfl
                rotate_left
                · (simp only [Act.put, List.setIfInBounds_toArray, List.set_cons_zero, List.set_cons_succ, i64_w, i32_w]; rfl)
                refine pure_ (i := 1) (N := some 137) (v := ?_) (a' := ?_) #[true, true, false, false, false, false, false, false, false, false, false, false, false, false, false, false, false, false] rfl rfl (by kernel_rfl) (fun _ _ _ h => h) (Or.inl ⟨by rfl, ?_⟩) ?_ ?_
                rotate_left
                · intro w'
                  go_simp
                  with_reducible rfl
                rotate_left
                · (simp only [Act.put, List.setIfInBounds_toArray, List.set_cons_zero, List.set_cons_succ, i64_w, i32_w]; rfl)
                refine pure_ (i := 2) (N := some 138) (v := ?_) (a' := ?_) #[true, true, true, false, false, false, false, false, false, false, false, false, false, false, false, false, false, false] rfl rfl (by kernel_rfl) (fun _ _ _ h => h) (Or.inl ⟨by rfl, ?_⟩) ?_ ?_
                rotate_left
                · intro w'
                  go_simp
                  with_reducible rfl
                rotate_left
                · (simp only [Act.put, List.setIfInBounds_toArray, List.set_cons_zero, List.set_cons_succ, i64_w, i32_w]; rfl)
                refine pure_ (i := 3) (N := some 139) (v := ?_) (a' := ?_) #[true, true, true, true, false, false, false, false, false, false, false, false, false, false, false, false, false, false] rfl rfl (by kernel_rfl) (fun _ _ _ h => h) (Or.inl ⟨by rfl, ?_⟩) ?_ ?_
                rotate_left
                · intro w'
                  go_simp
                  with_reducible rfl
                rotate_left
                · (simp only [Act.put, List.setIfInBounds_toArray, List.set_cons_zero, List.set_cons_succ, i64_w, i32_w]; rfl)
                refine take_ (i := 4) (N := some 140) (v := ?_) (a' := ?_) #[true, true, true, true, true, false, false, false, false, false, false, false, false, false, false, false, false, false] rfl rfl (by kernel_rfl) (fun _ _ _ h => h) (Or.inl ⟨by rfl, ?_⟩) hHeld ?_ ?_
                rotate_left
                · rintro w' ⟨s0, s1, s2, s3, s4, s5, s6, s7⟩
                  go_simp
                  with_reducible rfl
                rotate_left
                · (simp only [Act.put, List.setIfInBounds_toArray, List.set_cons_zero, List.set_cons_succ, i64_w, i32_w]; rfl)
                refine pure_ (i := 5) (N := some 141) (v := ?_) (a' := ?_) #[true, true, true, true, true, true, false, false, false, false, false, false, false, false, false, false, false, false] rfl rfl (by kernel_rfl) (fun _ _ _ h => h) (Or.inl ⟨by rfl, ?_⟩) ?_ ?_
                rotate_left
                · intro w'
                  go_simp
                  with_reducible rfl
                rotate_left
                · (simp only [Act.put, List.setIfInBounds_toArray, List.set_cons_zero, List.set_cons_succ, i64_w, i32_w]; rfl)
                refine pure_ (i := 6) (N := some 142) (v := ?_) (a' := ?_) #[true, true, true, true, true, true, true, false, false, false, false, false, false, false, false, false, false, false] rfl rfl (by kernel_rfl) (fun _ _ _ h => h) (Or.inl ⟨by rfl, ?_⟩) ?_ ?_
                rotate_left
                · intro w'
                  go_simp
                  with_reducible rfl
                rotate_left
                · (simp only [Act.put, List.setIfInBounds_toArray, List.set_cons_zero, List.set_cons_succ, i64_w, i32_w]; rfl)
                refine pure_ (i := 7) (N := some 143) (v := ?_) (a' := ?_) #[true, true, true, true, true, true, true, true, false, false, false, false, false, false, false, false, false, false] rfl rfl (by kernel_rfl) (fun _ _ _ h => h) (Or.inl ⟨by rfl, ?_⟩) ?_ ?_
                rotate_left
                · intro w'
                  go_simp
                  with_reducible rfl
                rotate_left
                · (simp only [Act.put, List.setIfInBounds_toArray, List.set_cons_zero, List.set_cons_succ, i64_w, i32_w]; rfl)
                refine pure_ (i := 8) (N := some 144) (v := ?_) (a' := ?_) #[true, true, true, true, true, true, true, true, true, false, false, false, false, false, false, false, false, false] rfl rfl (by kernel_rfl) (fun _ _ _ h => h) (Or.inl ⟨by rfl, ?_⟩) ?_ ?_
                rotate_left
                · intro w'
                  go_simp
                  with_reducible rfl
                rotate_left
                · (simp only [Act.put, List.setIfInBounds_toArray, List.set_cons_zero, List.set_cons_succ, i64_w, i32_w]; rfl)
                refine two_ (i := 9) (j := 14) (Ni := some 145) (Nj := some 21) #[true, true, true, true, true, true, true, true, true, true, false, false, false, false, false, false, false, false] #[true, true, true, true, true, true, true, true, true, false, false, false, false, false, true, false, false, false] rfl rfl rfl rfl (by kernel_rfl) (by decide) (by decide) (fun K hK => ?_) (fun K hK => ?_)
                · refine goes_ Tryd.func13 (by kernel_rfl) rfl #[.agg #[.int .i64 rt, .slice A nn c, .int .i64 cur, .int .u64 v, .int .u64 mnn, .int .i64 load, .slice B mm d], .int .i64 ((wrap64 tk).tmod b1)] (by rfl) rfl rfl (by (try simp only [List.map_toArray, List.map_cons, List.map_nil]); first | done | rfl) ?_
                  refine (HEN.out _ _ SB.out.q SB.out.t).mono ?_
                  rintro e wq ⟨u, rfl, hp⟩
                  obtain ⟨A7, c7, B7, d7, rfl, hq7, hB⟩ := hp.out
                  refine ⟨_, rfl, ?_⟩
                  have HQ7 := Aside0.mk hq7
                  replace SB := Aside0.mk (SB.out.step hB)
                  clear hp hq7
                  clear hB
                  refine hK.out _ _ ⟨SB.out.x.c0, SB.out.x.c1, SB.out.x.c2, SB.out.x.c3, SB.out.x.c4, SB.out.x.c5, SB.out.x.c6, SB.out.y⟩ (fun hHeld => ?_)
                  clear hK K
                  refine norm_ (a' := ?_) ?_ ?_
                  rotate_left
                  · (show Act.put _ (some 145) _ = _; (simp only [Act.put, List.setIfInBounds_toArray, List.set_cons_zero, List.set_cons_succ, i64_w, i32_w]; rfl))
                  refine pure_ (i := 10) (N := some 135) (v := ?_) (a' := ?_) #[true, true, true, true, true, true, true, true, true, true, true, false, false, false, false, false, false, false] rfl rfl (by kernel_rfl) (fun _ _ _ h => h) (Or.inl ⟨by rfl, ?_⟩) ?_ ?_
                  rotate_left
                  · intro w'
                    go_simp
                    with_reducible rfl
                  rotate_left
                  · (simp only [Act.put, List.setIfInBounds_toArray, List.set_cons_zero, List.set_cons_succ, i64_w, i32_w]; rfl)
                  refine pure_ (i := 11) (N := some 146) (v := ?_) (a' := ?_) #[true, true, true, true, true, true, true, true, true, true, true, true, false, false, false, false, false, false] rfl rfl (by kernel_rfl) (fun _ _ _ h => h) (Or.inl ⟨by rfl, ?_⟩) ?_ ?_
                  rotate_left
                  · intro w'
                    go_simp
                    with_reducible rfl
                  rotate_left
                  · (simp only [Act.put, List.setIfInBounds_toArray, List.set_cons_zero, List.set_cons_succ, i64_w, i32_w]; rfl)
                  refine pure_ (i := 12) (N := some 147) (v := ?_) (a' := ?_) #[true, true, true, true, true, true, true, true, true, true, true, true, true, false, false, false, false, false] rfl rfl (by kernel_rfl) (fun _ _ _ h => h) (Or.inl ⟨by rfl, ?_⟩) ?_ ?_
                  rotate_left
                  · intro w'
                    go_simp
                    with_reducible rfl
                  rotate_left
                  · (simp only [Act.put, List.setIfInBounds_toArray, List.set_cons_zero, List.set_cons_succ, i64_w, i32_w]; rfl)
                  refine pure_ (i := 13) (N := some 148) (v := ?_) (a' := ?_) #[true, true, true, true, true, true, true, true, true, true, true, true, true, true, false, false, false, false] rfl rfl (by kernel_rfl) (fun _ _ _ h => h) (Or.inl ⟨by rfl, ?_⟩) ?_ ?_
                  rotate_left
                  · intro w'
                    go_simp
                    with_reducible rfl
                  rotate_left
                  · (simp only [Act.put, List.setIfInBounds_toArray, List.set_cons_zero, List.set_cons_succ, i64_w, i32_w]; rfl)
                  refine one_ (i := 14) (N := some 21) #[true, true, true, true, true, true, true, true, true, true, true, true, true, true, true, false, false, false] rfl rfl (by kernel_rfl) (by decide) (fun K hK => ?_)
                  refine box_step ?hg (N := 21) ?hd (cs := #[.int .i64 0, .slice none 0 0, .int .i64 0, .int .u64 0, .int .u64 0, .int .i64 0, .slice none 0 0]) (t := 28) ?hr ?_
                  case hd => rfl
                  case hg => rfl
                  case hr => first | (go_simp; done) | (go_simp; rfl)
                  intro gx hgx wx hbox hbx
                  have HGX := Aside0.mk (show g < gx by rw [hgx]; exact SB.out.x.lt)
                  have HYX := Aside0.mk (show (ad2.add k).block < gx by rw [hgx]; exact World.block_lt_of_cell? _ _ SB.out.y)
                  have HZX := Aside0.mk (show QB 0 none 0 0 0 0 0 0 none 0 0 wx gx from ⟨hbox⟩)
                  have HGW := Aside0.mk (show w.heap.size ≤ gx by rw [hgx]; exact SB.out.b.size)
                  replace SB := Aside0.mk (SB.out.box hbx hgx HZX.out.lt)
                  replace HQ7 := Aside0.mk (HQ7.out.two hbx hgx HZX.out.lt)
                  clear hgx hbox hbx
                  refine hK.out _ _ ⟨SB.out.x.c0, SB.out.x.c1, SB.out.x.c2, SB.out.x.c3, SB.out.x.c4, SB.out.x.c5, SB.out.x.c6, SB.out.y⟩ (fun hHeld => ?_)
                  clear hK K
                  refine norm_ (a' := ?_) ?_ ?_
                  rotate_left
                  · (show Act.put _ (some 21) _ = _; (simp only [Act.put, List.setIfInBounds_toArray, List.set_cons_zero, List.set_cons_succ, i64_w, i32_w]; rfl))
                  have z0 := HZX.out.c0
                  have f0 := HZX.out.frozen 0
                  have z1 := HZX.out.c1
                  have f1 := HZX.out.frozen 1
                  have z2 := HZX.out.c2
                  have f2 := HZX.out.frozen 2
                  have z3 := HZX.out.c3
                  have f3 := HZX.out.frozen 3
                  have z4 := HZX.out.c4
                  have f4 := HZX.out.frozen 4
                  have z5 := HZX.out.c5
                  have f5 := HZX.out.frozen 5
                  have z6 := HZX.out.c6
                  have f6 := HZX.out.frozen 6
                  refine one_ (i := 15) (N := none) #[true, true, true, true, true, true, true, true, true, true, true, true, true, true, true, true, false, false] rfl rfl (by kernel_rfl) (by decide) (fun K hK => ?_)
                  refine skip_ (w1 := ?_) (by rfl) rfl ?_ ?_
                  rotate_left
                  · go_simp
                    rfl
                  refine hK.out _ _ ⟨(SB.out.x.far7 (k := gx) (by have := HGX.out; omega) _ _ _ _ _ _ _).c0, (SB.out.x.far7 (k := gx) (by have := HGX.out; omega) _ _ _ _ _ _ _).c1, (SB.out.x.far7 (k := gx) (by have := HGX.out; omega) _ _ _ _ _ _ _).c2, (SB.out.x.far7 (k := gx) (by have := HGX.out; omega) _ _ _ _ _ _ _).c3, (SB.out.x.far7 (k := gx) (by have := HGX.out; omega) _ _ _ _ _ _ _).c4, (SB.out.x.far7 (k := gx) (by have := HGX.out; omega) _ _ _ _ _ _ _).c5, (SB.out.x.far7 (k := gx) (by have := HGX.out; omega) _ _ _ _ _ _ _).c6, cell_set7 SB.out.y (k := gx) (by have := HYX.out; omega) _ _ _ _ _ _ _⟩ (fun hHeld => ?_)
                  clear hK K
                  refine pure_ (i := 16) (N := some 22) (v := ?_) (a' := ?_) #[true, true, true, true, true, true, true, true, true, true, true, true, true, true, true, true, true, false] rfl rfl (by kernel_rfl) (fun _ _ _ h => h) (Or.inl ⟨by rfl, ?_⟩) ?_ ?_
                  rotate_left
                  · intro w'
                    go_simp
                    with_reducible rfl
                  rotate_left
                  · (simp only [Act.put, List.setIfInBounds_toArray, List.set_cons_zero, List.set_cons_succ, i64_w, i32_w]; rfl)
                  refine pure_ (i := 17) (N := some 23) (v := ?_) (a' := ?_) #[true, true, true, true, true, true, true, true, true, true, true, true, true, true, true, true, true, true] rfl rfl (by kernel_rfl) (fun _ _ _ h => h) (Or.inl ⟨by rfl, ?_⟩) ?_ ?_
                  rotate_left
                  · intro w'
                    go_simp
                    with_reducible rfl
                  rotate_left
                  · (simp only [Act.put, List.setIfInBounds_toArray, List.set_cons_zero, List.set_cons_succ, i64_w, i32_w]; rfl)
                  refine done_ (by kernel_rfl) ?_
                  go_wp2_with fail
                  go_meet
                  exact ⟨rfl, gx, A7, c7, B7, d7, rfl, ⟨XB.mk' HT.out SB.out HZX.out HQ7.out HGX.out HGW.out⟩⟩
                · refine box_step ?hg (N := 21) ?hd (cs := #[.int .i64 0, .slice none 0 0, .int .i64 0, .int .u64 0, .int .u64 0, .int .i64 0, .slice none 0 0]) (t := 28) ?hr ?_
                  case hd => rfl
                  case hg => rfl
                  case hr => first | (go_simp; done) | (go_simp; rfl)
                  intro gx hgx wx hbox hbx
                  have HGX := Aside0.mk (show g < gx by rw [hgx]; exact SB.out.x.lt)
                  have HYX := Aside0.mk (show (ad2.add k).block < gx by rw [hgx]; exact World.block_lt_of_cell? _ _ SB.out.y)
                  have HZX := Aside0.mk (show QB 0 none 0 0 0 0 0 0 none 0 0 wx gx from ⟨hbox⟩)
                  have HGW := Aside0.mk (show w.heap.size ≤ gx by rw [hgx]; exact SB.out.b.size)
                  replace SB := Aside0.mk (SB.out.box hbx hgx HZX.out.lt)
                  clear hgx hbox hbx
                  refine hK.out _ _ ⟨SB.out.x.c0, SB.out.x.c1, SB.out.x.c2, SB.out.x.c3, SB.out.x.c4, SB.out.x.c5, SB.out.x.c6, SB.out.y⟩ (fun hHeld => ?_)
                  clear hK K
                  refine norm_ (a' := ?_) ?_ ?_
                  rotate_left
                  · (show Act.put _ (some 21) _ = _; (simp only [Act.put, List.setIfInBounds_toArray, List.set_cons_zero, List.set_cons_succ, i64_w, i32_w]; rfl))
                  refine one_ (i := 9) (N := some 145) #[true, true, true, true, true, true, true, true, true, true, false, false, false, false, true, false, false, false] rfl rfl (by kernel_rfl) (by decide) (fun K hK => ?_)
                  refine goes_ Tryd.func13 (by kernel_rfl) rfl #[.agg #[.int .i64 rt, .slice A nn c, .int .i64 cur, .int .u64 v, .int .u64 mnn, .int .i64 load, .slice B mm d], .int .i64 ((wrap64 tk).tmod b1)] (by rfl) rfl rfl (by (try simp only [List.map_toArray, List.map_cons, List.map_nil]); first | done | rfl) ?_
                  refine (HEN.out _ _ SB.out.q SB.out.t).mono ?_
                  rintro e wq ⟨u, rfl, hp⟩
                  obtain ⟨A7, c7, B7, d7, rfl, hq7, hB⟩ := hp.out
                  refine ⟨_, rfl, ?_⟩
                  have HQ7 := Aside0.mk hq7
                  replace SB := Aside0.mk (SB.out.step hB)
                  clear hp hq7
                  replace HZX := Aside0.mk (HZX.out.below hB)
                  clear hB
                  refine hK.out _ _ ⟨SB.out.x.c0, SB.out.x.c1, SB.out.x.c2, SB.out.x.c3, SB.out.x.c4, SB.out.x.c5, SB.out.x.c6, SB.out.y⟩ (fun hHeld => ?_)
                  clear hK K
                  refine norm_ (a' := ?_) ?_ ?_
                  rotate_left
                  · (show Act.put _ (some 145) _ = _; (simp only [Act.put, List.setIfInBounds_toArray, List.set_cons_zero, List.set_cons_succ, i64_w, i32_w]; rfl))
                  refine pure_ (i := 10) (N := some 135) (v := ?_) (a' := ?_) #[true, true, true, true, true, true, true, true, true, true, true, false, false, false, true, false, false, false] rfl rfl (by kernel_rfl) (fun _ _ _ h => h) (Or.inl ⟨by rfl, ?_⟩) ?_ ?_
                  rotate_left
                  · intro w'
                    go_simp
                    with_reducible rfl
                  rotate_left
                  · (simp only [Act.put, List.setIfInBounds_toArray, List.set_cons_zero, List.set_cons_succ, i64_w, i32_w]; rfl)
                  refine pure_ (i := 11) (N := some 146) (v := ?_) (a' := ?_) #[true, true, true, true, true, true, true, true, true, true, true, true, false, false, true, false, false, false] rfl rfl (by kernel_rfl) (fun _ _ _ h => h) (Or.inl ⟨by rfl, ?_⟩) ?_ ?_
                  rotate_left
                  · intro w'
                    go_simp
                    with_reducible rfl
                  rotate_left
                  · (simp only [Act.put, List.setIfInBounds_toArray, List.set_cons_zero, List.set_cons_succ, i64_w, i32_w]; rfl)
                  refine pure_ (i := 12) (N := some 147) (v := ?_) (a' := ?_) #[true, true, true, true, true, true, true, true, true, true, true, true, true, false, true, false, false, false] rfl rfl (by kernel_rfl) (fun _ _ _ h => h) (Or.inl ⟨by rfl, ?_⟩) ?_ ?_
                  rotate_left
                  · intro w'
                    go_simp
                    with_reducible rfl
                  rotate_left
                  · (simp only [Act.put, List.setIfInBounds_toArray, List.set_cons_zero, List.set_cons_succ, i64_w, i32_w]; rfl)
                  refine pure_ (i := 13) (N := some 148) (v := ?_) (a' := ?_) #[true, true, true, true, true, true, true, true, true, true, true, true, true, true, true, false, false, false] rfl rfl (by kernel_rfl) (fun _ _ _ h => h) (Or.inl ⟨by rfl, ?_⟩) ?_ ?_
                  rotate_left
                  · intro w'
                    go_simp
                    with_reducible rfl
                  rotate_left
                  · (simp only [Act.put, List.setIfInBounds_toArray, List.set_cons_zero, List.set_cons_succ, i64_w, i32_w]; rfl)
                  have z0 := HZX.out.c0
                  have f0 := HZX.out.frozen 0
                  have z1 := HZX.out.c1
                  have f1 := HZX.out.frozen 1
                  have z2 := HZX.out.c2
                  have f2 := HZX.out.frozen 2
                  have z3 := HZX.out.c3
                  have f3 := HZX.out.frozen 3
                  have z4 := HZX.out.c4
                  have f4 := HZX.out.frozen 4
                  have z5 := HZX.out.c5
                  have f5 := HZX.out.frozen 5
                  have z6 := HZX.out.c6
                  have f6 := HZX.out.frozen 6
                  refine one_ (i := 15) (N := none) #[true, true, true, true, true, true, true, true, true, true, true, true, true, true, true, true, false, false] rfl rfl (by kernel_rfl) (by decide) (fun K hK => ?_)
                  refine skip_ (w1 := ?_) (by rfl) rfl ?_ ?_
                  rotate_left
                  · go_simp
                    rfl
                  refine hK.out _ _ ⟨(SB.out.x.far7 (k := gx) (by have := HGX.out; omega) _ _ _ _ _ _ _).c0, (SB.out.x.far7 (k := gx) (by have := HGX.out; omega) _ _ _ _ _ _ _).c1, (SB.out.x.far7 (k := gx) (by have := HGX.out; omega) _ _ _ _ _ _ _).c2, (SB.out.x.far7 (k := gx) (by have := HGX.out; omega) _ _ _ _ _ _ _).c3, (SB.out.x.far7 (k := gx) (by have := HGX.out; omega) _ _ _ _ _ _ _).c4, (SB.out.x.far7 (k := gx) (by have := HGX.out; omega) _ _ _ _ _ _ _).c5, (SB.out.x.far7 (k := gx) (by have := HGX.out; omega) _ _ _ _ _ _ _).c6, cell_set7 SB.out.y (k := gx) (by have := HYX.out; omega) _ _ _ _ _ _ _⟩ (fun hHeld => ?_)
                  clear hK K
                  refine pure_ (i := 16) (N := some 22) (v := ?_) (a' := ?_) #[true, true, true, true, true, true, true, true, true, true, true, true, true, true, true, true, true, false] rfl rfl (by kernel_rfl) (fun _ _ _ h => h) (Or.inl ⟨by rfl, ?_⟩) ?_ ?_
                  rotate_left
                  · intro w'
                    go_simp
                    with_reducible rfl
                  rotate_left
                  · (simp only [Act.put, List.setIfInBounds_toArray, List.set_cons_zero, List.set_cons_succ, i64_w, i32_w]; rfl)
                  refine pure_ (i := 17) (N := some 23) (v := ?_) (a' := ?_) #[true, true, true, true, true, true, true, true, true, true, true, true, true, true, true, true, true, true] rfl rfl (by kernel_rfl) (fun _ _ _ h => h) (Or.inl ⟨by rfl, ?_⟩) ?_ ?_
                  rotate_left
                  · intro w'
                    go_simp
                    with_reducible rfl
                  rotate_left
                  · (simp only [Act.put, List.setIfInBounds_toArray, List.set_cons_zero, List.set_cons_succ, i64_w, i32_w]; rfl)
                  refine done_ (by kernel_rfl) ?_
                  go_wp2_with fail
                  go_meet
                  exact ⟨rfl, gx, A7, c7, B7, d7, rfl, ⟨XB.mk' HT.out SB.out HZX.out HQ7.out HGX.out HGW.out⟩⟩
              obtain ⟨rfl, gx, A7, c7, B7, d7, rfl, XS⟩ := hcut
              clear SB a0 a1 a2 a3 a4 a5 a6 y0 hr0 hr1 hr2
              generalize wc = W7 at XS ⊢
              have b0 := XS.out.n.c0
              have b1 := XS.out.n.c1
              have b2 := XS.out.n.c2
              have b3 := XS.out.n.c3
              have b4 := XS.out.n.c4
              have b5 := XS.out.n.c5
              have b6 := XS.out.n.c6
              go_upto_region 28 with (go_at_call 12; refine (HPK.out _ _ _ _ _ _ XS.out.q XS.out.t).mono ?_; rintro e w9 ⟨u, rfl, hp⟩; obtain ⟨A8, c8, B8, d8, rfl, hq8, hB⟩ := hp.out; have HQ8 := Aside0.mk hq8; have HXX := Aside0.mk (XS.out.x.below hB); have HBB := Aside0.mk (below_step XS.out.b hB); have HTT := Aside0.mk (XS.out.t.below hB); clear hp hq8 hB b0 b1 b2 b3 b4 b5 b6)
              clear XS
              have HNX := QB.new w9 rt2 A8 nn2 c8 cur2 v2 mn2 load2 B8 mm2 d8
              have hb := below_alloc (Below.refl w9.heap.size w9) (.cells #[.int .i64 rt2, .slice A8 nn2 c8, .int .i64 cur2, .int .u64 v2, .int .u64 mn2, .int .i64 load2, .slice B8 mm2 d8] 28)
              have XS := Aside0.mk (show XB rt A nn c cur v mnn load B mm d rt2 A8 nn2 c8 cur2 v2 mn2 load2 B8 mm2 d8 z g w9.heap.size w _ from ⟨HXX.out.below hb, HNX, HXX.out.lt, HQ8.out.below hb, below_step HBB.out hb, HTT.out.below hb⟩)
              clear HNX hb HXX HQ8 HBB HTT
              generalize w9.alloc (.cells #[.int .i64 rt2, .slice A8 nn2 c8, .int .i64 cur2, .int .u64 v2, .int .u64 mn2, .int .i64 load2, .slice B8 mm2 d8] 28) = W10 at XS ⊢
              generalize w9.heap.size = gz at XS ⊢
              have b0 := XS.out.n.c0
              have b1 := XS.out.n.c1
              have b2 := XS.out.n.c2
              have b3 := XS.out.n.c3
              have b4 := XS.out.n.c4
              have b5 := XS.out.n.c5
              have b6 := XS.out.n.c6
              go_upto_region 29 with (go_at_call 14; refine (HKY.out _ _ _ _ _ _ XS.out.q XS.out.t).mono ?_; rintro e w11 ⟨v9, rfl, hR, hB⟩; obtain ⟨A9, c9, hv9, hlc9, hC9⟩ := Kd.R_reads hR; subst hv9; have HC9 := Aside0.mk hC9; replace XS := Aside0.mk (XS.out.step hB); clear hR hB hlc9 hC9 b0 b1 b2 b3 b4 b5 b6)
              have hkl := HKS.out.2.1
              obtain ⟨n9, hn9⟩ : ∃ n9, kl.length = n9 + 1 := ⟨kl.length - 1, by omega⟩
              obtain ⟨ad9, e9, k0, _⟩ := Tk.C_at HC9.out 0 hkl
              obtain ⟨ad8, e8, k1, _⟩ := Tk.C_at HC9.out n9 (by omega)
              obtain rfl := Option.some.inj (e9.symm.trans e8)
              subst e9
              have hgt := HKS.out.2.2
              rw [hn9, Nat.add_sub_cancel] at hgt
              replace hgt : IntKind.u64.wrap ((gt kl n9).1 - (gt kl 0).1) ≤ bd := hgt
              replace k0 : w11.cell? ad9 = some (.int .u64 (gt kl 0).1) := by simpa [Addr.add] using k0
              rw [hn9]
              generalize (gt kl 0).1 = vv0 at k0 hgt
              generalize (gt kl n9).1 = vv9 at k1 hgt
              have hcmp : decide (IntKind.u64.wrap bd < IntKind.u64.wrap (vv9 - vv0)) = false := decide_eq_false (by
                have h1 := HBD.out
                have e : IntKind.u64.wrap bd = bd := by
                  rw [w64u]
                  omega
                rw [e]
                omega)
              have hl9 : n9 < 1000000 := by
                have h3 := HKS2.out
                omega
              clear hkl hn9 HC9 HKS HKY hgt e8
              clear HKS2
              have hcz : ((n9 : Int) + 1 == 0) = false := beq_eq_false_iff_ne.2 (by omega)
              have hw9 : wrap64 (n9 : Int) = (n9 : Int) := by rw [wr64]; omega
              have hn0 : (0 : Int) ≤ (n9 : Int) := by omega
              have hn1 : (n9 : Int) < (n9 : Int) + 1 := by omega
              replace XS := Aside0.mk (XS.out.step (Below.drew (Below.refl _ _)))
              replace k0 : w11.drew.cell? ad9 = some (.int .u64 vv0) := k0
              replace k1 : w11.drew.cell? (ad9.add (n9 * 2)) = some (.int .u64 vv9) := k1
              refine start_ (n := 28) (S := fun w' => w'.cell? (ad9.add (n9 * 2)) = some (.int .u64 vv9) ∧ w'.cell? ad9 = some (.int .u64 vv0)) (ds := []) #[false, false, false, false, false, false, false, false, false, false, false, false, false, false, false, false, false, false, false, false, false, false, false, false, false, false, false, false] (by kernel_rfl) rfl rfl ⟨k1, k0⟩ (fun hHeld => ?_)
              generalize World.drew _ = W12 at XS k0 k1 hHeld ⊢
              refine pure_ (i := 0) (N := some 157) (v := ?_) (a' := ?_) #[true, false, false, false, false, false, false, false, false, false, false, false, false, false, false, false, false, false, false, false, false, false, false, false, false, false, false, false] rfl rfl (by kernel_rfl) (fun _ _ _ h => h) (Or.inl ⟨by rfl, ?_⟩) ?_ ?_
              rotate_left
              · intro w'
                go_simp
                with_reducible rfl
              rotate_left
              · (simp only [Act.put, List.setIfInBounds_toArray, List.set_cons_zero, List.set_cons_succ, i64_w, i32_w]; rfl)
              refine pure_ (i := 1) (N := some 158) (v := ?_) (a' := ?_) #[true, true, false, false, false, false, false, false, false, false, false, false, false, false, false, false, false, false, false, false, false, false, false, false, false, false, false, false] rfl rfl (by kernel_rfl) (fun _ _ _ h => h) (Or.inl ⟨by rfl, ?_⟩) ?_ ?_
              rotate_left
              · intro w'
                go_simp
                with_reducible rfl
              rotate_left
              · (simp only [Act.put, List.setIfInBounds_toArray, List.set_cons_zero, List.set_cons_succ, i64_w, i32_w]; rfl)
              refine pure_ (i := 2) (N := some 159) (v := ?_) (a' := ?_) #[true, true, true, false, false, false, false, false, false, false, false, false, false, false, false, false, false, false, false, false, false, false, false, false, false, false, false, false] rfl rfl (by kernel_rfl) (fun _ _ _ h => h) (Or.inl ⟨by rfl, ?_⟩) ?_ ?_
              rotate_left
              · intro w'
                go_simp
                with_reducible rfl
              rotate_left
              · (simp only [Act.put, List.setIfInBounds_toArray, List.set_cons_zero, List.set_cons_succ, i64_w, i32_w]; rfl)
              refine pure_ (i := 3) (N := some 160) (v := ?_) (a' := ?_) #[true, true, true, true, false, false, false, false, false, false, false, false, false, false, false, false, false, false, false, false, false, false, false, false, false, false, false, false] rfl rfl (by kernel_rfl) (fun _ _ _ h => h) (Or.inl ⟨by rfl, ?_⟩) ?_ ?_
              rotate_left
              · intro w'
                go_simp
                with_reducible rfl
              rotate_left
              · (simp only [Act.put, List.setIfInBounds_toArray, List.set_cons_zero, List.set_cons_succ, i64_w, i32_w]; rfl)
              refine pure_ (i := 4) (N := some 161) (v := ?_) (a' := ?_) #[true, true, true, true, true, false, false, false, false, false, false, false, false, false, false, false, false, false, false, false, false, false, false, false, false, false, false, false] rfl rfl (by kernel_rfl) (fun _ _ _ h => h) (Or.inl ⟨by rfl, ?_⟩) ?_ ?_
              rotate_left
              · intro w'
                go_simp
                with_reducible rfl
              rotate_left
              · (simp only [Act.put, List.setIfInBounds_toArray, List.set_cons_zero, List.set_cons_succ, i64_w, i32_w]; rfl)
              refine pure_ (i := 5) (N := some 162) (v := ?_) (a' := ?_) #[true, true, true, true, true, true, false, false, false, false, false, false, false, false, false, false, false, false, false, false, false, false, false, false, false, false, false, false] rfl rfl (by kernel_rfl) (fun _ _ _ h => h) (Or.inl ⟨by rfl, ?_⟩) ?_ ?_
              rotate_left
              · intro w'
                go_simp
                with_reducible rfl
              rotate_left
              · (simp only [Act.put, List.setIfInBounds_toArray, List.set_cons_zero, List.set_cons_succ, i64_w, i32_w]; rfl)
              refine pure_ (i := 6) (N := some 163) (v := ?_) (a' := ?_) #[true, true, true, true, true, true, true, false, false, false, false, false, false, false, false, false, false, false, false, false, false, false, false, false, false, false, false, false] rfl rfl (by kernel_rfl) (fun _ _ _ h => h) (Or.inl ⟨by rfl, ?_⟩) ?_ ?_
              rotate_left
              · intro w'
                go_simp
                with_reducible rfl
              rotate_left
              · (simp only [Act.put, List.setIfInBounds_toArray, List.set_cons_zero, List.set_cons_succ, i64_w, i32_w]; rfl)
              refine pure_ (i := 7) (N := some 164) (v := ?_) (a' := ?_) #[true, true, true, true, true, true, true, true, false, false, false, false, false, false, false, false, false, false, false, false, false, false, false, false, false, false, false, false] rfl rfl (by kernel_rfl) (fun _ _ _ h => h) (Or.inl ⟨by rfl, ?_⟩) ?_ ?_
              rotate_left
              · intro w'
                go_simp
                with_reducible rfl
              rotate_left
              · (simp only [Act.put, List.setIfInBounds_toArray, List.set_cons_zero, List.set_cons_succ, i64_w, i32_w]; rfl)
              refine pure_ (i := 8) (N := some 165) (v := ?_) (a' := ?_) #[true, true, true, true, true, true, true, true, true, false, false, false, false, false, false, false, false, false, false, false, false, false, false, false, false, false, false, false] rfl rfl (by kernel_rfl) (fun _ _ _ h => h) (Or.inl ⟨by rfl, ?_⟩) ?_ ?_
              rotate_left
              · intro w'
                go_simp
                with_reducible rfl
              rotate_left
              · (simp only [Act.put, List.setIfInBounds_toArray, List.set_cons_zero, List.set_cons_succ, i64_w, i32_w]; rfl)
              refine pure_ (i := 9) (N := some 166) (v := ?_) (a' := ?_) #[true, true, true, true, true, true, true, true, true, true, false, false, false, false, false, false, false, false, false, false, false, false, false, false, false, false, false, false] rfl rfl (by kernel_rfl) (fun _ _ _ h => h) (Or.inl ⟨by rfl, ?_⟩) ?_ ?_
              rotate_left
              · intro w'
                go_simp
                with_reducible rfl
              rotate_left
              · (simp only [Act.put, List.setIfInBounds_toArray, List.set_cons_zero, List.set_cons_succ, i64_w, i32_w]; rfl)
              refine pure_ (i := 10) (N := some 167) (v := ?_) (a' := ?_) #[true, true, true, true, true, true, true, true, true, true, true, false, false, false, false, false, false, false, false, false, false, false, false, false, false, false, false, false] rfl rfl (by kernel_rfl) (fun _ _ _ h => h) (Or.inl ⟨by rfl, ?_⟩) ?_ ?_
              rotate_left
              · intro w'
                go_simp
                with_reducible rfl
              rotate_left
              · (simp only [Act.put, List.setIfInBounds_toArray, List.set_cons_zero, List.set_cons_succ, i64_w, i32_w]; rfl)
              refine pure_ (i := 11) (N := some 168) (v := ?_) (a' := ?_) #[true, true, true, true, true, true, true, true, true, true, true, true, false, false, false, false, false, false, false, false, false, false, false, false, false, false, false, false] rfl rfl (by kernel_rfl) (fun _ _ _ h => h) (Or.inl ⟨by rfl, ?_⟩) ?_ ?_
              rotate_left
              · intro w'
                go_simp
                with_reducible rfl
              rotate_left
              · (simp only [Act.put, List.setIfInBounds_toArray, List.set_cons_zero, List.set_cons_succ, i64_w, i32_w]; rfl)
              refine pure_ (i := 12) (N := some 169) (v := ?_) (a' := ?_) #[true, true, true, true, true, true, true, true, true, true, true, true, true, false, false, false, false, false, false, false, false, false, false, false, false, false, false, false] rfl rfl (by kernel_rfl) (fun _ _ _ h => h) (Or.inl ⟨by rfl, ?_⟩) ?_ ?_
              rotate_left
              · intro w'
                go_simp
                with_reducible rfl
              rotate_left
              · (simp only [Act.put, List.setIfInBounds_toArray, List.set_cons_zero, List.set_cons_succ, i64_w, i32_w]; rfl)
              refine pure_ (i := 13) (N := some 170) (v := ?_) (a' := ?_) #[true, true, true, true, true, true, true, true, true, true, true, true, true, true, false, false, false, false, false, false, false, false, false, false, false, false, false, false] rfl rfl (by kernel_rfl) (fun _ _ _ h => h) (Or.inl ⟨by rfl, ?_⟩) ?_ ?_
              rotate_left
              · intro w'
                go_simp
                with_reducible rfl
              rotate_left
              · (simp only [Act.put, List.setIfInBounds_toArray, List.set_cons_zero, List.set_cons_succ, i64_w, i32_w]; rfl)
              refine pure_ (i := 14) (N := some 171) (v := ?_) (a' := ?_) #[true, true, true, true, true, true, true, true, true, true, true, true, true, true, true, false, false, false, false, false, false, false, false, false, false, false, false, false] rfl rfl (by kernel_rfl) (fun _ _ _ h => h) (Or.inl ⟨by rfl, ?_⟩) ?_ ?_
              rotate_left
              · intro w'
                go_simp
                with_reducible rfl
              rotate_left
              · (simp only [Act.put, List.setIfInBounds_toArray, List.set_cons_zero, List.set_cons_succ, i64_w, i32_w]; rfl)
              refine pure_ (i := 15) (N := some 172) (v := ?_) (a' := ?_) #[true, true, true, true, true, true, true, true, true, true, true, true, true, true, true, true, false, false, false, false, false, false, false, false, false, false, false, false] rfl rfl (by kernel_rfl) (fun _ _ _ h => h) (Or.inl ⟨by rfl, ?_⟩) ?_ ?_
              rotate_left
              · intro w'
                go_simp
                with_reducible rfl
              rotate_left
              · (simp only [Act.put, List.setIfInBounds_toArray, List.set_cons_zero, List.set_cons_succ, i64_w, i32_w]; rfl)
              refine pure_ (i := 16) (N := some 173) (v := ?_) (a' := ?_) #[true, true, true, true, true, true, true, true, true, true, true, true, true, true, true, true, true, false, false, false, false, false, false, false, false, false, false, false] rfl rfl (by kernel_rfl) (fun _ _ _ h => h) (Or.inl ⟨by rfl, ?_⟩) ?_ ?_
              rotate_left
              · intro w'
                go_simp
                with_reducible rfl
              rotate_left
              · (simp only [Act.put, List.setIfInBounds_toArray, List.set_cons_zero, List.set_cons_succ, i64_w, i32_w]; rfl)
              refine pure_ (i := 17) (N := some 174) (v := ?_) (a' := ?_) #[true, true, true, true, true, true, true, true, true, true, true, true, true, true, true, true, true, true, false, false, false, false, false, false, false, false, false, false] rfl rfl (by kernel_rfl) (fun _ _ _ h => h) (Or.inl ⟨by rfl, ?_⟩) ?_ ?_
              rotate_left
              · intro w'
                go_simp
                with_reducible rfl
              rotate_left
              · (simp only [Act.put, List.setIfInBounds_toArray, List.set_cons_zero, List.set_cons_succ, i64_w, i32_w]; rfl)
              refine take_ (i := 18) (N := some 175) (v := ?_) (a' := ?_) #[true, true, true, true, true, true, true, true, true, true, true, true, true, true, true, true, true, true, true, false, false, false, false, false, false, false, false, false] rfl rfl (by kernel_rfl) (fun _ _ _ h => h) (Or.inl ⟨by rfl, ?_⟩) hHeld ?_ ?_
              rotate_left
              · rintro w' ⟨s0, s1⟩
                go_simp
                with_reducible rfl
              rotate_left
              · (simp only [Act.put, List.setIfInBounds_toArray, List.set_cons_zero, List.set_cons_succ, i64_w, i32_w]; rfl)
              refine pure_ (i := 19) (N := some 176) (v := ?_) (a' := ?_) #[true, true, true, true, true, true, true, true, true, true, true, true, true, true, true, true, true, true, true, true, false, false, false, false, false, false, false, false] rfl rfl (by kernel_rfl) (fun _ _ _ h => h) (Or.inl ⟨by rfl, ?_⟩) ?_ ?_
              rotate_left
              · intro w'
                go_simp
                with_reducible rfl
              rotate_left
              · (simp only [Act.put, List.setIfInBounds_toArray, List.set_cons_zero, List.set_cons_succ, i64_w, i32_w]; rfl)
              refine pure_ (i := 20) (N := some 177) (v := ?_) (a' := ?_) #[true, true, true, true, true, true, true, true, true, true, true, true, true, true, true, true, true, true, true, true, true, false, false, false, false, false, false, false] rfl rfl (by kernel_rfl) (fun _ _ _ h => h) (Or.inl ⟨by rfl, ?_⟩) ?_ ?_
              rotate_left
              · intro w'
                go_simp
                with_reducible rfl
              rotate_left
              · (simp only [Act.put, List.setIfInBounds_toArray, List.set_cons_zero, List.set_cons_succ, i64_w, i32_w]; rfl)
              refine pure_ (i := 21) (N := some 178) (v := ?_) (a' := ?_) #[true, true, true, true, true, true, true, true, true, true, true, true, true, true, true, true, true, true, true, true, true, true, false, false, false, false, false, false] rfl rfl (by kernel_rfl) (fun _ _ _ h => h) (Or.inl ⟨by rfl, ?_⟩) ?_ ?_
              rotate_left
              · intro w'
                go_simp
                with_reducible rfl
              rotate_left
              · (simp only [Act.put, List.setIfInBounds_toArray, List.set_cons_zero, List.set_cons_succ, i64_w, i32_w]; rfl)
              refine take_ (i := 22) (N := some 179) (v := ?_) (a' := ?_) #[true, true, true, true, true, true, true, true, true, true, true, true, true, true, true, true, true, true, true, true, true, true, true, false, false, false, false, false] rfl rfl (by kernel_rfl) (fun _ _ _ h => h) (Or.inl ⟨by rfl, ?_⟩) hHeld ?_ ?_
              rotate_left
              · rintro w' ⟨s0, s1⟩
                go_simp
                with_reducible rfl
              rotate_left
              · (simp only [Act.put, List.setIfInBounds_toArray, List.set_cons_zero, List.set_cons_succ, i64_w, i32_w]; rfl)
              refine pure_ (i := 23) (N := some 180) (v := ?_) (a' := ?_) #[true, true, true, true, true, true, true, true, true, true, true, true, true, true, true, true, true, true, true, true, true, true, true, true, false, false, false, false] rfl rfl (by kernel_rfl) (fun _ _ _ h => h) (Or.inl ⟨by rfl, ?_⟩) ?_ ?_
              rotate_left
              · intro w'
                go_simp
                with_reducible rfl
              rotate_left
              · (simp only [Act.put, List.setIfInBounds_toArray, List.set_cons_zero, List.set_cons_succ, i64_w, i32_w]; rfl)
              refine pure_ (i := 24) (N := some 181) (v := ?_) (a' := ?_) #[true, true, true, true, true, true, true, true, true, true, true, true, true, true, true, true, true, true, true, true, true, true, true, true, true, false, false, false] rfl rfl (by kernel_rfl) (fun _ _ _ h => h) (Or.inl ⟨by rfl, ?_⟩) ?_ ?_
              rotate_left
              · intro w'
                go_simp
                with_reducible rfl
              rotate_left
              · (simp only [Act.put, List.setIfInBounds_toArray, List.set_cons_zero, List.set_cons_succ, i64_w, i32_w]; rfl)
              refine pure_ (i := 25) (N := some 182) (v := ?_) (a' := ?_) #[true, true, true, true, true, true, true, true, true, true, true, true, true, true, true, true, true, true, true, true, true, true, true, true, true, true, false, false] rfl rfl (by kernel_rfl) (fun _ _ _ h => h) (Or.inl ⟨by rfl, ?_⟩) ?_ ?_
              rotate_left
              · intro w'
                go_simp
                with_reducible rfl
              rotate_left
              · (simp only [Act.put, List.setIfInBounds_toArray, List.set_cons_zero, List.set_cons_succ, i64_w, i32_w]; rfl)
              refine pure_ (i := 26) (N := some 183) (v := ?_) (a' := ?_) #[true, true, true, true, true, true, true, true, true, true, true, true, true, true, true, true, true, true, true, true, true, true, true, true, true, true, true, false] rfl rfl (by kernel_rfl) (fun _ _ _ h => h) (Or.inl ⟨by rfl, ?_⟩) ?_ ?_
              rotate_left
              · intro w'
                go_simp
                with_reducible rfl
              rotate_left
              · (simp only [Act.put, List.setIfInBounds_toArray, List.set_cons_zero, List.set_cons_succ, i64_w, i32_w]; rfl)
              refine pure_ (i := 27) (N := some 184) (v := ?_) (a' := ?_) #[true, true, true, true, true, true, true, true, true, true, true, true, true, true, true, true, true, true, true, true, true, true, true, true, true, true, true, true] rfl rfl (by kernel_rfl) (fun _ _ _ h => h) (Or.inl ⟨by rfl, ?_⟩) ?_ ?_
              rotate_left
              · intro w'
                go_simp
                with_reducible rfl
              rotate_left
              · (simp only [Act.put, List.setIfInBounds_toArray, List.set_cons_zero, List.set_cons_succ, i64_w, i32_w]; rfl)
              refine done_ (by kernel_rfl) ?_
              have a0 := XS.out.x.c0
              have f0 := XS.out.x.frozen 0
              have b0 := XS.out.n.c0
              have a1 := XS.out.x.c1
              have f1 := XS.out.x.frozen 1
              have b1 := XS.out.n.c1
              have a2 := XS.out.x.c2
              have f2 := XS.out.x.frozen 2
              have b2 := XS.out.n.c2
              have a3 := XS.out.x.c3
              have f3 := XS.out.x.frozen 3
              have b3 := XS.out.n.c3
              have a4 := XS.out.x.c4
              have f4 := XS.out.x.frozen 4
              have b4 := XS.out.n.c4
              have a5 := XS.out.x.c5
              have f5 := XS.out.x.frozen 5
              have b5 := XS.out.n.c5
              have a6 := XS.out.x.c6
              have f6 := XS.out.x.frozen 6
              have b6 := XS.out.n.c6
              go_wp2
              refine ⟨⟨k + 1, ⟨by have := HK.out; omega, by have := HK.out; omega⟩, by simp, ⟨⟨rt2, A8, nn2, c8, cur2, v2, mn2, load2, B8, mm2, d8, z, ⟨set7_out XS.out.x.out rfl _ _ _ _ _ _ _⟩, HF3.out, XS.out.q.put7g _ _ _ _ _ _ _, HFT.out⟩, set7_below XS.out.b HGB.out _ _ _ _ _ _ _, HT.out.below (set7_below XS.out.b HGB.out _ _ _ _ _ _ _)⟩⟩, ?_⟩
              show 60 - ((k : Int) + 1).toNat < 60 - (k : Int).toNat
              have := HK.out
              omega
            · go_upto_region 24 with (fail)
              go_cut [132] (fun s132 wx => s132 = .bool false ∧ wx = wr)
              case first =>
                by_cases e1x : k < U.length
                · have e1i : (k : Int) < (U.length : Int) := by omega
                  have e2i : ¬ (k : Int) < 60 := by omega
                  go_wp2_with fail
                  go_meet
                  exact ⟨by simp [e2i], rfl⟩
                · have e1i : ¬ (k : Int) < (U.length : Int) := by omega
                  go_wp2_with fail
                  go_meet
                  exact ⟨rfl, rfl⟩
              obtain ⟨rfl, hwc⟩ := hcut
              have HBE := Aside0.mk QI.out.b
              rw [← hwc] at HBE
              clear hwc ex
              go_wp2
              go_ret
              exact ⟨rfl, HBE.out⟩
end Go.Proofs.YtnkhnnojdlgfjaaDoor.Qw
