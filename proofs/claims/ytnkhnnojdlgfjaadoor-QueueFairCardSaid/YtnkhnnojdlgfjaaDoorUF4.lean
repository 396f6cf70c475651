/- Parts of the proof, joined: Tr. -/
namespace Go.Proofs.YtnkhnnojdlgfjaaDoor.Tr
set_option linter.unusedVariables false
structure Nd where
  inn : Bool
  red : Bool
  v : Int
  l : Int
  r : Int
  u : Int
def emp : Nd := ⟨false, false, 0, -1, -1, -1⟩
structure St where
  ns : List Nd
  rt : Int
def gn (t : St) (x : Nat) : Nd := t.ns.getD x emp
def sn (t : St) (x : Nat) (n : Nd) : St := ⟨t.ns.set x n, t.rt⟩
theorem sn_len (t : St) (x : Nat) (n : Nd) : (sn t x n).ns.length = t.ns.length := by simp [sn]
theorem gn_sn (t : St) (x : Nat) (n : Nd) (y : Nat) (h : x < t.ns.length) : gn (sn t x n) y = if y = x then n else gn t y := by
  unfold gn sn
  rw [List.getD_eq_getElem?_getD, List.getD_eq_getElem?_getD, List.getElem?_set]
  by_cases e : y = x
  · subst e; simp [h]
  · rw [if_neg (fun h => e h.symm), if_neg e]
def kidA (t : St) (x : Int) (s : Bool) : Int := if s then (gn t x.toNat).r else (gn t x.toNat).l
def setKid (n : Nd) (s : Bool) (y : Int) : Nd := if s then { n with r := y } else { n with l := y }
def hang1 (t : St) (x : Int) (s : Bool) (y : Int) : St := if x < 0 then ⟨t.ns, y⟩ else sn t x.toNat (setKid (gn t x.toNat) s y)
def hang2 (t : St) (x : Int) (y : Int) : St := if 0 ≤ y then sn t y.toNat { gn t y.toNat with u := x } else t
def hangA (t : St) (x : Int) (s : Bool) (y : Int) : St := hang2 (hang1 t x s y) x y
def onA (t : St) (x : Int) : Bool := decide (0 ≤ (gn t x.toNat).u ∧ kidA t (gn t x.toNat).u true = x)
def turnA (t : St) (x : Int) (s : Bool) : St :=
  hangA (hangA (hangA t x (!s) (kidA t (kidA t x (!s)) s)) (gn t x.toNat).u (onA t x) (kidA t x (!s))) (kidA t x (!s)) s x
inductive T where
  | E
  | B (c : Bool) (l : T) (x : Nat) (r : T)
namespace T
def rt : T → Int
  | E => -1
  | B _ _ x _ => x
def ids : T → List Nat
  | E => []
  | B _ l x r => l.ids ++ x :: r.ids
def red : T → Bool
  | E => false
  | B c _ _ _ => c
end T
open T
def Lay (t : St) : T → Option Int → Prop
  | E, _ => True
  | B c l x r, u => x < t.ns.length ∧ (gn t x).inn = true ∧ (gn t x).red = c ∧ (gn t x).l = l.rt ∧ (gn t x).r = r.rt ∧ (∀ p, u = some p → (gn t x).u = p) ∧ Lay t l (some x) ∧ Lay t r (some x)
theorem Lay.congr {t t' : St} (hl : t'.ns.length = t.ns.length) : ∀ {a : T} {u : Option Int}, (∀ x ∈ a.ids, gn t' x = gn t x) → Lay t a u → Lay t' a u
  | E, _, _, _ => trivial
  | B c l x r, u, h, ⟨h1, h2, h3, h4, h5, h6, h7, h8⟩ => by
    have hx := h x (by simp [T.ids])
    refine ⟨by rw [hl]; exact h1, by rw [hx]; exact h2, by rw [hx]; exact h3, by rw [hx]; exact h4, by rw [hx]; exact h5, by rw [hx]; exact h6, ?_, ?_⟩
    · exact Lay.congr hl (fun y hy => h y (by simp [T.ids, hy])) h7
    · exact Lay.congr hl (fun y hy => h y (by simp [T.ids, hy])) h8
theorem Lay.loose {t : St} : ∀ {a : T} {u : Option Int}, Lay t a u → Lay t a none
  | E, _, _ => trivial
  | B c l x r, u, ⟨h1, h2, h3, h4, h5, h6, h7, h8⟩ => ⟨h1, h2, h3, h4, h5, (fun p h => by cases h), h7, h8⟩
theorem Lay.lt {t : St} : ∀ {a : T} {u : Option Int}, Lay t a u → ∀ x ∈ a.ids, x < t.ns.length
  | E, _, _, x, hx => by cases hx
  | B c l y r, u, ⟨h1, h2, h3, h4, h5, h6, h7, h8⟩, x, hx => by
    rcases List.mem_append.1 hx with hx | hx
    · exact h7.lt x hx
    · rcases List.mem_cons.1 hx with rfl | hx
      · exact h1
      · exact h8.lt x hx
theorem rt_cases (a : T) : a.rt = -1 ∧ a = E ∨ ∃ c l x r, a = B c l x r ∧ a.rt = x := by
  cases a with
  | E => exact Or.inl ⟨rfl, rfl⟩
  | B c l x r => exact Or.inr ⟨c, l, x, r, rfl, rfl⟩
structure F where
  c : Bool
  x : Nat
  s : Bool
  o : T
def upC : List F → Int
  | [] => -1
  | f :: _ => f.x
def sideC : List F → Bool
  | [] => false
  | f :: _ => f.s
def idsC : List F → List Nat
  | [] => []
  | f :: C => f.x :: (f.o.ids ++ idsC C)
def fillF (f : F) (a : T) : T := if f.s then B f.c f.o f.x a else B f.c a f.x f.o
def plug : List F → T → T
  | [], a => a
  | f :: C, a => plug C (fillF f a)
def LayC (t : St) : List F → Option Int → Prop
  | [], k => ∀ y, k = some y → t.rt = y
  | f :: C, k => f.x < t.ns.length ∧ (gn t f.x).inn = true ∧ (gn t f.x).red = f.c ∧ (∀ y, k = some y → kidA t f.x f.s = y) ∧ kidA t f.x (!f.s) = f.o.rt ∧ (gn t f.x).u = upC C ∧ Lay t f.o (some f.x) ∧ LayC t C (some f.x)
theorem LayC.congr {t t' : St} (hl : t'.ns.length = t.ns.length) (hr : t'.rt = t.rt) : ∀ {C : List F} {k : Option Int}, (∀ x ∈ idsC C, gn t' x = gn t x) → LayC t C k → LayC t' C k
  | [], k, _, h => fun y hy => by rw [hr]; exact h y hy
  | f :: C, k, h, ⟨h1, h2, h3, h4, h5, h6, h7, h8⟩ => by
    have hx := h f.x (by simp [idsC])
    have hk : ∀ s, kidA t' f.x s = kidA t f.x s := fun s => by unfold kidA; rw [Int.toNat_natCast, hx]
    refine ⟨by rw [hl]; exact h1, by rw [hx]; exact h2, by rw [hx]; exact h3, by rw [hk]; exact h4, by rw [hk]; exact h5, by rw [hx]; exact h6, ?_, ?_⟩
    · exact Lay.congr hl (fun y hy => h y (by simp [idsC, hy])) h7
    · exact LayC.congr hl hr (fun y hy => h y (by simp [idsC, hy])) h8
theorem fill_rt (f : F) (a : T) : (fillF f a).rt = f.x := by unfold fillF; split <;> rfl
theorem fill_ids (f : F) (a : T) : (fillF f a).ids.Perm (a.ids ++ f.x :: f.o.ids) := by
  unfold fillF
  split
  · show (f.o.ids ++ f.x :: a.ids).Perm _
    refine List.perm_append_comm.trans ?_
    show (f.x :: a.ids ++ f.o.ids).Perm (a.ids ++ f.x :: f.o.ids)
    exact List.perm_middle.symm
  · exact List.Perm.refl _
theorem plug_ids : ∀ (C : List F) (a : T), (plug C a).ids.Perm (a.ids ++ idsC C)
  | [], a => by rw [idsC, List.append_nil]; exact List.Perm.refl _
  | f :: C, a => by
    refine (plug_ids C (fillF f a)).trans ?_
    refine ((fill_ids f a).append_right _).trans ?_
    rw [List.append_assoc]
    exact List.Perm.refl _
theorem lay_fill {t : St} {f : F} {a : T} {u : Int} : Lay t (fillF f a) (some u) ↔ f.x < t.ns.length ∧ (gn t f.x).inn = true ∧ (gn t f.x).red = f.c ∧ kidA t f.x f.s = a.rt ∧ kidA t f.x (!f.s) = f.o.rt ∧ (gn t f.x).u = u ∧ Lay t f.o (some f.x) ∧ Lay t a (some f.x) := by
  unfold fillF kidA
  rw [Int.toNat_natCast]
  cases hs : f.s with
  | false =>
    constructor
    · intro ⟨h1, h2, h3, h4, h5, h6, h7, h8⟩
      exact ⟨h1, h2, h3, h4, h5, h6 _ rfl, h8, h7⟩
    · intro ⟨h1, h2, h3, h4, h5, h6, h7, h8⟩
      exact ⟨h1, h2, h3, h4, h5, fun p hp => by rw [← Option.some.inj hp]; exact h6, h8, h7⟩
  | true =>
    constructor
    · intro ⟨h1, h2, h3, h4, h5, h6, h7, h8⟩
      exact ⟨h1, h2, h3, h5, h4, h6 _ rfl, h7, h8⟩
    · intro ⟨h1, h2, h3, h4, h5, h6, h7, h8⟩
      exact ⟨h1, h2, h3, h5, h4, fun p hp => by rw [← Option.some.inj hp]; exact h6, h7, h8⟩
theorem lay_plug {t : St} : ∀ {C : List F} {a : T}, (Lay t (plug C a) (some (-1)) ∧ t.rt = (plug C a).rt) ↔ (LayC t C (some a.rt) ∧ Lay t a (some (upC C)))
  | [], a => by
    constructor
    · intro ⟨h1, h2⟩
      exact ⟨fun y hy => by rw [← Option.some.inj hy]; exact h2, h1⟩
    · intro ⟨h1, h2⟩
      exact ⟨h2, h1 _ rfl⟩
  | f :: C, a => by
    show (Lay t (plug C (fillF f a)) (some (-1)) ∧ t.rt = (plug C (fillF f a)).rt) ↔ _
    rw [lay_plug (C := C) (a := fillF f a), lay_fill, fill_rt]
    constructor
    · intro ⟨h0, h1, h2, h3, h4, h5, h6, h7, h8⟩
      exact ⟨⟨h1, h2, h3, fun y hy => by rw [← Option.some.inj hy]; exact h4, h5, h6, h7, h0⟩, h8⟩
    · intro ⟨⟨h1, h2, h3, h4, h5, h6, h7, h0⟩, h8⟩
      exact ⟨h0, h1, h2, h3, h4 _ rfl, h5, h6, h7, h8⟩
theorem hang1_len (t : St) (x : Int) (s : Bool) (y : Int) : (hang1 t x s y).ns.length = t.ns.length := by unfold hang1; split <;> simp [sn]
theorem hang_len (t : St) (x : Int) (s : Bool) (y : Int) : (hangA t x s y).ns.length = t.ns.length := by
  unfold hangA hang2
  split
  · rw [sn_len, hang1_len]
  · exact hang1_len _ _ _ _
theorem hang_rt (t : St) (x : Int) (s : Bool) (y : Int) : (hangA t x s y).rt = if x < 0 then y else t.rt := by
  unfold hangA hang2 hang1
  split <;> split <;> rfl
theorem hang1_gn {t : St} {x : Int} (s : Bool) (y : Int) (hx : 0 ≤ x → x.toNat < t.ns.length) (z : Nat) : gn (hang1 t x s y) z = if 0 ≤ x ∧ z = x.toNat then setKid (gn t z) s y else gn t z := by
  unfold hang1
  by_cases h : x < 0
  · rw [if_pos h, if_neg (by omega)]
    rfl
  · rw [if_neg h, gn_sn _ _ _ _ (hx (by omega))]
    by_cases e : z = x.toNat
    · rw [if_pos e, if_pos ⟨by omega, e⟩, e]
    · rw [if_neg e, if_neg (fun h => e h.2)]
theorem hang_gn {t : St} {x : Int} (s : Bool) {y : Int} (hx : 0 ≤ x → x.toNat < t.ns.length) (hy : 0 ≤ y → y.toNat < t.ns.length) (z : Nat) :
    gn (hangA t x s y) z = if 0 ≤ y ∧ z = y.toNat then { gn (hang1 t x s y) z with u := x } else gn (hang1 t x s y) z := by
  unfold hangA hang2
  by_cases h : 0 ≤ y
  · rw [if_pos h, gn_sn _ _ _ _ (by rw [hang1_len]; exact hy h)]
    by_cases e : z = y.toNat
    · rw [if_pos e, if_pos ⟨h, e⟩, e]
    · rw [if_neg e, if_neg (fun h => e h.2)]
  · rw [if_neg h, if_neg (fun h2 => h h2.1)]
theorem hang1_v {t : St} {x : Int} (s : Bool) (y : Int) (hx : 0 ≤ x → x.toNat < t.ns.length) (z : Nat) : (gn (hang1 t x s y) z).v = (gn t z).v := by
  rw [hang1_gn s y hx]
  split
  · unfold setKid
    split <;> rfl
  · rfl
theorem hang_v {t : St} {x : Int} (s : Bool) {y : Int} (hx : 0 ≤ x → x.toNat < t.ns.length) (hy : 0 ≤ y → y.toNat < t.ns.length) (z : Nat) : (gn (hangA t x s y) z).v = (gn t z).v := by
  rw [hang_gn s hx hy]
  split
  · exact hang1_v s y hx z
  · exact hang1_v s y hx z
theorem LayC.lt {t : St} : ∀ {C : List F} {k : Option Int}, LayC t C k → ∀ x ∈ idsC C, x < t.ns.length
  | [], _, _, x, hx => by cases hx
  | f :: C, k, ⟨h1, h2, h3, h4, h5, h6, h7, h8⟩, x, hx => by
    rcases List.mem_cons.1 hx with rfl | hx
    · exact h1
    · rcases List.mem_append.1 hx with hx | hx
      · exact h7.lt x hx
      · exact h8.lt x hx
theorem rt_lt {t : St} {a : T} (ha : Lay t a none) : 0 ≤ a.rt → a.rt.toNat < t.ns.length := fun h => by
  cases a with
  | E => exact absurd h (by show ¬ (0 : Int) ≤ -1; omega)
  | B c l x r => exact ha.1
theorem upC_lt {t : St} {C : List F} {k : Option Int} (h : LayC t C k) : 0 ≤ upC C → (upC C).toNat < t.ns.length := fun h0 => by
  cases C with
  | nil => exact absurd h0 (by show ¬ (0 : Int) ≤ -1; omega)
  | cons f C => exact h.1
theorem hang_keepY {t : St} {C : List F} {k : Option Int} {y : Int} {s : Bool} (hC : LayC t C k) (hy : 0 ≤ y → y.toNat < t.ns.length) (z : Nat) (h1 : (z : Int) ≠ upC C) (h2 : (z : Int) ≠ y) : gn (hangA t (upC C) s y) z = gn t z := by
  rw [hang_gn s (upC_lt hC) hy, if_neg (fun h => h2 (by omega)), hang1_gn _ _ (upC_lt hC), if_neg (fun h => h1 (by omega))]
theorem hang_keep {t : St} {C : List F} {k : Option Int} {a : T} {s : Bool} (hC : LayC t C k) (ha : Lay t a none) (z : Nat) (h1 : (z : Int) ≠ upC C) (h2 : (z : Int) ≠ a.rt) : gn (hangA t (upC C) s a.rt) z = gn t z := hang_keepY hC (rt_lt ha) z h1 h2
theorem up_mem {C : List F} (z : Nat) (hz : (z : Int) = upC C) : z ∈ idsC C := by
  cases C with
  | nil => exact absurd hz (by show ¬ (z : Int) = -1; omega)
  | cons f C =>
    have e : (z : Int) = (f.x : Int) := hz
    have e2 : z = f.x := by omega
    subst e2; simp [idsC]
theorem hang_layC {t : St} {C : List F} {y : Int} (hC : LayC t C none) (hy : 0 ≤ y → y.toNat < t.ns.length) (hd : ∀ z : Nat, (z : Int) = y → z ∉ idsC C) (hn : (idsC C).Nodup) : LayC (hangA t (upC C) (sideC C) y) C (some y) := by
  have hlen := hang_len t (upC C) (sideC C) y
  have hkeep : ∀ z : Nat, (z : Int) ≠ upC C → (z : Int) ≠ y → gn (hangA t (upC C) (sideC C) y) z = gn t z := fun z h1 h2 => hang_keepY hC hy z h1 h2
  have hgu := fun z => hang_gn (sideC C) (upC_lt hC) hy z
  have hg1 := fun z => hang1_gn (sideC C) y (upC_lt hC) z
  cases C with
  | nil =>
    intro y hy
    rw [← Option.some.inj hy, hang_rt, if_pos (by show (-1 : Int) < 0; omega)]
  | cons f C =>
    obtain ⟨h1, h2, h3, h4, h5, h6, h7, h8⟩ := hC
    have hn1 := List.nodup_cons.1 hn
    have hfx : gn (hangA t (upC (f :: C)) (sideC (f :: C)) y) f.x = setKid (gn t f.x) f.s y := by
      rw [hgu, if_neg (fun h => hd f.x (by omega) (by simp [idsC])), hg1, if_pos ⟨by show (0 : Int) ≤ (f.x : Int); omega, by show f.x = ((f.x : Int)).toNat; omega⟩]
      rfl
    have hin : (setKid (gn t f.x) f.s y).inn = (gn t f.x).inn ∧ (setKid (gn t f.x) f.s y).red = (gn t f.x).red ∧ (setKid (gn t f.x) f.s y).u = (gn t f.x).u := by unfold setKid; split <;> exact ⟨rfl, rfl, rfl⟩
    refine ⟨by rw [hlen]; exact h1, by rw [hfx, hin.1]; exact h2, by rw [hfx, hin.2.1]; exact h3, fun y hy => ?_, ?_, by rw [hfx, hin.2.2]; exact h6, ?_, ?_⟩
    · rw [← Option.some.inj hy]
      unfold kidA
      rw [Int.toNat_natCast, hfx]
      unfold setKid
      cases f.s <;> rfl
    · rw [← h5]
      unfold kidA
      rw [Int.toNat_natCast, hfx]
      unfold setKid
      cases f.s <;> rfl
    · refine Lay.congr hlen (fun z hz => hkeep z ?_ ?_) h7
      · intro e
        have e2 : (z : Int) = (f.x : Int) := e
        have e3 : z = f.x := by omega
        subst e3
        exact hn1.1 (List.mem_append_left _ hz)
      · intro e
        exact hd z e (by simp [idsC, hz])
    · refine LayC.congr hlen (by rw [hang_rt, if_neg (by show ¬ (f.x : Int) < 0; omega)]) (fun z hz => hkeep z ?_ ?_) h8
      · intro e
        have e2 : (z : Int) = (f.x : Int) := e
        have e3 : z = f.x := by omega
        subst e3
        exact hn1.1 (List.mem_append_right _ hz)
      · intro e
        exact hd z e (by simp [idsC, hz])
theorem hang_lay {t : St} {C : List F} {a : T} (hC : LayC t C none) (ha : Lay t a none) (hd : ∀ x ∈ a.ids, x ∉ idsC C) (hn : (idsC C).Nodup) (hna : a.ids.Nodup) :
    LayC (hangA t (upC C) (sideC C) a.rt) C (some a.rt) ∧ Lay (hangA t (upC C) (sideC C) a.rt) a (some (upC C)) := by
  have hrt : ∀ z : Nat, (z : Int) = a.rt → z ∈ a.ids := fun z hz => by
    cases a with
    | E => exact absurd hz (by show ¬ (z : Int) = -1; omega)
    | B c l x r => have : z = x := by have : (z : Int) = (x : Int) := hz; omega
                   subst this; simp [T.ids]
  have hup : ∀ z : Nat, (z : Int) = upC C → z ∈ idsC C := fun z hz => up_mem z hz
  have hlen := hang_len t (upC C) (sideC C) a.rt
  have hkeep : ∀ z : Nat, (z : Int) ≠ upC C → (z : Int) ≠ a.rt → gn (hangA t (upC C) (sideC C) a.rt) z = gn t z := fun z h1 h2 => hang_keep hC ha z h1 h2
  have hgu := fun z => hang_gn (sideC C) (upC_lt hC) (rt_lt ha) z
  have hg1 := fun z => hang1_gn (sideC C) a.rt (upC_lt hC) z
  constructor
  · exact hang_layC hC (rt_lt ha) (fun z hz => hd z (hrt z hz)) hn
  · cases a with
    | E => trivial
    | B c l x r =>
      obtain ⟨h1, h2, h3, h4, h5, h6, h7, h8⟩ := ha
      have hxu : (x : Int) ≠ upC C := fun e => hd x (by simp [T.ids]) (hup x e)
      have hx : gn (hangA t (upC C) (sideC C) (B c l x r).rt) x = { gn t x with u := upC C } := by
        rw [hgu, if_pos ⟨by show (0 : Int) ≤ (x : Int); omega, by show x = ((x : Int)).toNat; omega⟩, hg1, if_neg (fun h => hxu (by omega))]
      have hna2 : (l.ids ++ x :: r.ids).Nodup := hna
      rw [List.nodup_append] at hna2
      have hsub : ∀ z, z ∈ l.ids ∨ z ∈ r.ids → gn (hangA t (upC C) (sideC C) (B c l x r).rt) z = gn t z := fun z hz => by
        have hzi : z ∈ (B c l x r).ids := by rcases hz with hz | hz <;> simp [T.ids, hz]
        refine hkeep z (fun e => hd z hzi (hup z e)) (fun e => ?_)
        have e2 : z = x := by have : (z : Int) = (x : Int) := e; omega
        subst e2
        rcases hz with hz | hz
        · exact hna2.2.2 z hz z List.mem_cons_self rfl
        · exact (List.nodup_cons.1 hna2.2.1).1 hz
      refine ⟨by rw [hlen]; exact h1, by rw [hx]; exact h2, by rw [hx]; exact h3, by rw [hx]; exact h4, by rw [hx]; exact h5, fun p hp => by rw [hx, ← Option.some.inj hp], ?_, ?_⟩
      · exact Lay.congr hlen (fun z hz => hsub z (Or.inl hz)) h7
      · exact Lay.congr hlen (fun z hz => hsub z (Or.inr hz)) h8
def nd (s : Bool) (c : Bool) (x : Nat) (p q : T) : T := fillF ⟨c, x, s, q⟩ p
theorem LayC.loose {t : St} : ∀ {C : List F} {k : Option Int}, LayC t C k → LayC t C none
  | [], _, _ => fun y hy => by cases hy
  | f :: C, k, ⟨h1, h2, h3, h4, h5, h6, h7, h8⟩ => ⟨h1, h2, h3, (fun y hy => by cases hy), h5, h6, h7, h8⟩
theorem hang_ctx {t : St} {C : List F} {f : F} (hC : LayC t C none) (h1 : f.x < t.ns.length) (h2 : (gn t f.x).inn = true) (h3 : (gn t f.x).red = f.c) (h5 : kidA t f.x (!f.s) = f.o.rt) (h7 : Lay t f.o (some f.x)) (hn : (idsC (f :: C)).Nodup) :
    LayC (hangA t (upC C) (sideC C) f.x) (f :: C) none := by
  have hn1 := List.nodup_cons.1 hn
  have hn2 := (List.nodup_append.1 hn1.2)
  have hlen := hang_len t (upC C) (sideC C) f.x
  have hy : 0 ≤ (f.x : Int) → ((f.x : Int)).toNat < t.ns.length := fun _ => h1
  have hxC : f.x ∉ idsC C := fun h => hn1.1 (List.mem_append_right _ h)
  have hc := hang_layC (y := (f.x : Int)) hC hy (fun z hz => by have e : z = f.x := by omega
                                                                subst e; exact hxC) hn2.2.1
  have hx : gn (hangA t (upC C) (sideC C) f.x) f.x = { gn t f.x with u := upC C } := by
    rw [hang_gn (sideC C) (upC_lt hC) hy, if_pos ⟨by omega, by omega⟩, hang1_gn _ _ (upC_lt hC), if_neg (fun h => hxC (up_mem f.x (by omega)))]
  refine ⟨by rw [hlen]; exact h1, by rw [hx]; exact h2, by rw [hx]; exact h3, (fun y hy => by cases hy), ?_, by rw [hx], ?_, hc⟩
  · rw [← h5]
    unfold kidA
    rw [Int.toNat_natCast, hx]
  · refine Lay.congr hlen (fun z hz => hang_keepY hC hy z (fun e => ?_) (fun e => ?_)) h7
    · exact hn2.2.2 z hz z (up_mem z e) rfl
    · have e3 : z = f.x := by omega
      subst e3
      exact hn1.1 (List.mem_append_left _ hz)
theorem on_side {t : St} {C : List F} {x : Nat} (hC : LayC t C (some (x : Int))) (hx : (gn t x).u = upC C) (hd : x ∉ idsC C) : onA t x = sideC C := by
  unfold onA
  rw [Int.toNat_natCast, hx]
  cases C with
  | nil => exact decide_eq_false (fun h => by have := h.1; exact absurd this (by show ¬ (0 : Int) ≤ -1; omega))
  | cons f C =>
    obtain ⟨h1, h2, h3, h4, h5, h6, h7, h8⟩ := hC
    show decide (0 ≤ (f.x : Int) ∧ kidA t f.x true = x) = f.s
    cases hs : f.s with
    | true => rw [hs] at h4; exact decide_eq_true ⟨by omega, h4 _ rfl⟩
    | false =>
      rw [hs] at h5
      refine decide_eq_false (fun h => hd ?_)
      have e : f.o.rt = (x : Int) := by rw [← h5]; exact h.2
      rcases rt_cases f.o with ⟨e2, _⟩ | ⟨c, l, z, r, e2, e3⟩
      · omega
      · have e4 : x = z := by omega
        subst e4
        simp [idsC, e2, T.ids]
theorem nd_rt (s c : Bool) (x : Nat) (p q : T) : (nd s c x p q).rt = x := fill_rt _ _
theorem nd_ids (s c : Bool) (x : Nat) (p q : T) : (nd s c x p q).ids.Perm (p.ids ++ x :: q.ids) := fill_ids _ _
theorem rt_mem {a : T} (z : Nat) (hz : (z : Int) = a.rt) : z ∈ a.ids := by
  cases a with
  | E => exact absurd hz (by show ¬ (z : Int) = -1; omega)
  | B c l x r =>
    have e : (z : Int) = (x : Int) := hz
    have e2 : z = x := by omega
    subst e2; simp [T.ids]
theorem turn_lay {t : St} {C : List F} {s cx cy : Bool} {x y : Nat} {b d e : T} (hC : LayC t C (some (x : Int))) (hL : Lay t (nd (!s) cx x (nd s cy y b d) e) (some (upC C))) (hN : (b.ids ++ (y :: (d.ids ++ (x :: (e.ids ++ idsC C))))).Nodup) :
    LayC (turnA t x s) C (some (y : Int)) ∧ Lay (turnA t x s) (nd s cy y (nd (!s) cx x b e) d) (some (upC C)) ∧ (turnA t x s).ns.length = t.ns.length ∧ ∀ z, (gn (turnA t x s) z).v = (gn t z).v ∧ (z ∉ b.ids ++ (y :: (d.ids ++ (x :: (e.ids ++ idsC C)))) → gn (turnA t x s) z = gn t z) := by
  obtain ⟨nb, n1, db⟩ := List.nodup_append.1 hN
  obtain ⟨yn, n2⟩ := List.nodup_cons.1 n1
  obtain ⟨ndd, n3, dd⟩ := List.nodup_append.1 n2
  obtain ⟨xn, n4⟩ := List.nodup_cons.1 n3
  obtain ⟨ne, nC, de⟩ := List.nodup_append.1 n4
  obtain ⟨x1, x2, x3, x4, x5, x6, x7, hY⟩ := lay_fill.1 hL
  obtain ⟨y1, y2, y3, y4, y5, y6, y7, y8⟩ := lay_fill.1 hY
  simp only at x1 x2 x3 x4 x5 x6 x7 y1 y2 y3 y4 y5 y6 y7 y8
  rw [nd_rt] at x4
  rw [Bool.not_not] at x5
  have hyx : y ≠ x := fun e => yn (by rw [e]; simp)
  have hbx : ∀ z ∈ b.ids, z ≠ x := fun z hz => db z hz x (by simp)
  have hby : ∀ z ∈ b.ids, z ≠ y := fun z hz => db z hz y (by simp)
  have hdx : ∀ z ∈ d.ids, z ≠ x := fun z hz => dd z hz x (by simp)
  have hdb : ∀ z ∈ d.ids, z ∉ b.ids := fun z hz h => db z h z (by simp [hz]) rfl
  have hyb : y ∉ b.ids := fun h => db y h y (by simp) rfl
  have hyC : y ∉ idsC C := fun h => yn (by simp [h])
  have hxC : x ∉ idsC C := fun h => xn (by simp [h])
  -- the first
  have hC1 : LayC t (⟨cx, x, !s, e⟩ :: C) none := ⟨x1, x2, x3, (fun y hy => by cases hy), by simp only [Bool.not_not]; exact x5, x6, x7, hC⟩
  have hon := on_side hC x6 hxC
  obtain ⟨k1, k2⟩ := hang_lay hC1 y8.loose (fun z hz h => by
    rcases List.mem_cons.1 h with h | h
    · exact hbx z hz h
    · exact db z hz z (by simp [h]) rfl) n3 nb
  have keep1 : ∀ z : Nat, z ≠ x → z ∉ b.ids → gn (hangA t (x : Int) (!s) b.rt) z = gn t z := fun z h1 h2 => hang_keep (s := !s) hC1 y8.loose z (fun e => h1 (by have e2 : (z : Int) = (x : Int) := e; omega)) (fun e => h2 (rt_mem z e))
  have len1 := hang_len t (x : Int) (!s) b.rt
  have v1 : ∀ z, (gn (hangA t (x : Int) (!s) b.rt) z).v = (gn t z).v := fun z => hang_v (t := t) (x := (x : Int)) (!s) (fun _ => x1) (rt_lt y8.loose) z
  change LayC (hangA t (x : Int) (!s) b.rt) _ _ at k1
  change Lay (hangA t (x : Int) (!s) b.rt) _ _ at k2
  have htu : turnA t x s = hangA (hangA (hangA t (x : Int) (!s) b.rt) (upC C) (sideC C) (y : Int)) (y : Int) s (x : Int) := by
    unfold turnA
    rw [x4, y4, Int.toNat_natCast, x6, hon]
  rw [htu]
  generalize hangA t (x : Int) (!s) b.rt = t1 at k1 k2 keep1 len1 v1 ⊢
  have gy := keep1 y hyx hyb
  have kx := (lay_fill (t := t1) (f := ⟨cx, x, !s, e⟩) (a := b) (u := upC C)).2 (show x < t1.ns.length ∧ (gn t1 x).inn = true ∧ (gn t1 x).red = cx ∧ kidA t1 x (!s) = b.rt ∧ kidA t1 x (!(!s)) = e.rt ∧ (gn t1 x).u = upC C ∧ Lay t1 e (some (x : Int)) ∧ Lay t1 b (some (x : Int)) from ⟨k1.1, k1.2.1, k1.2.2.1, k1.2.2.2.1 _ rfl, k1.2.2.2.2.1, k1.2.2.2.2.2.1, k1.2.2.2.2.2.2.1, k2⟩)
  -- the second
  have hC2 : LayC t1 C none := k1.2.2.2.2.2.2.2.loose
  have nY : (idsC (⟨cy, y, s, d⟩ :: C)).Nodup := List.nodup_cons.2 ⟨fun h => by
    rcases List.mem_append.1 h with h | h
    · exact yn (by simp [h])
    · exact hyC h, List.nodup_append.2 ⟨ndd, nC, fun a ha z hz => dd a ha z (by simp [hz])⟩⟩
  have k3 := hang_ctx (f := ⟨cy, y, s, d⟩) hC2 (by rw [len1]; exact y1) (by rw [gy]; exact y2) (by rw [gy]; exact y3) (by
    show kidA t1 (y : Int) (!s) = d.rt
    rw [← y5]; unfold kidA; rw [Int.toNat_natCast, gy]) (Lay.congr len1 (fun z hz => keep1 z (hdx z hz) (hdb z hz)) y7) nY
  have keep2 : ∀ z : Nat, z ∉ idsC C → z ≠ y → gn (hangA t1 (upC C) (sideC C) (y : Int)) z = gn t1 z := fun z h1 h2 => hang_keepY hC2 (fun _ => by rw [len1]; exact y1) z (fun e => h1 (up_mem z e)) (fun e => h2 (by omega))
  have len2 := hang_len t1 (upC C) (sideC C) (y : Int)
  have v2 : ∀ z, (gn (hangA t1 (upC C) (sideC C) (y : Int)) z).v = (gn t1 z).v := fun z => hang_v (sideC C) (upC_lt hC2) (fun _ => by rw [len1]; exact y1) z
  change LayC (hangA t1 (upC C) (sideC C) (y : Int)) _ _ at k3
  generalize hangA t1 (upC C) (sideC C) (y : Int) = t2 at k3 keep2 len2 v2 ⊢
  have hmem : ∀ z ∈ (nd (!s) cx x b e).ids, z ∈ b.ids ∨ z = x ∨ z ∈ e.ids := fun z hz => by
    rcases List.mem_append.1 ((nd_ids _ _ _ _ _).mem_iff.1 hz) with h | h
    · exact Or.inl h
    · rcases List.mem_cons.1 h with h | h
      · exact Or.inr (Or.inl h)
      · exact Or.inr (Or.inr h)
  have hnC : ∀ z ∈ (nd (!s) cx x b e).ids, z ∉ idsC C := fun z hz h => by
    rcases hmem z hz with h1 | h1 | h1
    · exact db z h1 z (by simp [h]) rfl
    · subst h1; exact hxC h
    · exact de z h1 z h rfl
  have hny : ∀ z ∈ (nd (!s) cx x b e).ids, z ≠ y := fun z hz h => by
    subst h
    rcases hmem z hz with h1 | h1 | h1
    · exact hyb h1
    · exact hyx h1
    · exact yn (by simp [h1])
  have hnd : ∀ z ∈ (nd (!s) cx x b e).ids, z ∉ d.ids := fun z hz h => by
    rcases hmem z hz with h1 | h1 | h1
    · exact hdb z h h1
    · exact hdx z h h1
    · exact dd z h z (by simp [h1]) rfl
  have kx2 := Lay.congr len2 (fun z hz => keep2 z (hnC z hz) (hny z hz)) kx
  -- the third
  obtain ⟨k4, k5⟩ := hang_lay k3 kx2.loose (fun z hz h => by
    rcases List.mem_cons.1 h with h | h
    · exact hny z hz h
    · rcases List.mem_append.1 h with h | h
      · exact hnd z hz h
      · exact hnC z hz h) nY ((nd_ids _ _ _ _ _).nodup_iff.2 (List.nodup_append.2 ⟨nb, List.nodup_cons.2 ⟨fun h => xn (by simp [h]), ne⟩, fun a ha z hz => db a ha z (by
        rcases List.mem_cons.1 hz with h | h
        · simp [h]
        · simp [h])⟩))
  have len3 := hang_len t2 (y : Int) s (x : Int)
  have hy2 : 0 ≤ (y : Int) → ((y : Int)).toNat < t2.ns.length := fun _ => by rw [len2, len1]; exact y1
  have hx2 : 0 ≤ (x : Int) → ((x : Int)).toNat < t2.ns.length := fun _ => by rw [len2, len1]; exact x1
  have v3 : ∀ z, (gn (hangA t2 (y : Int) s (x : Int)) z).v = (gn t2 z).v := fun z => hang_v s hy2 hx2 z
  have keep3 : ∀ z : Nat, z ≠ y → z ≠ x → gn (hangA t2 (y : Int) s (x : Int)) z = gn t2 z := fun z h1 h2 => by
    rw [hang_gn s hy2 hx2, if_neg (fun h => h2 (by omega)), hang1_gn _ _ hy2, if_neg (fun h => h1 (by omega))]
  have er : (fillF ⟨cx, x, !s, e⟩ b).rt = (x : Int) := fill_rt _ _
  change LayC (hangA t2 (y : Int) s (fillF ⟨cx, x, !s, e⟩ b).rt) _ _ at k4
  change Lay (hangA t2 (y : Int) s (fillF ⟨cx, x, !s, e⟩ b).rt) _ _ at k5
  rw [er] at k4 k5
  generalize hangA t2 (y : Int) s (x : Int) = t3 at k4 k5 len3 v3 keep3 ⊢
  refine ⟨k4.2.2.2.2.2.2.2, lay_fill.2 ⟨k4.1, k4.2.1, k4.2.2.1, ?_, k4.2.2.2.2.1, k4.2.2.2.2.2.1, k4.2.2.2.2.2.2.1, k5⟩, by rw [len3, len2, len1], fun z => ⟨by rw [v3, v2, v1], fun hz => ?_⟩⟩
  · show kidA t3 (y : Int) s = (nd (!s) cx x b e).rt
    rw [nd_rt]
    exact k4.2.2.2.1 _ (congrArg some (nd_rt _ _ _ _ _))
  · simp only [List.mem_append, List.mem_cons, not_or] at hz
    rw [keep3 z hz.2.1 hz.2.2.2.1, keep2 z hz.2.2.2.2.2 hz.2.1, keep1 z hz.2.2.2.1 hz.1]
def paintA (t : St) (b : Bool) (x : Int) : St := if 0 ≤ x then sn t x.toNat { gn t x.toNat with red := b } else t
theorem paint_len (t : St) (b : Bool) (x : Int) : (paintA t b x).ns.length = t.ns.length := by
  unfold paintA
  split
  · exact sn_len _ _ _
  · rfl
theorem paint_rt (t : St) (b : Bool) (x : Int) : (paintA t b x).rt = t.rt := by
  unfold paintA
  split <;> rfl
theorem paint_gn {t : St} (b : Bool) {x : Int} (hx : 0 ≤ x → x.toNat < t.ns.length) (z : Nat) : gn (paintA t b x) z = if (z : Int) = x then { gn t z with red := b } else gn t z := by
  unfold paintA
  by_cases h : 0 ≤ x
  · rw [if_pos h, gn_sn _ _ _ _ (hx h)]
    by_cases e : (z : Int) = x
    · rw [if_pos e, if_pos (by omega), show x.toNat = z by omega]
    · rw [if_neg e, if_neg (by omega)]
  · rw [if_neg h, if_neg (by omega)]
theorem paint_keep {t : St} (b : Bool) {x : Int} (hx : 0 ≤ x → x.toNat < t.ns.length) (z : Nat) (h : (z : Int) ≠ x) : gn (paintA t b x) z = gn t z := by rw [paint_gn b hx, if_neg h]
def T.paint (b : Bool) : T → T
  | E => E
  | B _ l x r => B b l x r
theorem paintT_rt (b : Bool) (a : T) : (a.paint b).rt = a.rt := by cases a <;> rfl
theorem paintT_ids (b : Bool) (a : T) : (a.paint b).ids = a.ids := by cases a <;> rfl
theorem paint_lay {t : St} (b : Bool) {a : T} {u : Option Int} (ha : Lay t a u) (hn : a.ids.Nodup) : Lay (paintA t b a.rt) (a.paint b) u := by
  cases a with
  | E => trivial
  | B c l x r =>
    have hx : 0 ≤ (x : Int) → ((x : Int)).toNat < t.ns.length := fun _ => ha.1
    obtain ⟨h1, h2, h3, h4, h5, h6, h7, h8⟩ := ha
    have hn2 : (l.ids ++ x :: r.ids).Nodup := hn
    obtain ⟨n1, n2, n3⟩ := List.nodup_append.1 hn2
    have e : gn (paintA t b (x : Int)) x = { gn t x with red := b } := by rw [paint_gn b hx, if_pos rfl]
    have k : ∀ z, z ∈ l.ids ∨ z ∈ r.ids → gn (paintA t b (x : Int)) z = gn t z := fun z hz => paint_keep b hx z (fun h => by
      have e2 : z = x := by omega
      subst e2
      rcases hz with hz | hz
      · exact n3 z hz z List.mem_cons_self rfl
      · exact (List.nodup_cons.1 n2).1 hz)
    show Lay (paintA t b (x : Int)) (B b l x r) u
    exact ⟨by rw [paint_len]; exact h1, by rw [e]; exact h2, by rw [e], by rw [e]; exact h4, by rw [e]; exact h5, fun p hp => by rw [e]; exact h6 p hp, Lay.congr (paint_len _ _ _) (fun z hz => k z (Or.inl hz)) h7, Lay.congr (paint_len _ _ _) (fun z hz => k z (Or.inr hz)) h8⟩
theorem paint_other {t : St} (b : Bool) {x : Int} {a : T} {u : Option Int} (hx : 0 ≤ x → x.toNat < t.ns.length) (ha : Lay t a u) (h : ∀ z ∈ a.ids, (z : Int) ≠ x) : Lay (paintA t b x) a u :=
  Lay.congr (paint_len _ _ _) (fun z hz => paint_keep b hx z (h z hz)) ha
theorem paint_otherC {t : St} (b : Bool) {x : Int} {C : List F} {k : Option Int} (hx : 0 ≤ x → x.toNat < t.ns.length) (hC : LayC t C k) (h : ∀ z ∈ idsC C, (z : Int) ≠ x) : LayC (paintA t b x) C k :=
  LayC.congr (paint_len _ _ _) (paint_rt _ _ _) (fun z hz => paint_keep b hx z (h z hz)) hC
theorem paint_top {t : St} (b : Bool) {f : F} {C : List F} {k : Option Int} (hC : LayC t (f :: C) k) (hn : (idsC (f :: C)).Nodup) : LayC (paintA t b f.x) ({ f with c := b } :: C) k := by
  have hx : 0 ≤ (f.x : Int) → ((f.x : Int)).toNat < t.ns.length := fun _ => hC.1
  obtain ⟨h1, h2, h3, h4, h5, h6, h7, h8⟩ := hC
  have hn1 := (List.nodup_cons.1 hn).1
  have e : gn (paintA t b (f.x : Int)) f.x = { gn t f.x with red := b } := by rw [paint_gn b hx, if_pos rfl]
  have ek : ∀ s, kidA (paintA t b (f.x : Int)) (f.x : Int) s = kidA t (f.x : Int) s := fun s => by unfold kidA; rw [Int.toNat_natCast, e]
  refine ⟨by rw [paint_len]; exact h1, by rw [e]; exact h2, by rw [e], fun y hy => by rw [ek]; exact h4 y hy, by rw [ek]; exact h5, by rw [e]; exact h6, ?_, ?_⟩
  · refine paint_other b hx h7 (fun z hz h => hn1 ?_)
    have e2 : z = f.x := by omega
    subst e2
    exact List.mem_append_left _ hz
  · refine paint_otherC b hx h8 (fun z hz h => hn1 ?_)
    have e2 : z = f.x := by omega
    subst e2
    exact List.mem_append_right _ hz
def RB : T → Nat → Prop
  | E, n => n = 0
  | B c l _ r, n => (c = true → l.red = false ∧ r.red = false) ∧ ∃ m, RB l m ∧ RB r m ∧ n = if c then m else m + 1
def topred : List F → Bool
  | [] => false
  | f :: _ => f.c
def CB : List F → Nat → Prop
  | [], _ => True
  | f :: C, n => RB f.o n ∧ (f.c = true → f.o.red = false ∧ C ≠ [] ∧ topred C = false) ∧ CB C (if f.c then n else n + 1)
theorem RB_fill {f : F} {a : T} {n : Nat} : RB (fillF f a) n ↔ (f.c = true → a.red = false ∧ f.o.red = false) ∧ ∃ m, RB a m ∧ RB f.o m ∧ n = if f.c then m else m + 1 := by
  unfold fillF
  cases f.s with
  | false => exact Iff.rfl
  | true =>
    constructor
    · intro ⟨h1, m, h2, h3, h4⟩
      exact ⟨fun c => ⟨(h1 c).2, (h1 c).1⟩, m, h3, h2, h4⟩
    · intro ⟨h1, m, h2, h3, h4⟩
      exact ⟨fun c => ⟨(h1 c).2, (h1 c).1⟩, m, h3, h2, h4⟩
theorem fill_red (f : F) (a : T) : (fillF f a).red = f.c := by unfold fillF; split <;> rfl
theorem RB_plug : ∀ {C : List F} {a : T} {n : Nat}, CB C n → RB a n → (topred C = true → a.red = false) → ∃ m, RB (plug C a) m
  | [], a, n, _, h, _ => ⟨n, h⟩
  | f :: C, a, n, ⟨h1, h2, h3⟩, h, hr => RB_plug (C := C) (a := fillF f a) h3 (RB_fill.2 ⟨fun c => ⟨hr c, (h2 c).1⟩, n, h, h1, rfl⟩) (fun c => by
    rw [fill_red]
    cases hc : f.c with
    | false => rfl
    | true => rw [(h2 hc).2.2] at c; cases c)
theorem RB_parts : ∀ {C : List F} {a : T} {m : Nat}, RB (plug C a) m → (plug C a).red = false → ∃ n, CB C n ∧ RB a n ∧ (topred C = true → a.red = false) ∧ (C = [] → a.red = false)
  | [], a, m, h, hr => ⟨m, trivial, h, (fun c => by cases c), fun _ => hr⟩
  | f :: C, a, m, h, hr => by
    obtain ⟨n, h1, h2, h3, h4⟩ := RB_parts (C := C) (a := fillF f a) h hr
    obtain ⟨k1, k, k2, k3, k4⟩ := RB_fill.1 h2
    rw [fill_red] at h3 h4
    refine ⟨k, ⟨k3, fun c => ⟨(k1 c).2, fun e => ?_, ?_⟩, by rw [← k4]; exact h1⟩, k2, fun c => (k1 c).1, fun e => by cases e⟩
    · rw [h4 e] at c; cases c
    · cases ht : topred C with
      | false => rfl
      | true => rw [h3 ht] at c; cases c
def leftC : List F → List Nat
  | [] => []
  | f :: C => leftC C ++ if f.s then f.o.ids ++ [f.x] else []
def rightC : List F → List Nat
  | [] => []
  | f :: C => (if f.s then [] else f.x :: f.o.ids) ++ rightC C
theorem plug_walk : ∀ (C : List F) (a : T), (plug C a).ids = leftC C ++ (a.ids ++ rightC C)
  | [], a => by simp [plug, leftC, rightC]
  | f :: C, a => by
    show (plug C (fillF f a)).ids = _
    rw [plug_walk C (fillF f a)]
    show _ = (leftC C ++ if f.s then f.o.ids ++ [f.x] else []) ++ (a.ids ++ ((if f.s then [] else f.x :: f.o.ids) ++ rightC C))
    unfold fillF
    cases f.s <;> simp [T.ids]
structure Keeps (t t' : St) (S : Nat → Prop) : Prop where
  len : t'.ns.length = t.ns.length
  at_ : ∀ z, (gn t' z).v = (gn t z).v ∧ (¬ S z → gn t' z = gn t z)
theorem Keeps.refl (t : St) (S : Nat → Prop) : Keeps t t S := ⟨rfl, fun z => ⟨rfl, fun _ => rfl⟩⟩
theorem Keeps.trans {t t' t'' : St} {S : Nat → Prop} (h : Keeps t t' S) (k : Keeps t' t'' S) : Keeps t t'' S :=
  ⟨k.len.trans h.len, fun z => ⟨(k.at_ z).1.trans (h.at_ z).1, fun hz => ((k.at_ z).2 hz).trans ((h.at_ z).2 hz)⟩⟩
theorem Keeps.mono {t t' : St} {S S' : Nat → Prop} (h : Keeps t t' S) (k : ∀ z, S z → S' z) : Keeps t t' S' :=
  ⟨h.len, fun z => ⟨(h.at_ z).1, fun hz => (h.at_ z).2 (fun e => hz (k z e))⟩⟩
theorem paint_keeps {t : St} {S : Nat → Prop} (b : Bool) {x : Int} (hx : 0 ≤ x → x.toNat < t.ns.length) (h : ∀ z : Nat, (z : Int) = x → S z) : Keeps t (paintA t b x) S := by
  refine ⟨paint_len _ _ _, fun z => ⟨?_, fun hz => paint_keep b hx z (fun e => hz (h z e))⟩⟩
  rw [paint_gn b hx]
  split <;> rfl
def redA (t : St) (x : Int) : Bool := decide (0 ≤ x) && (gn t x.toNat).red
def upA (t : St) (x : Int) : Int := (gn t x.toNat).u
def turnK (t : St) (x : Int) (s : Bool) (f : St → Option St) : Option St := if 0 ≤ kidA t x (!s) then f (turnA t x s) else none
def mendA : Nat → St → Int → Option St
  | 0, _, _ => none
  | k + 1, t, x =>
    if redA t (upA t x) = true then
      (if 0 ≤ upA t (upA t x) then
        (if redA t (kidA t (upA t (upA t x)) (!onA t (upA t x))) = true then
          mendA k (paintA (paintA (paintA t false (upA t x)) false (kidA t (upA t (upA t x)) (!onA t (upA t x)))) true (upA t (upA t x))) (upA t (upA t x))
        else if onA t x = onA t (upA t x) then
          turnK (paintA (paintA t false (upA t x)) true (upA t (upA t x))) (upA t (upA t x)) (!onA t (upA t x)) fun t' => mendA k t' x
        else if kidA t (upA t x) (!onA t (upA t x)) = x then
          turnK (paintA (paintA (turnA t (upA t x) (onA t (upA t x))) false x) true (upA t (upA t x))) (upA t (upA t x)) (!onA t (upA t x)) fun t' => mendA k t' (upA t x)
        else none)
      else none)
    else some (paintA t false t.rt)
theorem red_lay {t : St} {a : T} {u : Option Int} (h : Lay t a u) : redA t a.rt = a.red := by
  cases a with
  | E => rfl
  | B c l x r =>
    unfold redA
    rw [show (B c l x r).rt = (x : Int) from rfl, Int.toNat_natCast, h.2.2.1, decide_eq_true (show 0 ≤ (x : Int) by omega)]
    rfl
theorem red_layC {t : St} {C : List F} {k : Option Int} (h : LayC t C k) : redA t (upC C) = topred C := by
  cases C with
  | nil => rfl
  | cons f C =>
    unfold redA
    rw [show upC (f :: C) = (f.x : Int) from rfl, Int.toNat_natCast, h.2.2.1, decide_eq_true (show 0 ≤ (f.x : Int) by omega)]
    rfl
theorem up_lay {t : St} {a : T} {u : Int} (h : Lay t a (some u)) (ha : a ≠ E) : upA t a.rt = u := by
  cases a with
  | E => exact absurd rfl ha
  | B c l x r => exact h.2.2.2.2.2.1 u rfl
theorem RB_paint {a : T} {n : Nat} (h : RB a n) : ∃ m, RB (a.paint false) m := by
  cases a with
  | E => exact ⟨0, rfl⟩
  | B c l x r =>
    obtain ⟨_, m, h1, h2, _⟩ := h
    exact ⟨m + 1, (fun e => by cases e), m, h1, h2, rfl⟩
theorem paint_red (a : T) : (a.paint false).red = false := by cases a <;> rfl
structure Mended (t t' : St) (L : List Nat) (S : Nat → Prop) : Prop where
  ex : ∃ a, Lay t' a (some (-1)) ∧ t'.rt = a.rt ∧ a.ids = L ∧ (∃ m, RB a m) ∧ a.red = false
  keeps : Keeps t t' S
theorem mend_exit {t : St} {C : List F} {a : T} {n : Nat} (hC : LayC t C (some a.rt)) (ha : Lay t a (some (upC C))) (hn : (a.ids ++ idsC C).Nodup) (he : a ≠ E) (hr : RB a n) (hc : CB C n) (ht : topred C = false) :
    ∃ t', (∀ k, 0 < k → mendA k t a.rt = some t') ∧ Mended t t' (plug C a).ids (fun z => z ∈ a.ids ++ idsC C) := by
  obtain ⟨h1, h2⟩ := lay_plug.2 ⟨hC, ha⟩
  have hp := plug_ids C a
  have hnp := hp.nodup_iff.2 hn
  obtain ⟨m, hm⟩ := RB_plug hc hr (fun c => by rw [ht] at c; cases c)
  refine ⟨paintA t false t.rt, fun k hk => ?_, ⟨(plug C a).paint false, ?_, ?_, paintT_ids _ _, RB_paint hm, paint_red _⟩, paint_keeps _ (fun h => ?_) (fun z hz => hp.mem_iff.1 (rt_mem z (by rw [hz, h2])))⟩
  · obtain ⟨k, rfl⟩ : ∃ m, k = m + 1 := ⟨k - 1, by omega⟩
    rw [mendA, up_lay ha he, red_layC hC, ht, if_neg (by simp)]
  · rw [h2]
    exact paint_lay false h1 hnp
  · rw [paint_rt, paintT_rt, h2]
  · rw [h2] at h ⊢
    exact rt_lt h1.loose h
theorem nd_swap (s c : Bool) (x : Nat) (p q : T) : nd s c x p q = nd (!s) c x q p := by
  unfold nd fillF
  cases s <;> rfl
theorem mend_in {t : St} {C : List F} {f g : F} {a : T} {n : Nat} (hC : LayC t (f :: g :: C) (some a.rt)) (ha : Lay t a (some (f.x : Int))) (hn : (a.ids ++ idsC (f :: g :: C)).Nodup) (he : a ≠ E) (hs : f.s = g.s) (hr : RB a n) (hfr : f.o.red = false) (hgr : g.o.red = false) (hfo : RB f.o n) (hgo : RB g.o n) (hc : CB C (n + 1)) :
    ∃ t', 0 ≤ kidA (paintA (paintA t false (f.x : Int)) true (g.x : Int)) (g.x : Int) (!(!g.s)) ∧ (∀ k, 0 < k → mendA k (turnA (paintA (paintA t false (f.x : Int)) true (g.x : Int)) (g.x : Int) (!g.s)) a.rt = some t') ∧ Mended t t' (plug (f :: g :: C) a).ids (fun z => z ∈ a.ids ++ idsC (f :: g :: C)) := by
  obtain ⟨na, n1, da⟩ := List.nodup_append.1 hn
  have n1' : (f.x :: (f.o.ids ++ (g.x :: (g.o.ids ++ idsC C)))).Nodup := n1
  obtain ⟨fx, n2⟩ := List.nodup_cons.1 n1'
  obtain ⟨nf, n3, df⟩ := List.nodup_append.1 n2
  obtain ⟨gx, n4⟩ := List.nodup_cons.1 n3
  have hfg : (f.x : Int) ≠ (g.x : Int) := fun e => by
    have e2 : f.x = g.x := by omega
    exact fx (by rw [e2]; simp)
  have hfl : 0 ≤ (f.x : Int) → ((f.x : Int)).toNat < t.ns.length := fun _ => hC.1
  have hgl : 0 ≤ (g.x : Int) → ((g.x : Int)).toNat < (paintA t false (f.x : Int)).ns.length := fun _ => by rw [paint_len]; exact hC.2.2.2.2.2.2.2.1
  have p1 := paint_top false hC n1
  have q1 := paint_other false hfl ha (fun z hz h => da z hz f.x (by simp [idsC]) (by omega))
  have k1 : Keeps t (paintA t false (f.x : Int)) (fun z => z ∈ a.ids ++ idsC (f :: g :: C)) := paint_keeps _ hfl (fun z hz => by
    have e2 : z = f.x := by omega
    subst e2
    simp [idsC])
  have k2 : Keeps (paintA t false (f.x : Int)) (paintA (paintA t false (f.x : Int)) true (g.x : Int)) (fun z => z ∈ a.ids ++ idsC (f :: g :: C)) := paint_keeps _ hgl (fun z hz => by
    have e2 : z = g.x := by omega
    subst e2
    simp [idsC])
  have k12 := k1.trans k2
  generalize paintA t false (f.x : Int) = t1 at p1 q1 hgl k1 k2 k12 ⊢
  have b1 : Lay t1 (fillF { f with c := false } a) (some (g.x : Int)) := lay_fill.2 ⟨p1.1, p1.2.1, p1.2.2.1, p1.2.2.2.1 _ rfl, p1.2.2.2.2.1, p1.2.2.2.2.2.1, p1.2.2.2.2.2.2.1, q1⟩
  have c1 : LayC t1 (g :: C) (some (f.x : Int)) := p1.2.2.2.2.2.2.2
  have hbm : ∀ z ∈ (fillF { f with c := false } a).ids, z ∈ a.ids ∨ z = f.x ∨ z ∈ f.o.ids := fun z hz => by
    rcases List.mem_append.1 ((fill_ids _ _).mem_iff.1 hz) with h | h
    · exact Or.inl h
    · rcases List.mem_cons.1 h with h | h
      · exact Or.inr (Or.inl h)
      · exact Or.inr (Or.inr h)
  have p2 := paint_top true c1 n3
  have q2 := paint_other true hgl b1 (fun z hz h => by
    have e2 : z = g.x := by omega
    subst e2
    rcases hbm _ hz with h | h | h
    · exact da _ h g.x (by simp [idsC]) rfl
    · exact hfg (by omega)
    · exact df _ h g.x (by simp) rfl)
  generalize paintA t1 true (g.x : Int) = t2 at p2 q2 k2 k12 ⊢
  have b2 : Lay t2 (nd (!(!g.s)) true g.x (nd (!g.s) false f.x f.o a) g.o) (some (upC C)) := by
    rw [Bool.not_not, nd_swap (!g.s), Bool.not_not, ← hs]
    rw [← hs] at p2
    exact lay_fill.2 ⟨p2.1, p2.2.1, p2.2.2.1, by rw [nd_rt]; exact p2.2.2.2.1 _ rfl, p2.2.2.2.2.1, p2.2.2.2.2.2.1, p2.2.2.2.2.2.2.1, q2⟩
  have c2 : LayC t2 C (some (g.x : Int)) := p2.2.2.2.2.2.2.2
  have hkg : 0 ≤ kidA t2 (g.x : Int) (!(!g.s)) := by
    have h := (lay_fill.1 b2).2.2.2.1
    simp only at h
    rw [h, nd_rt]
    omega
  have hN : (f.o.ids ++ (f.x :: (a.ids ++ (g.x :: (g.o.ids ++ idsC C))))).Nodup := by
    refine (List.Perm.nodup_iff ?_).1 hn
    show (a.ids ++ (f.x :: (f.o.ids ++ (g.x :: (g.o.ids ++ idsC C))))).Perm _
    refine List.perm_middle.trans ?_
    refine (List.Perm.trans ?_ List.perm_middle.symm)
    refine List.Perm.cons _ ?_
    rw [← List.append_assoc, ← List.append_assoc]
    exact List.perm_append_comm.append_right _
  obtain ⟨r1, r2, r3, r4⟩ := turn_lay c2 b2 hN
  have k3 : Keeps t2 (turnA t2 (g.x : Int) (!g.s)) (fun z => z ∈ a.ids ++ idsC (f :: g :: C)) := ⟨r3, fun z => ⟨(r4 z).1, fun hz => (r4 z).2 (fun h => hz (by
    simp only [List.mem_append, List.mem_cons, idsC] at h ⊢
    rcases h with h | h | h | h | h | h <;> simp [h]))⟩⟩
  have k123 := k12.trans k3
  generalize turnA t2 (g.x : Int) (!g.s) = t3 at r1 r2 k123 ⊢
  rw [Bool.not_not, nd_swap (!g.s), Bool.not_not] at r2
  obtain ⟨s1, s2, s3, s4, s5, s6, s7, s8⟩ := lay_fill.1 r2
  have hC3 : LayC t3 (⟨false, f.x, g.s, nd g.s true g.x f.o g.o⟩ :: C) (some a.rt) := ⟨s1, s2, s3, (fun y hy => by rw [← Option.some.inj hy]; exact s4), s5, s6, s7, r1⟩
  have hp : (a.ids ++ idsC (⟨false, f.x, g.s, nd g.s true g.x f.o g.o⟩ :: C)).Perm (a.ids ++ idsC (f :: g :: C)) := by
    refine List.Perm.append_left _ (List.Perm.cons _ ?_)
    show ((nd g.s true g.x f.o g.o).ids ++ idsC C).Perm (f.o.ids ++ (g.x :: (g.o.ids ++ idsC C)))
    refine ((nd_ids _ _ _ _ _).append_right _).trans ?_
    rw [List.append_assoc]
    exact List.Perm.refl _
  obtain ⟨t', m1, m2⟩ := mend_exit hC3 s8 (hp.nodup_iff.2 hn) he hr ⟨RB_fill.2 ⟨fun _ => ⟨hfr, hgr⟩, n, hfo, hgo, rfl⟩, (fun c => by cases c), hc⟩ rfl
  refine ⟨t', hkg, m1, ⟨?_, k123.trans (m2.keeps.mono (fun z hz => hp.mem_iff.1 hz))⟩⟩
  obtain ⟨A, e1, e2, e3, e4⟩ := m2.ex
  refine ⟨A, e1, e2, ?_, e4⟩
  rw [e3, plug_walk, plug_walk]
  unfold nd fillF
  simp only [leftC, rightC, hs]
  cases g.s <;> simp [T.ids]
theorem RB_black {a : T} {n : Nat} (h : RB a n) (hr : a.red = true) : RB (a.paint false) (n + 1) := by
  cases a with
  | E => cases hr
  | B c l x r =>
    obtain ⟨_, m, h1, h2, h3⟩ := h
    have hc : c = true := hr
    rw [if_pos hc] at h3
    subst h3
    exact ⟨(fun e => by cases e), n, h1, h2, rfl⟩
theorem paint_side {t : St} (b : Bool) {g : F} {C : List F} {k : Option Int} (hC : LayC t (g :: C) k) (hn : (idsC (g :: C)).Nodup) : LayC (paintA t b g.o.rt) ({ g with o := g.o.paint b } :: C) k := by
  obtain ⟨h1, h2, h3, h4, h5, h6, h7, h8⟩ := hC
  have hn1 := List.nodup_cons.1 hn
  obtain ⟨n1, n2, n3⟩ := List.nodup_append.1 hn1.2
  have hl := rt_lt h7.loose
  have hg : gn (paintA t b g.o.rt) g.x = gn t g.x := paint_keep b hl g.x (fun e => hn1.1 (List.mem_append_left _ (rt_mem _ e)))
  have ek : ∀ s, kidA (paintA t b g.o.rt) (g.x : Int) s = kidA t (g.x : Int) s := fun s => by unfold kidA; rw [Int.toNat_natCast, hg]
  refine ⟨by rw [paint_len]; exact h1, by rw [hg]; exact h2, by rw [hg]; exact h3, fun y hy => by rw [ek]; exact h4 y hy, by rw [ek, h5]; exact (paintT_rt _ _).symm, by rw [hg]; exact h6, paint_lay b h7 n1, ?_⟩
  exact paint_otherC b hl h8 (fun z hz e => n3 z (rt_mem z e) z hz rfl)
theorem as_nd (s : Bool) {a : T} (h : a.red = true) : ∃ x p q, a = nd s true x p q := by
  cases a with
  | E => cases h
  | B c l x r =>
    obtain rfl : c = true := h
    cases s with
    | false => exact ⟨x, l, r, rfl⟩
    | true => exact ⟨x, r, l, rfl⟩
theorem mend_lay : ∀ (N : Nat) {t : St} {C : List F} {a : T} {n : Nat}, C.length ≤ N → LayC t C (some a.rt) → Lay t a (some (upC C)) → (a.ids ++ idsC C).Nodup → a.red = true → RB a n → CB C n →
    ∃ t', (∀ k, N < k → mendA k t a.rt = some t') ∧ Mended t t' (plug C a).ids (fun z => z ∈ a.ids ++ idsC C) := by
  intro N
  induction N using Nat.strongRecOn with
  | ind N ih =>
    intro t C a n hlen hC ha hn hred hr hc
    have he : a ≠ E := fun e => by rw [e] at hred; cases hred
    cases ht : topred C with
    | false =>
      obtain ⟨t', h1, h2⟩ := mend_exit hC ha hn he hr hc ht
      exact ⟨t', fun k hk => h1 k (by omega), h2⟩
    | true =>
      match C, hlen, hC, ha, hn, hc, ht with
      | f :: C', hlen, hC, ha, hn, hc, ht =>
        have hfc : f.c = true := ht
        obtain ⟨hfo, hf2, hc2⟩ := hc
        obtain ⟨hfr, hne, htp⟩ := hf2 hfc
        rw [if_pos hfc] at hc2
        match C', hlen, hC, ha, hn, hc2, hne, htp with
        | g :: C2, hlen, hC, ha, hn, hc2, hne, htp =>
          have hgc : g.c = false := htp
          obtain ⟨hgo, _, hc3⟩ := hc2
          rw [if_neg (by rw [hgc]; simp)] at hc3
          obtain ⟨na, n1, da⟩ := List.nodup_append.1 hn
          have n1' : (f.x :: (f.o.ids ++ (g.x :: (g.o.ids ++ idsC C2)))).Nodup := n1
          obtain ⟨fx, n2⟩ := List.nodup_cons.1 n1'
          obtain ⟨nf, n3, df⟩ := List.nodup_append.1 n2
          obtain ⟨gx, n4⟩ := List.nodup_cons.1 n3
          obtain ⟨ng, nC, dg⟩ := List.nodup_append.1 n4
          have u1 : upA t a.rt = (f.x : Int) := up_lay ha he
          have u2 : upA t (f.x : Int) = (g.x : Int) := hC.2.2.2.2.2.1
          have hC' : LayC t (g :: C2) (some (f.x : Int)) := hC.2.2.2.2.2.2.2
          have o2 : onA t (f.x : Int) = g.s := on_side hC' hC.2.2.2.2.2.1 (fun h => fx (List.mem_append_right _ h))
          have o1 : onA t a.rt = f.s := by
            rcases rt_cases a with ⟨_, e⟩ | ⟨c, l, x, r, e, e2⟩
            · exact absurd e he
            · rw [e2] at hC ⊢
              have hu : (gn t x).u = upC (f :: g :: C2) := by
                rw [e] at ha
                exact ha.2.2.2.2.2.1 _ rfl
              exact on_side hC hu (fun h => da x (by rw [e]; simp [T.ids]) x h rfl)
          have kg : kidA t (g.x : Int) (!g.s) = g.o.rt := hC'.2.2.2.2.1
          have rg : redA t g.o.rt = g.o.red := red_lay hC'.2.2.2.2.2.2.1
          have rf : redA t (f.x : Int) = true := by
            have := red_layC hC
            rw [show topred (f :: g :: C2) = true from hfc] at this
            exact this
          have hunf : ∀ k, mendA (k + 1) t a.rt = if g.o.red = true then mendA k (paintA (paintA (paintA t false (f.x : Int)) false g.o.rt) true (g.x : Int)) (g.x : Int)
              else if f.s = g.s then turnK (paintA (paintA t false (f.x : Int)) true (g.x : Int)) (g.x : Int) (!g.s) fun t' => mendA k t' a.rt
              else if kidA t (f.x : Int) (!g.s) = a.rt then turnK (paintA (paintA (turnA t (f.x : Int) g.s) false a.rt) true (g.x : Int)) (g.x : Int) (!g.s) fun t' => mendA k t' (f.x : Int)
              else none := fun k => by
            rw [mendA, u1, rf, if_pos rfl, u2, if_pos (by omega), o2, kg, rg, o1]
          have hfl : 0 ≤ (f.x : Int) → ((f.x : Int)).toNat < t.ns.length := fun _ => hC.1
          cases hgr : g.o.red with
          | true =>
            have p1 := paint_top false hC n1
            have q1 := paint_other false hfl ha (fun z hz h => da z hz f.x (by simp [idsC]) (by omega))
            have k1 : Keeps t (paintA t false (f.x : Int)) (fun z => z ∈ a.ids ++ idsC (f :: g :: C2)) := paint_keeps _ hfl (fun z hz => by
              have e2 : z = f.x := by omega
              subst e2
              simp [idsC])
            have hunf1 := fun k => (hunf k).trans (if_pos hgr)
            generalize paintA t false (f.x : Int) = t1 at p1 q1 k1 hunf1
            have b1 : Lay t1 (fillF { f with c := false } a) (some (g.x : Int)) := lay_fill.2 ⟨p1.1, p1.2.1, p1.2.2.1, p1.2.2.2.1 _ rfl, p1.2.2.2.2.1, p1.2.2.2.2.2.1, p1.2.2.2.2.2.2.1, q1⟩
            have c1 : LayC t1 (g :: C2) (some (f.x : Int)) := p1.2.2.2.2.2.2.2
            have hbm : ∀ z ∈ (fillF { f with c := false } a).ids, z ∈ a.ids ∨ z = f.x ∨ z ∈ f.o.ids := fun z hz => by
              rcases List.mem_append.1 ((fill_ids _ _).mem_iff.1 hz) with h | h
              · exact Or.inl h
              · rcases List.mem_cons.1 h with h | h
                · exact Or.inr (Or.inl h)
                · exact Or.inr (Or.inr h)
            have hbg : ∀ z ∈ (fillF { f with c := false } a).ids, z ∉ g.x :: g.o.ids := fun z hz hm => by
              have hm2 : z ∈ g.x :: (g.o.ids ++ idsC C2) := by
                rcases List.mem_cons.1 hm with h | h <;> simp [h]
              rcases hbm z hz with h | h | h
              · exact da z h z (List.mem_cons_of_mem _ (List.mem_append_right _ hm2)) rfl
              · subst h; exact fx (List.mem_append_right _ hm2)
              · exact df z h z hm2 rfl
            have hol := rt_lt (Lay.loose c1.2.2.2.2.2.2.1)
            have p2 := paint_side false c1 n3
            have q2 := paint_other false hol b1 (fun z hz h => hbg z hz (List.mem_cons_of_mem _ (rt_mem z h)))
            have k2 : Keeps t1 (paintA t1 false g.o.rt) (fun z => z ∈ a.ids ++ idsC (f :: g :: C2)) := paint_keeps _ hol (fun z hz => by
              have := rt_mem z hz
              simp [idsC, this])
            generalize paintA t1 false g.o.rt = t2 at p2 q2 k2 hunf1
            have hgl : 0 ≤ (g.x : Int) → ((g.x : Int)).toNat < t2.ns.length := fun _ => p2.1
            have n3' : (idsC ({ g with o := g.o.paint false } :: C2)).Nodup := by
              show (g.x :: ((g.o.paint false).ids ++ idsC C2)).Nodup
              rw [paintT_ids]; exact n3
            have p3 := paint_top true p2 n3'
            have q3 := paint_other true hgl q2 (fun z hz h => by
              have e2 : z = g.x := by omega
              subst e2
              exact hbg _ hz List.mem_cons_self)
            have k3 : Keeps t2 (paintA t2 true (g.x : Int)) (fun z => z ∈ a.ids ++ idsC (f :: g :: C2)) := paint_keeps _ hgl (fun z hz => by
              have e2 : z = g.x := by omega
              subst e2
              simp [idsC])
            change LayC (paintA t2 true (g.x : Int)) _ _ at p3
            generalize paintA t2 true (g.x : Int) = t3 at p3 q3 k3 hunf1
            have hL : Lay t3 (fillF ⟨true, g.x, g.s, g.o.paint false⟩ (fillF { f with c := false } a)) (some (upC C2)) := lay_fill.2 ⟨p3.1, p3.2.1, p3.2.2.1, by rw [fill_rt]; exact p3.2.2.2.1 _ rfl, p3.2.2.2.2.1, p3.2.2.2.2.2.1, p3.2.2.2.2.2.2.1, q3⟩
            have hL2 : LayC t3 C2 (some (fillF ⟨true, g.x, g.s, g.o.paint false⟩ (fillF { f with c := false } a)).rt) := by
              rw [fill_rt]; exact p3.2.2.2.2.2.2.2
            have hp : ((fillF ⟨true, g.x, g.s, g.o.paint false⟩ (fillF { f with c := false } a)).ids ++ idsC C2).Perm (a.ids ++ idsC (f :: g :: C2)) := by
              refine ((fill_ids _ _).append_right _).trans ?_
              show (((fillF { f with c := false } a).ids ++ g.x :: (g.o.paint false).ids) ++ idsC C2).Perm _
              rw [paintT_ids]
              refine (((fill_ids _ _).append_right _).append_right _).trans ?_
              show (((a.ids ++ f.x :: f.o.ids) ++ g.x :: g.o.ids) ++ idsC C2).Perm (a.ids ++ (f.x :: (f.o.ids ++ (g.x :: (g.o.ids ++ idsC C2)))))
              simp
            obtain ⟨t', m1, m2⟩ := ih (N - 1) (by simp at hlen; omega) (C := C2) (n := n + 1) (by simp at hlen; omega) hL2 hL (hp.nodup_iff.2 hn) (by rw [fill_red]) (RB_fill.2 ⟨fun _ => ⟨by rw [fill_red], paint_red _⟩, n + 1, RB_fill.2 ⟨(fun c => by cases c), n, hr, hfo, rfl⟩, RB_black hgo hgr, rfl⟩) hc3
            refine ⟨t', fun k hk => ?_, ⟨?_, ((k1.trans k2).trans k3).trans (m2.keeps.mono (fun z hz => hp.mem_iff.1 hz))⟩⟩
            · obtain ⟨k, rfl⟩ : ∃ m, k = m + 1 := ⟨k - 1, by omega⟩
              rw [hunf1]
              have := m1 k (by simp at hlen; omega)
              rwa [fill_rt] at this
            · obtain ⟨A, e1, e2, e3, e4⟩ := m2.ex
              refine ⟨A, e1, e2, ?_, e4⟩
              rw [e3, plug_walk, plug_walk]
              unfold fillF
              simp only [leftC, rightC]
              cases g.s <;> cases f.s <;> simp [T.ids, paintT_ids]
          | false =>
            by_cases hs : f.s = g.s
            · obtain ⟨t', m0, m1, m2⟩ := mend_in hC ha hn he hs hr hfr hgr hfo hgo hc3
              refine ⟨t', fun k hk => ?_, m2⟩
              obtain ⟨k, rfl⟩ : ∃ m, k = m + 1 := ⟨k - 1, by omega⟩
              rw [hunf, if_neg (by rw [hgr]; simp), if_pos hs, turnK, if_pos m0]
              exact m1 k (by simp at hlen; omega)
            · have hs2 : f.s = !g.s := by
                cases h1 : f.s <;> cases h2 : g.s <;> simp_all
              obtain ⟨x, p, q, rfl⟩ := as_nd g.s hred
              obtain ⟨r1, m, r2, r3, r4⟩ := RB_fill.1 hr
              obtain ⟨pr, qr⟩ := r1 rfl
              rw [if_pos rfl] at r4
              subst r4
              have hLf : Lay t (nd (!g.s) true f.x (nd g.s true x p q) f.o) (some (upC (g :: C2))) := lay_fill.2 ⟨hC.1, hC.2.1, by rw [hC.2.2.1]; exact hfc, by show kidA t (f.x : Int) (!g.s) = _; rw [← hs2]; exact hC.2.2.2.1 _ rfl, by show kidA t (f.x : Int) (!(!g.s)) = _; rw [← hs2]; exact hC.2.2.2.2.1, hC.2.2.2.2.2.1, hC.2.2.2.2.2.2.1, ha⟩
              have hpn : (nd g.s true x p q).ids.Perm (p.ids ++ x :: q.ids) := nd_ids _ _ _ _ _
              have hN : (p.ids ++ (x :: (q.ids ++ (f.x :: (f.o.ids ++ idsC (g :: C2)))))).Nodup := by
                have h1 := (hpn.append_right (idsC (f :: g :: C2))).nodup_iff.1 hn
                rw [List.append_assoc] at h1
                exact h1
              obtain ⟨v1, v2, v3, v4⟩ := turn_lay hC' hLf hN
              have kk : Keeps t (turnA t (f.x : Int) g.s) (fun z => z ∈ (nd g.s true x p q).ids ++ idsC (f :: g :: C2)) := ⟨v3, fun z => ⟨(v4 z).1, fun hz => (v4 z).2 (fun h => hz (by
                have h2 : z ∈ (p.ids ++ x :: q.ids) ++ idsC (f :: g :: C2) := by
                  rw [List.append_assoc]; exact h
                rcases List.mem_append.1 h2 with h3 | h3
                · exact List.mem_append_left _ (hpn.mem_iff.2 h3)
                · exact List.mem_append_right _ h3))⟩⟩
              have hkx : kidA t (f.x : Int) (!g.s) = (nd g.s true x p q).rt := by rw [← hs2]; exact hC.2.2.2.1 _ rfl
              have hunf2 : ∀ k, mendA (k + 1) t (nd g.s true x p q).rt = turnK (paintA (paintA (turnA t (f.x : Int) g.s) false (x : Int)) true (g.x : Int)) (g.x : Int) (!g.s) fun t' => mendA k t' (f.x : Int) := fun k => by
                rw [hunf, if_neg (by rw [hgr]; simp), if_neg hs, if_pos hkx, nd_rt]
              generalize turnA t (f.x : Int) g.s = t1 at v1 v2 kk hunf2
              obtain ⟨w1, w2, w3, w4, w5, w6, w7, w8⟩ := lay_fill.1 v2
              have hC4 : LayC t1 (⟨true, x, g.s, q⟩ :: g :: C2) (some (nd (!g.s) true f.x p f.o).rt) := ⟨w1, w2, w3, (fun y hy => by rw [← Option.some.inj hy]; exact w4), w5, w6, w7, v1⟩
              have hp4 : ((nd (!g.s) true f.x p f.o).ids ++ idsC (⟨true, x, g.s, q⟩ :: g :: C2)).Perm ((nd g.s true x p q).ids ++ idsC (f :: g :: C2)) := by
                refine ((nd_ids _ _ _ _ _).append_right _).trans (List.Perm.trans ?_ (hpn.append_right _).symm)
                show ((p.ids ++ f.x :: f.o.ids) ++ (x :: (q.ids ++ idsC (g :: C2)))).Perm ((p.ids ++ x :: q.ids) ++ (f.x :: (f.o.ids ++ idsC (g :: C2))))
                rw [List.append_assoc, List.append_assoc]
                refine List.Perm.append_left _ ?_
                show ((f.x :: f.o.ids) ++ ((x :: q.ids) ++ idsC (g :: C2))).Perm ((x :: q.ids) ++ ((f.x :: f.o.ids) ++ idsC (g :: C2)))
                rw [← List.append_assoc, ← List.append_assoc]
                exact List.perm_append_comm.append_right _
              obtain ⟨t', m0, m1, m2⟩ := mend_in (f := ⟨true, x, g.s, q⟩) (a := nd (!g.s) true f.x p f.o) hC4 w8 (hp4.nodup_iff.2 hn) (fun e => by have h1 := nd_rt (!g.s) true f.x p f.o; rw [e] at h1; exact absurd h1 (by show ¬ (-1 : Int) = (f.x : Int); omega)) rfl (RB_fill.2 ⟨fun _ => ⟨pr, hfr⟩, n, r2, hfo, rfl⟩) qr hgr r3 hgo hc3
              refine ⟨t', fun k hk => ?_, ⟨?_, kk.trans (m2.keeps.mono (fun z hz => hp4.mem_iff.1 hz))⟩⟩
              · obtain ⟨k, rfl⟩ : ∃ m, k = m + 1 := ⟨k - 1, by omega⟩
                rw [hunf2, turnK, if_pos m0]
                have h1 := m1 k (by simp at hlen; omega)
                rwa [nd_rt] at h1
              · obtain ⟨A, e1, e2, e3, e4⟩ := m2.ex
                refine ⟨A, e1, e2, ?_, e4⟩
                rw [e3, plug_walk, plug_walk]
                unfold nd fillF
                simp only [leftC, rightC, hs2]
                cases g.s <;> simp [T.ids]
def down (lt : Nat → Bool) : T → List F → List F
  | E, C => C
  | B c l x r, C => if lt x then down lt l (⟨c, x, false, r⟩ :: C) else down lt r (⟨c, x, true, l⟩ :: C)
theorem down_plug (lt : Nat → Bool) : ∀ (a : T) (C : List F), plug (down lt a C) E = plug C a
  | E, C => rfl
  | B c l x r, C => by
    unfold down
    split
    · rw [down_plug lt l]; rfl
    · rw [down_plug lt r]; rfl
theorem down_walk (lt : Nat → Bool) : ∀ (a : T) (C : List F), a.ids.Pairwise (fun x y => lt x = true → lt y = true) → (∀ x ∈ leftC C, lt x = false) → (∀ x ∈ rightC C, lt x = true) →
    (∀ x ∈ leftC (down lt a C), lt x = false) ∧ (∀ x ∈ rightC (down lt a C), lt x = true)
  | E, C, _, h1, h2 => ⟨h1, h2⟩
  | B c l x r, C, hp, h1, h2 => by
    have hp2 : (l.ids ++ x :: r.ids).Pairwise (fun x y => lt x = true → lt y = true) := hp
    obtain ⟨p1, p2, p3⟩ := List.pairwise_append.1 hp2
    obtain ⟨p4, p5⟩ := List.pairwise_cons.1 p2
    unfold down
    by_cases hx : lt x = true
    · rw [if_pos hx]
      refine down_walk lt l _ p1 (fun z hz => ?_) (fun z hz => ?_)
      · have hz2 : z ∈ leftC C ++ [] := hz
        rw [List.append_nil] at hz2
        exact h1 z hz2
      · have hz2 : z ∈ (x :: r.ids) ++ rightC C := hz
        rcases List.mem_append.1 hz2 with h | h
        · rcases List.mem_cons.1 h with rfl | h
          · exact hx
          · exact p4 z h hx
        · exact h2 z h
    · rw [if_neg hx]
      have hx2 : lt x = false := by simpa using hx
      refine down_walk lt r _ p5 (fun z hz => ?_) (fun z hz => ?_)
      · have hz2 : z ∈ leftC C ++ (l.ids ++ [x]) := hz
        rcases List.mem_append.1 hz2 with h | h
        · exact h1 z h
        · rcases List.mem_append.1 h with h | h
          · cases hl : lt z with
            | false => rfl
            | true => exact absurd (p3 z h x List.mem_cons_self hl) hx
          · rw [List.mem_singleton.1 h]; exact hx2
      · have hz2 : z ∈ [] ++ rightC C := hz
        rw [List.nil_append] at hz2
        exact h2 z hz2
def downA : Nat → St → (Nat → Bool) → Int → Int → Bool → Option (Int × Bool)
  | 0, _, _, _, _, _ => none
  | k + 1, t, lt, x, up, s => if 0 ≤ x then downA k t lt (kidA t x (!lt x.toNat)) x (!lt x.toNat) else some (up, s)
def T.size : T → Nat
  | E => 0
  | B _ l _ r => l.size + r.size + 1
theorem down_lay {t : St} (lt : Nat → Bool) : ∀ (a : T) (C : List F) (k : Nat), a.size < k → LayC t C (some a.rt) → Lay t a (some (upC C)) →
    downA k t lt a.rt (upC C) (sideC C) = some (upC (down lt a C), sideC (down lt a C)) ∧ LayC t (down lt a C) (some (-1))
  | E, C, 0, hk, _, _ => absurd hk (by omega)
  | B c l x r, C, 0, hk, _, _ => absurd hk (by omega)
  | E, C, k + 1, hk, hC, ha => ⟨by rw [downA, if_neg (by show ¬ (0 : Int) ≤ -1; omega)]; rfl, hC⟩
  | B c l x r, C, k + 1, hk, hC, ha => by
    obtain ⟨h1, h2, h3, h4, h5, h6, h7, h8⟩ := ha
    have hk2 : l.size + r.size + 1 < k + 1 := hk
    rw [downA, if_pos (by show (0 : Int) ≤ (x : Int); omega), show (B c l x r).rt = (x : Int) from rfl, Int.toNat_natCast, down]
    by_cases hx : lt x = true
    · rw [if_pos hx, hx]
      have e : kidA t (x : Int) (!true) = l.rt := by
        rw [← h4]; unfold kidA; rw [Int.toNat_natCast]; rfl
      rw [e]
      exact down_lay lt l (⟨c, x, false, r⟩ :: C) k (by omega) ⟨h1, h2, h3, (fun y hy => by rw [← Option.some.inj hy, ← h4]; unfold kidA; rw [Int.toNat_natCast]; rfl), by show kidA t (x : Int) (!false) = r.rt; rw [← h5]; unfold kidA; rw [Int.toNat_natCast]; rfl, h6 _ rfl, h8, hC⟩ h7
    · have hx2 : lt x = false := by simpa using hx
      rw [if_neg hx, hx2]
      have e : kidA t (x : Int) (!false) = r.rt := by
        rw [← h5]; unfold kidA; rw [Int.toNat_natCast]; rfl
      rw [e]
      exact down_lay lt r (⟨c, x, true, l⟩ :: C) k (by omega) ⟨h1, h2, h3, (fun y hy => by rw [← Option.some.inj hy, ← h5]; unfold kidA; rw [Int.toNat_natCast]; rfl), by show kidA t (x : Int) (!true) = l.rt; rw [← h4]; unfold kidA; rw [Int.toNat_natCast]; rfl, h6 _ rfl, h7, hC⟩ h8
theorem len_idsC : ∀ C : List F, C.length ≤ (idsC C).length
  | [] => Nat.le_refl _
  | f :: C => by
    have := len_idsC C
    simp only [idsC, List.length_cons, List.length_append]
    omega
theorem nodup_len : ∀ {n : Nat} {l : List Nat}, l.Nodup → (∀ x ∈ l, x < n) → l.length ≤ n
  | 0, l, _, h => by
    cases l with
    | nil => exact Nat.le_refl _
    | cons x l => exact absurd (h x List.mem_cons_self) (by omega)
  | n + 1, l, hn, h => by
    by_cases hm : n ∈ l
    · have h1 := List.length_erase_of_mem hm
      have h2 := nodup_len (n := n) (hn.erase n) (fun x hx => by
        have h3 := (List.Nodup.mem_erase_iff hn).1 hx
        have h4 := h x h3.2
        have h5 := h3.1
        omega)
      have h6 : 0 < l.length := List.length_pos_of_mem hm
      omega
    · have h2 := nodup_len (n := n) hn (fun x hx => by
        have h4 := h x hx
        by_cases e : x = n
        · rw [e] at hx; exact absurd hx hm
        · omega)
      omega
theorem put_lay {t : St} {a : T} {m id : Nat} {v : Int} (lt : Nat → Bool) (hL : Lay t a (some (-1))) (hr : t.rt = a.rt) (hn : a.ids.Nodup) (hm : RB a m) (hb : a.red = false) (hid : id < t.ns.length) (hni : id ∉ a.ids) (hlt : a.ids.Pairwise (fun x y => lt x = true → lt y = true)) :
    ∃ t' lf rg, a.ids = lf ++ rg ∧ (∀ x ∈ lf, lt x = false) ∧ (∀ x ∈ rg, lt x = true) ∧
      (∀ k, a.size < k → downA k t lt t.rt (-1) false = some (upC (down lt a []), sideC (down lt a []))) ∧
      (∀ k, t.ns.length < k → mendA k (hangA (sn t id ⟨true, true, v, -1, -1, -1⟩) (upC (down lt a [])) (sideC (down lt a [])) id) id = some t') ∧
      Mended (hangA (sn t id ⟨true, true, v, -1, -1, -1⟩) (upC (down lt a [])) (sideC (down lt a [])) id) t' (lf ++ id :: rg) (fun z => z ∈ id :: a.ids) := by
  have hC0 : LayC t [] (some a.rt) := fun y hy => by rw [← Option.some.inj hy]; exact hr
  have hd := down_lay (t := t) lt a []
  obtain ⟨d1, d2⟩ := down_walk lt a [] hlt (fun x hx => by cases hx) (fun x hx => by cases hx)
  have hp := down_plug lt a []
  change plug (down lt a []) E = a at hp
  have hCd := (hd (a.size + 1) (by omega) hC0 hL).2
  obtain ⟨n, c1, c2, _, _⟩ := RB_parts (C := down lt a []) (a := E) (by rw [hp]; exact hm) (by rw [hp]; exact hb)
  have hn0 : n = 0 := c2
  subst hn0
  have hw := plug_walk (down lt a []) E
  rw [hp] at hw
  change a.ids = leftC (down lt a []) ++ rightC (down lt a []) at hw
  have hpi := plug_ids (down lt a []) E
  rw [hp] at hpi
  change a.ids.Perm (idsC (down lt a [])) at hpi
  have hnC := hpi.nodup_iff.1 hn
  have hdn := fun k hk => (hd k hk hC0 hL).1
  generalize down lt a [] = C at *
  have hlen : (sn t id ⟨true, true, v, -1, -1, -1⟩).ns.length = t.ns.length := sn_len _ _ _
  have hidC : id ∉ idsC C := fun h => hni (hpi.mem_iff.2 h)
  have hg : ∀ z, gn (sn t id ⟨true, true, v, -1, -1, -1⟩) z = if z = id then ⟨true, true, v, -1, -1, -1⟩ else gn t z := fun z => gn_sn _ _ _ _ hid
  have hC1 : LayC (sn t id ⟨true, true, v, -1, -1, -1⟩) C none := (LayC.congr hlen rfl (fun z hz => by rw [hg, if_neg (fun e => hidC (by rw [← e]; exact hz))]) hCd).loose
  have hA1 : Lay (sn t id ⟨true, true, v, -1, -1, -1⟩) (B true E id E) none := by
    refine ⟨by rw [hlen]; exact hid, ?_, ?_, ?_, ?_, (fun p h => by cases h), trivial, trivial⟩ <;> rw [hg, if_pos rfl] <;> rfl
  generalize sn t id ⟨true, true, v, -1, -1, -1⟩ = t1 at hC1 hA1 hlen ⊢
  obtain ⟨e1, e2⟩ := hang_lay hC1 hA1 (fun x hx => by
    have : x = id := by simpa [T.ids] using hx
    subst this; exact hidC) hnC (by simp [T.ids])
  have hlen2 := hang_len t1 (upC C) (sideC C) (id : Int)
  change LayC (hangA t1 (upC C) (sideC C) (id : Int)) _ _ at e1
  change Lay (hangA t1 (upC C) (sideC C) (id : Int)) _ _ at e2
  generalize hangA t1 (upC C) (sideC C) (id : Int) = t2 at e1 e2 hlen2 ⊢
  have hNN : ((B true E id E).ids ++ idsC C).Nodup := List.nodup_cons.2 ⟨hidC, hnC⟩
  have hCl : C.length ≤ t.ns.length := Nat.le_trans (len_idsC C) (nodup_len hnC (fun x hx => hCd.lt x hx))
  obtain ⟨t', m1, m2⟩ := mend_lay t.ns.length (a := B true E id E) (n := 0) hCl e1 e2 hNN rfl ⟨fun _ => ⟨rfl, rfl⟩, 0, rfl, rfl, rfl⟩ c1
  have hw2 := plug_walk C (B true E id E)
  refine ⟨t', leftC C, rightC C, hw, d1, d2, fun k hk => ?_, m1, ⟨?_, m2.keeps.mono (fun z hz => ?_)⟩⟩
  · rw [hr]; exact hdn k hk
  · obtain ⟨A, g1, g2, g3, g4⟩ := m2.ex
    exact ⟨A, g1, g2, by rw [g3, hw2]; rfl, g4⟩
  · rcases List.mem_cons.1 hz with h | h
    · rw [h]; exact List.mem_cons_self
    · exact List.mem_cons_of_mem _ (hpi.mem_iff.2 h)
def fillEnd (t : St) (p : Int) (s : Bool) (b far : Int) : Option St :=
  if kidA t p (!s) = b ∧ kidA t b (!s) = far then some (turnA (paintA (paintA (paintA t (redA t p) b) false p) false far) p s) else none
def fillBlack (again : St → Int → Bool → Option St) (t : St) (p : Int) (s : Bool) (b : Int) : Option St :=
  if b < 0 then none
  else if redA t (kidA t b s) = false ∧ redA t (kidA t b (!s)) = false then again (paintA t true b) (upA (paintA t true b) p) (onA (paintA t true b) p)
  else if redA t (kidA t b (!s)) = false then fillEnd (turnA (paintA (paintA t false (kidA t b s)) true b) b (!s)) p s (kidA t b s) b
  else fillEnd t p s b (kidA t b (!s))
def fillA : Nat → St → Int → Bool → Option St
  | 0, _, _, _ => none
  | k + 1, t, p, s =>
    if 0 ≤ p then
      (if redA t (kidA t p s) = true then some (paintA t false (kidA t p s))
      else if redA t (kidA t p (!s)) = true then
        fillBlack (fillA k) (turnA (paintA (paintA t false (kidA t p (!s))) true p) p s) p s (kidA (turnA (paintA (paintA t false (kidA t p (!s))) true p) p s) p (!s))
      else fillBlack (fillA k) t p s (kidA t p (!s)))
    else some (paintA t false t.rt)
theorem CB_root : ∀ {C : List F} {a : T} {n : Nat}, CB C n → C ≠ [] → (plug C a).red = false
  | [], _, _, _, h => absurd rfl h
  | [f], a, n, ⟨_, h, _⟩, _ => by
    show (fillF f a).red = false
    rw [fill_red]
    cases hc : f.c with
    | false => rfl
    | true => exact absurd rfl (h hc).2.1
  | f :: g :: C, a, n, ⟨_, _, h⟩, _ => CB_root (C := g :: C) (a := fillF f a) h (by simp)
theorem fill_exit {t : St} {C : List F} {a : T} {n : Nat} (hC : LayC t C (some a.rt)) (ha : Lay t a (some (upC C))) (hn : (a.ids ++ idsC C).Nodup) (hc : CB C (n + 1)) (h : a.red = true ∧ RB (a.paint false) (n + 1) ∨ C = [] ∧ RB a n) :
    ∃ t', (∀ k, 0 < k → fillA k t (upC C) (sideC C) = some t') ∧ Mended t t' (plug C a).ids (fun z => z ∈ a.ids ++ idsC C) := by
  obtain ⟨na, nC, da⟩ := List.nodup_append.1 hn
  have hl := rt_lt ha.loose
  have hat : ∀ k, 0 < k → fillA k t (upC C) (sideC C) = some (paintA t false a.rt) := fun k hk => by
    obtain ⟨k, rfl⟩ : ∃ m, k = m + 1 := ⟨k - 1, by omega⟩
    rw [fillA]
    cases C with
    | nil => rw [if_neg (by show ¬ (0 : Int) ≤ -1; omega), hC _ rfl]
    | cons f C =>
      have hr : a.red = true := by
        rcases h with h | h
        · exact h.1
        · cases h.1
      have hk : kidA t (upC (f :: C)) (sideC (f :: C)) = a.rt := hC.2.2.2.1 _ rfl
      rw [if_pos (by show (0 : Int) ≤ (f.x : Int); omega), hk, red_lay ha, if_pos hr]
  refine ⟨_, hat, ⟨plug C (a.paint false), ?_⟩, paint_keeps _ hl (fun z hz => List.mem_append_left _ (rt_mem z hz))⟩
  have hCp : LayC (paintA t false a.rt) C (some (a.paint false).rt) := by
    rw [paintT_rt]
    cases C with
    | nil => intro y hy; rw [paint_rt]; exact hC y hy
    | cons f C => exact paint_otherC false hl hC (fun z hz e => da z (rt_mem z e) z hz rfl)
  obtain ⟨e1, e2⟩ := lay_plug.2 ⟨hCp, paint_lay false ha na⟩
  refine ⟨e1, e2, by rw [plug_walk, plug_walk, paintT_ids], ?_, ?_⟩
  · rcases h with h | ⟨h1, h2⟩
    · exact RB_plug hc h.2 (fun _ => paint_red _)
    · rw [h1]
      exact RB_paint h2
  · cases C with
    | nil => exact paint_red _
    | cons f C => exact CB_root hc (by simp)
theorem fillEnd_lay {t : St} {C : List F} {f : F} {a near far : T} {xb n : Nat} (hC : LayC t (f :: C) (some a.rt)) (ha : Lay t a (some (f.x : Int))) (hn : (a.ids ++ idsC (f :: C)).Nodup) (ho : f.o = nd f.s false xb near far) (hfar : far.red = true) (hrn : RB near n) (hrf : RB far n) (hra : RB a n)
    (hcol : f.c = true → C ≠ [] ∧ topred C = false) (hc : CB C (if f.c then n + 1 else n + 2)) :
    ∃ t', fillEnd t (f.x : Int) f.s (xb : Int) far.rt = some t' ∧ Mended t t' (plug (f :: C) a).ids (fun z => z ∈ a.ids ++ idsC (f :: C)) := by
  obtain ⟨na, n1, da⟩ := List.nodup_append.1 hn
  have hort : f.o.rt = (xb : Int) := by rw [ho]; exact nd_rt _ _ _ _ _
  have hop : f.o.paint f.c = nd f.s f.c xb near far := by
    rw [ho]; unfold nd fillF; cases f.s <;> rfl
  have hoi : f.o.ids.Perm (near.ids ++ xb :: far.ids) := by rw [ho]; exact nd_ids _ _ _ _ _
  have hN : (near.ids ++ (xb :: (far.ids ++ (f.x :: (a.ids ++ idsC C))))).Nodup := by
    refine (List.Perm.nodup_iff ?_).1 hn
    show (a.ids ++ (f.x :: (f.o.ids ++ idsC C))).Perm _
    refine List.perm_middle.trans ?_
    have e1 : (near.ids ++ (xb :: (far.ids ++ (f.x :: (a.ids ++ idsC C))))).Perm ((near.ids ++ xb :: far.ids) ++ (f.x :: (a.ids ++ idsC C))) := by simp
    refine List.Perm.trans ?_ e1.symm
    refine List.Perm.trans ?_ List.perm_middle.symm
    refine List.Perm.cons _ ?_
    refine List.Perm.trans ?_ ((hoi.append_right (a.ids ++ idsC C)))
    rw [← List.append_assoc, ← List.append_assoc]
    exact List.perm_append_comm.append_right _
  obtain ⟨nn, m1, dn⟩ := List.nodup_append.1 hN
  obtain ⟨bx, m2⟩ := List.nodup_cons.1 m1
  obtain ⟨nf, m3, df⟩ := List.nodup_append.1 m2
  obtain ⟨fx, m4⟩ := List.nodup_cons.1 m3
  have rp : redA t (f.x : Int) = f.c := red_layC hC
  have hg1 : kidA t (f.x : Int) (!f.s) = (xb : Int) := by rw [hC.2.2.2.2.1, hort]
  have hg2 : kidA t (xb : Int) (!f.s) = far.rt := by
    have h := hC.2.2.2.2.2.2.1
    rw [ho] at h
    exact (lay_fill (f := ⟨false, xb, f.s, far⟩) (a := near)).1 h |>.2.2.2.2.1
  unfold fillEnd
  rw [if_pos ⟨hg1, hg2⟩, rp]
  clear hg1 hg2
  refine ⟨_, rfl, ?_⟩
  have hfoi : ∀ z, z ∈ near.ids ∨ z = xb ∨ z ∈ far.ids → z ∈ idsC (f :: C) := fun z hz => List.mem_cons_of_mem _ (List.mem_append_left _ (hoi.mem_iff.2 (by
    rcases hz with h | h | h <;> simp [h])))
  -- b gets p's colour
  have bl : 0 ≤ (xb : Int) → ((xb : Int)).toNat < t.ns.length := by rw [← hort]; exact rt_lt (Lay.loose hC.2.2.2.2.2.2.1)
  have p1 := paint_side f.c hC n1
  rw [hort, hop] at p1
  have q1 := paint_other f.c bl ha (fun z hz e => by
    have e2 : z = xb := by omega
    subst e2
    exact da _ hz _ (hfoi _ (Or.inr (Or.inl rfl))) rfl)
  have k1 : Keeps t (paintA t f.c (xb : Int)) (fun z => z ∈ a.ids ++ idsC (f :: C)) := paint_keeps _ bl (fun z hz => by
    have e2 : z = xb := by omega
    subst e2
    exact List.mem_append_right _ (hfoi _ (Or.inr (Or.inl rfl))))
  generalize paintA t f.c (xb : Int) = t1 at p1 q1 k1 ⊢
  have n1' : (idsC ({ f with o := nd f.s f.c xb near far } :: C)).Nodup := by
    have e : (idsC ({ f with o := nd f.s f.c xb near far } :: C)) = idsC (f :: C) := by
      show f.x :: ((nd f.s f.c xb near far).ids ++ idsC C) = f.x :: (f.o.ids ++ idsC C)
      rw [← hop, paintT_ids]
    rw [e]; exact n1
  have hfl : 0 ≤ (f.x : Int) → ((f.x : Int)).toNat < t1.ns.length := fun _ => p1.1
  have p2 := paint_top false p1 n1'
  have q2 := paint_other false hfl q1 (fun z hz h => da z hz f.x (by simp [idsC]) (by omega))
  have k2 : Keeps t1 (paintA t1 false (f.x : Int)) (fun z => z ∈ a.ids ++ idsC (f :: C)) := paint_keeps _ hfl (fun z hz => by
    have e2 : z = f.x := by omega
    subst e2
    simp [idsC])
  change LayC (paintA t1 false (f.x : Int)) _ _ at p2
  generalize paintA t1 false (f.x : Int) = t2 at p2 q2 k2 ⊢
  obtain ⟨x1, x2, x3, x4, x5, x6, x7, x8⟩ := p2
  simp only at x1 x2 x3 x4 x5 x6 x7
  obtain ⟨b1, b2, b3, b4, b5, b6, b7, b8⟩ := lay_fill.1 x7
  simp only at b1 b2 b3 b4 b5 b6 b7 b8
  have fl := rt_lt b7.loose
  have keep : ∀ z, z ∉ far.ids → gn (paintA t2 false far.rt) z = gn t2 z := fun z hz => paint_keep false fl z (fun e => hz (rt_mem z e))
  have hxf : f.x ∉ far.ids := fun h => df _ h f.x List.mem_cons_self rfl
  have hbf : xb ∉ far.ids := fun h => bx (List.mem_append_left _ h)
  have f3 := paint_lay false b7 nf
  have near3 := paint_other false fl b8 (fun z hz e => dn z hz z (List.mem_cons_of_mem _ (List.mem_append_left _ (rt_mem z e))) rfl)
  have a3 := paint_other false fl q2 (fun z hz e => df z (rt_mem z e) z (List.mem_cons_of_mem _ (List.mem_append_left _ hz)) rfl)
  have c3 := paint_otherC false fl x8 (fun z hz e => df z (rt_mem z e) z (List.mem_cons_of_mem _ (List.mem_append_right _ hz)) rfl)
  have k3 : Keeps t2 (paintA t2 false far.rt) (fun z => z ∈ a.ids ++ idsC (f :: C)) := paint_keeps _ fl (fun z hz => List.mem_append_right _ (hfoi _ (Or.inr (Or.inr (rt_mem z hz)))))
  have gx := keep f.x hxf
  have gb := keep xb hbf
  have ln := paint_len t2 false far.rt
  generalize paintA t2 false far.rt = t3 at f3 near3 a3 c3 k3 gx gb ln ⊢
  have kx : ∀ s, kidA t3 (f.x : Int) s = kidA t2 (f.x : Int) s := fun s => by unfold kidA; rw [Int.toNat_natCast, gx]
  have kb : ∀ s, kidA t3 (xb : Int) s = kidA t2 (xb : Int) s := fun s => by unfold kidA; rw [Int.toNat_natCast, gb]
  have hO : Lay t3 (nd f.s f.c xb near (far.paint false)) (some (f.x : Int)) := (lay_fill (t := t3) (f := ⟨f.c, xb, f.s, far.paint false⟩) (a := near)).2 ⟨by rw [ln]; exact b1, by rw [gb]; exact b2, by rw [gb]; exact b3, (kb _).trans b4, ((kb _).trans b5).trans (paintT_rt _ _).symm, by rw [gb]; exact b6, f3, near3⟩
  have hL : Lay t3 (nd (!f.s) false f.x (nd f.s f.c xb near (far.paint false)) a) (some (upC C)) := (lay_fill (t := t3) (f := ⟨false, f.x, !f.s, a⟩) (a := nd f.s f.c xb near (far.paint false))).2 ⟨by rw [ln]; exact x1, by rw [gx]; exact x2, by rw [gx]; exact x3, by rw [nd_rt]; exact ((kx _).trans x5).trans (nd_rt _ _ _ _ _), by show kidA t3 (f.x : Int) (!(!f.s)) = a.rt; rw [Bool.not_not, kx]; exact x4 _ rfl, by rw [gx]; exact x6, a3, hO⟩
  obtain ⟨v1, v2, v3, v4⟩ := turn_lay c3 hL (by rw [paintT_ids]; exact hN)
  have k4 : Keeps t3 (turnA t3 (f.x : Int) f.s) (fun z => z ∈ a.ids ++ idsC (f :: C)) := ⟨v3, fun z => ⟨(v4 z).1, fun hz => (v4 z).2 (fun h => hz (by
    rw [paintT_ids] at h
    simp only [List.mem_append, List.mem_cons] at h
    rcases h with h | h | h | h | h | h
    · exact List.mem_append_right _ (hfoi _ (Or.inl h))
    · exact List.mem_append_right _ (hfoi _ (Or.inr (Or.inl h)))
    · exact List.mem_append_right _ (hfoi _ (Or.inr (Or.inr h)))
    · simp [idsC, h]
    · simp [h]
    · simp [idsC, h]))⟩⟩
  refine ⟨⟨plug C (nd f.s f.c xb (nd (!f.s) false f.x near a) (far.paint false)), ?_⟩, ((k1.trans k2).trans k3).trans k4⟩
  rw [show (xb : Int) = (nd f.s f.c xb (nd (!f.s) false f.x near a) (far.paint false)).rt from (nd_rt _ _ _ _ _).symm] at v1
  obtain ⟨e1, e2⟩ := lay_plug.2 ⟨v1, v2⟩
  refine ⟨e1, e2, ?_, ?_, ?_⟩
  · rw [plug_walk, plug_walk]
    unfold nd fillF
    simp only [leftC, rightC, ho]
    unfold nd fillF
    cases f.s <;> simp [T.ids, paintT_ids]
  · refine RB_plug hc (RB_fill.2 ⟨fun _ => ⟨fill_red _ _, paint_red _⟩, n + 1, RB_fill.2 ⟨(fun c => by cases c), n, hrn, hra, rfl⟩, RB_black hrf hfar, rfl⟩) (fun c => ?_)
    show (fillF _ _).red = false
    rw [fill_red]
    cases hfc : f.c with
    | false => rfl
    | true => rw [(hcol hfc).2] at c; cases c
  · cases C with
    | nil =>
      show (fillF _ _).red = false
      rw [fill_red]
      cases hfc : f.c with
      | false => rfl
      | true => exact absurd rfl (hcol hfc).1
    | cons g C => exact CB_root hc (by simp)
theorem perm_c {a b : List Nat} (h : ∀ z, a.count z = b.count z) : a.Perm b := List.perm_iff_count.2 h
theorem fill_flip {t : St} {C : List F} {f : F} {a : T} (hC : LayC t (f :: C) (some a.rt)) (ha : Lay t a (some (f.x : Int))) :
    LayC t (⟨f.c, f.x, !f.s, a⟩ :: C) (some f.o.rt) ∧ Lay t f.o (some (f.x : Int)) := by
  obtain ⟨h1, h2, h3, h4, h5, h6, h7, h8⟩ := hC
  exact ⟨⟨h1, h2, h3, (fun y hy => by rw [← Option.some.inj hy]; exact h5), (by show kidA t f.x (!(!f.s)) = a.rt; rw [Bool.not_not]; exact h4 _ rfl), h6, ha, h8⟩, h7⟩
theorem lay_open {t : St} {C : List F} {f : F} {a : T} (hC : LayC t C (some (f.x : Int))) (ha : Lay t (fillF f a) (some (upC C))) : LayC t (f :: C) (some a.rt) ∧ Lay t a (some (f.x : Int)) := by
  obtain ⟨h1, h2, h3, h4, h5, h6, h7, h8⟩ := lay_fill.1 ha
  exact ⟨⟨h1, h2, h3, (fun y hy => by rw [← Option.some.inj hy]; exact h4), h5, h6, h7, hC⟩, h8⟩
theorem lay_shut {t : St} {C : List F} {f : F} {a : T} (hC : LayC t (f :: C) (some a.rt)) (ha : Lay t a (some (f.x : Int))) : LayC t C (some (f.x : Int)) ∧ Lay t (fillF f a) (some (upC C)) := by
  obtain ⟨h1, h2, h3, h4, h5, h6, h7, h8⟩ := hC
  exact ⟨h8, lay_fill.2 ⟨h1, h2, h3, h4 _ rfl, h5, h6, h7, ha⟩⟩
theorem as_ndc (s : Bool) {a : T} (h : a ≠ E) : ∃ x p q, a = nd s a.red x p q := by
  cases a with
  | E => exact absurd rfl h
  | B c l x r =>
    cases s with
    | false => exact ⟨x, l, r, rfl⟩
    | true => exact ⟨x, r, l, rfl⟩
theorem nd_paint (s c b : Bool) (x : Nat) (p q : T) : (nd s c x p q).paint b = nd s b x p q := by
  unfold nd fillF
  cases s <;> rfl
theorem RB_ne {a : T} {n : Nat} (h : RB a (n + 1)) : a ≠ E := fun e => by
  rw [e] at h
  have h2 : n + 1 = 0 := h
  omega
def FillGoal (N : Nat) : Prop := ∀ {t : St} {C : List F} {a : T} {n : Nat}, C.length ≤ N → LayC t C (some a.rt) → Lay t a (some (upC C)) → (a.ids ++ idsC C).Nodup → CB C (n + 1) → (a.red = false ∧ RB a n ∨ a.red = true ∧ RB (a.paint false) (n + 1)) →
  ∃ t', (∀ k, N < k → fillA k t (upC C) (sideC C) = some t') ∧ Mended t t' (plug C a).ids (fun z => z ∈ a.ids ++ idsC C)
theorem fill_black {N : Nat} {t : St} {C : List F} {f : F} {a : T} {n : Nat} (ih : f.c = false → FillGoal N ∧ C.length ≤ N) (hC : LayC t (f :: C) (some a.rt)) (ha : Lay t a (some (f.x : Int))) (hn : (a.ids ++ idsC (f :: C)).Nodup) (hob : f.o.red = false) (ho : RB f.o (n + 1)) (hra : RB a n)
    (hcol : f.c = true → C ≠ [] ∧ topred C = false) (hc : CB C (if f.c then n + 1 else n + 2)) :
    ∃ t', (∀ k, N < k → fillBlack (fillA k) t (f.x : Int) f.s f.o.rt = some t') ∧ Mended t t' (plug (f :: C) a).ids (fun z => z ∈ a.ids ++ idsC (f :: C)) := by
  obtain ⟨na, n1, da⟩ := List.nodup_append.1 hn
  obtain ⟨xb, near, far, hoe⟩ := as_ndc f.s (RB_ne ho)
  rw [hob] at hoe
  have ho2 := ho
  rw [hoe] at ho2
  obtain ⟨_, m, rnear, rfar, hm⟩ := RB_fill.1 ho2
  simp only at rfar hm
  have hmn : m = n := by simpa using hm.symm
  subst hmn
  have hort : f.o.rt = (xb : Int) := by rw [hoe]; exact nd_rt _ _ _ _ _
  have hoi : f.o.ids.Perm (near.ids ++ xb :: far.ids) := by rw [hoe]; exact nd_ids _ _ _ _ _
  obtain ⟨gC, gO⟩ := fill_flip hC ha
  have gO2 := gO
  rw [hoe] at gO2
  obtain ⟨b1, b2, b3, b4, b5, b6, b7, b8⟩ := lay_fill.1 gO2
  simp only at b1 b2 b3 b4 b5 b6 b7
  have rn : redA t near.rt = near.red := red_lay b8
  have rf : redA t far.rt = far.red := red_lay b7
  have hunf : ∀ k, fillBlack (fillA k) t (f.x : Int) f.s f.o.rt = if near.red = false ∧ far.red = false then fillA k (paintA t true (xb : Int)) (upA (paintA t true (xb : Int)) (f.x : Int)) (onA (paintA t true (xb : Int)) (f.x : Int))
      else if far.red = false then fillEnd (turnA (paintA (paintA t false near.rt) true (xb : Int)) (xb : Int) (!f.s)) (f.x : Int) f.s near.rt (xb : Int)
      else fillEnd t (f.x : Int) f.s (xb : Int) far.rt := fun k => by
    rw [hort, fillBlack, if_neg (by omega), b4, b5, rn, rf]
  have bl : 0 ≤ (xb : Int) → ((xb : Int)).toNat < t.ns.length := fun _ => b1
  have hbo : xb ∈ f.o.ids := hoi.mem_iff.2 (by simp)
  have hxba : ∀ z ∈ a.ids, (z : Int) ≠ (xb : Int) := fun z hz e => by
    have e2 : z = xb := by omega
    subst e2
    exact da _ hz _ (by simp [idsC, hbo]) rfl
  by_cases hA : near.red = false ∧ far.red = false
  · -- both black: up
    have hunf1 := fun k => (hunf k).trans (if_pos hA)
    have p1 := paint_side true hC n1
    rw [hort] at p1
    have q1 := paint_other true bl ha hxba
    have k1 : Keeps t (paintA t true (xb : Int)) (fun z => z ∈ a.ids ++ idsC (f :: C)) := paint_keeps _ bl (fun z hz => by
      have e2 : z = xb := by omega
      subst e2
      simp [idsC, hbo])
    generalize paintA t true (xb : Int) = t1 at p1 q1 k1 hunf1
    obtain ⟨v1, v2⟩ := lay_shut p1 q1
    have hup : upA t1 (f.x : Int) = upC C := p1.2.2.2.2.2.1
    have hxC : f.x ∉ idsC C := fun h => (List.nodup_cons.1 n1).1 (List.mem_append_right _ h)
    have hon : onA t1 (f.x : Int) = sideC C := on_side v1 hup hxC
    have hp : ((fillF { f with o := f.o.paint true } a).ids ++ idsC C).Perm (a.ids ++ idsC (f :: C)) := by
      refine ((fill_ids _ _).append_right _).trans ?_
      show ((a.ids ++ f.x :: (f.o.paint true).ids) ++ idsC C).Perm (a.ids ++ (f.x :: (f.o.ids ++ idsC C)))
      rw [paintT_ids]
      simp
    have hrt : (fillF { f with o := f.o.paint true } a).rt = (f.x : Int) := fill_rt _ _
    have hop : f.o.paint true = nd f.s true xb near far := by rw [hoe, nd_paint]
    have hro : RB (f.o.paint true) m := by rw [hop]; exact RB_fill.2 ⟨fun _ => hA, m, rnear, rfar, rfl⟩
    obtain ⟨t', e1, e2⟩ : ∃ t', (∀ k, N < k → fillA k t1 (upC C) (sideC C) = some t') ∧ Mended t1 t' (plug C (fillF { f with o := f.o.paint true } a)).ids (fun z => z ∈ (fillF { f with o := f.o.paint true } a).ids ++ idsC C) := by
      have hfr := fill_red { f with o := f.o.paint true } a
      by_cases hfc : f.c = true
      rotate_left
      · rw [if_neg hfc] at hc
        have hfc : f.c = false := by simpa using hfc
        obtain ⟨ih1, ih2⟩ := ih hfc
        exact ih1 (n := m + 1) ih2 (by rw [hrt]; exact v1) v2 (hp.nodup_iff.2 hn) hc (Or.inl ⟨hfr.trans hfc, RB_fill.2 ⟨(fun e => by rw [show ({ f with o := f.o.paint true } : F).c = f.c from rfl, hfc] at e; cases e), m, hra, hro, by rw [show ({ f with o := f.o.paint true } : F).c = f.c from rfl, hfc]; rfl⟩⟩)
      · rw [if_pos hfc] at hc
        obtain ⟨t', e1, e2⟩ := fill_exit (n := m) (C := C) (t := t1) (a := fillF { f with o := f.o.paint true } a) (by rw [hrt]; exact v1) v2 (hp.nodup_iff.2 hn) hc (Or.inl ⟨hfr.trans hfc, by
          rw [show (fillF { f with o := f.o.paint true } a).paint false = nd f.s false f.x a (f.o.paint true) from nd_paint f.s f.c false f.x a (f.o.paint true)]
          exact RB_fill.2 ⟨(fun e => by cases e), m, hra, hro, rfl⟩⟩)
        exact ⟨t', fun k hk => e1 k (by omega), e2⟩
    refine ⟨t', fun k hk => by rw [hunf1, hup, hon]; exact e1 k hk, ⟨?_, k1.trans (e2.keeps.mono (fun z hz => hp.mem_iff.1 hz))⟩⟩
    obtain ⟨A, g1, g2, g3, g4⟩ := e2.ex
    refine ⟨A, g1, g2, ?_, g4⟩
    rw [g3, plug_walk, plug_walk]
    unfold fillF
    simp only [leftC, rightC]
    cases f.s <;> simp [T.ids, paintT_ids]
  · have hunf1 := fun k => (hunf k).trans (if_neg hA)
    cases hfr : far.red with
    | true =>
      obtain ⟨t', e1, e2⟩ := fillEnd_lay hC ha hn hoe hfr rnear rfar hra hcol hc
      exact ⟨t', fun k hk => by rw [hunf1, if_neg (by rw [hfr]; simp)]; exact e1, e2⟩
    | false =>
      have hnr : near.red = true := by
        cases h : near.red with
        | true => rfl
        | false => exact absurd ⟨h, hfr⟩ hA
      have hunf2 := fun k => (hunf1 k).trans (if_pos hfr)
      obtain ⟨xn, b', d', rfl⟩ := as_nd (!f.s) hnr
      obtain ⟨rc, m2, rb', rd', hm2⟩ := RB_fill.1 rnear
      simp only at rc rd' hm2
      have hmm : m2 = m := by simpa using hm2.symm
      subst hmm
      obtain ⟨bb, db⟩ := rc trivial
      have hni : (nd (!f.s) true xn b' d').ids.Perm (b'.ids ++ xn :: d'.ids) := nd_ids _ _ _ _ _
      have c1 : ∀ z, (nd (!f.s) true xn b' d').ids.count z = b'.ids.count z + (d'.ids.count z + if xn == z then 1 else 0) := fun z => by
        rw [hni.count_eq]; simp only [List.count_append, List.count_cons]
      have c2 : ∀ z, f.o.ids.count z = (nd (!f.s) true xn b' d').ids.count z + (far.ids.count z + if xb == z then 1 else 0) := fun z => by
        rw [hoi.count_eq]; simp only [List.count_append, List.count_cons]
      have cI : ∀ z, (a.ids ++ idsC (f :: C)).count z = a.ids.count z + (f.o.ids.count z + (idsC C).count z + if f.x == z then 1 else 0) := fun z => by
        simp only [idsC, List.count_append, List.count_cons]
      -- the frames of the near child
      have hD : ((nd (!f.s) true xn b' d').ids ++ idsC (⟨false, xb, f.s, far⟩ :: ⟨f.c, f.x, !f.s, a⟩ :: C)).Nodup := by
        refine (perm_c (fun z => ?_)).nodup_iff.1 hn
        rw [cI, c2]
        simp only [idsC, List.count_append, List.count_cons]
        omega
      obtain ⟨nn, nD, dD⟩ := List.nodup_append.1 hD
      rw [hort] at gC
      obtain ⟨y1, y2⟩ := lay_open (f := ⟨false, xb, f.s, far⟩) gC gO2
      have nl := rt_lt y2.loose
      have p1 := paint_lay false y2 nn
      have p2 := paint_otherC false nl y1 (fun z hz e => dD z (rt_mem z e) z hz rfl)
      have hmemI : ∀ z, (z ∈ (nd (!f.s) true xn b' d').ids ∨ z = xb ∨ z ∈ far.ids) → z ∈ a.ids ++ idsC (f :: C) := fun z hz => by
        have : z ∈ f.o.ids := hoi.mem_iff.2 (by rcases hz with h | h | h <;> simp [h])
        simp [idsC, this]
      have k1 : Keeps t (paintA t false (nd (!f.s) true xn b' d').rt) (fun z => z ∈ a.ids ++ idsC (f :: C)) := paint_keeps _ nl (fun z hz => hmemI z (Or.inl (rt_mem z hz)))
      rw [nd_paint] at p1
      have hnrt := nd_rt (!f.s) true xn b' d'
      rw [hnrt] at p1 p2 k1 hunf2
      generalize paintA t false (xn : Int) = t1 at p1 p2 k1 hunf2
      have bl1 : 0 ≤ (xb : Int) → ((xb : Int)).toNat < t1.ns.length := fun _ => p2.1
      have p3 := paint_top true p2 nD
      have hxbn : ∀ z ∈ (nd (!f.s) true xn b' d').ids, (z : Int) ≠ (xb : Int) := fun z hz e => by
        have e2 : z = xb := by omega
        subst e2
        exact dD _ hz _ (by simp [idsC]) rfl
      have p4 := paint_other true bl1 p1 (fun z hz e => hxbn z (by rw [hni.mem_iff]; rw [(nd_ids _ _ _ _ _).mem_iff] at hz; exact hz) e)
      have k2 : Keeps t1 (paintA t1 true (xb : Int)) (fun z => z ∈ a.ids ++ idsC (f :: C)) := paint_keeps _ bl1 (fun z hz => hmemI z (Or.inr (Or.inl (by omega))))
      change LayC (paintA t1 true (xb : Int)) (⟨true, xb, f.s, far⟩ :: ⟨f.c, f.x, !f.s, a⟩ :: C) _ at p3
      generalize paintA t1 true (xb : Int) = t2 at p3 p4 k2 hunf2
      rw [show ((xn : Nat) : Int) = (nd (!f.s) false xn b' d').rt from (nd_rt _ _ _ _ _).symm] at p3
      obtain ⟨s1, s2⟩ := lay_shut p3 p4
      have s2' : Lay t2 (nd (!(!f.s)) true xb (nd (!f.s) false xn b' d') far) (some (f.x : Int)) := by
        rw [Bool.not_not]; exact s2
      have hN : (b'.ids ++ (xn :: (d'.ids ++ (xb :: (far.ids ++ idsC (⟨f.c, f.x, !f.s, a⟩ :: C)))))).Nodup := by
        refine (perm_c (fun z => ?_)).nodup_iff.1 hn
        rw [cI, c2, c1]
        simp only [idsC, List.count_append, List.count_cons]
        omega
      obtain ⟨v1, v2, v3, v4⟩ := turn_lay (C := ⟨f.c, f.x, !f.s, a⟩ :: C) s1 s2' hN
      have k3 : Keeps t2 (turnA t2 (xb : Int) (!f.s)) (fun z => z ∈ a.ids ++ idsC (f :: C)) := ⟨v3, fun z => ⟨(v4 z).1, fun hz => (v4 z).2 (fun h => hz (by
        have h2 := List.count_pos_iff.2 h
        refine List.count_pos_iff.1 ?_
        rw [cI, c2, c1]
        simp only [idsC, List.count_append, List.count_cons] at h2
        omega))⟩⟩
      generalize turnA t2 (xb : Int) (!f.s) = t3 at v1 v2 v3 k3 hunf2
      rw [Bool.not_not, nd_swap (!f.s), Bool.not_not] at v2
      have v1' : LayC t3 (⟨f.c, f.x, !f.s, a⟩ :: C) (some (nd f.s false xn d' (nd f.s true xb b' far)).rt) := by rw [nd_rt]; exact v1
      obtain ⟨w1, w2⟩ := fill_flip v1' v2
      simp only [Bool.not_not] at w1 w2
      have hp : (a.ids ++ idsC (⟨f.c, f.x, f.s, nd f.s false xn d' (nd f.s true xb b' far)⟩ :: C)).Perm (a.ids ++ idsC (f :: C)) := by
        refine perm_c (fun z => ?_)
        rw [cI, c2, c1]
        simp only [idsC, List.count_append, List.count_cons]
        rw [(nd_ids _ _ _ _ _).count_eq]
        simp only [List.count_append, List.count_cons]
        rw [(nd_ids _ _ _ _ _).count_eq]
        simp only [List.count_append, List.count_cons]
        omega
      obtain ⟨t', e1, e2⟩ := fillEnd_lay (f := ⟨f.c, f.x, f.s, nd f.s false xn d' (nd f.s true xb b' far)⟩) (far := nd f.s true xb b' far) (near := d') (xb := xn) (n := m2) w1 w2 (hp.nodup_iff.2 hn) rfl (fill_red _ _) rd' (RB_fill.2 ⟨fun _ => ⟨bb, hfr⟩, m2, rb', rfar, rfl⟩) hra hcol hc
      rw [nd_rt] at e1
      refine ⟨t', fun k hk => by rw [hunf2]; exact e1, ⟨?_, ((k1.trans k2).trans k3).trans (e2.keeps.mono (fun z hz => hp.mem_iff.1 hz))⟩⟩
      obtain ⟨A, g1, g2, g3, g4⟩ := e2.ex
      refine ⟨A, g1, g2, ?_, g4⟩
      rw [g3, plug_walk, plug_walk]
      simp only [leftC, rightC, hoe]
      unfold nd fillF
      cases f.s <;> simp [T.ids]
theorem fill_lay : ∀ N, FillGoal N := by
  intro N
  induction N with
  | zero =>
    intro t C a n hlen hC ha hn hc h
    have hC0 : C = [] := List.length_eq_zero_iff.1 (by omega)
    refine fill_exit hC ha hn hc ?_
    rcases h with h | h
    · exact Or.inr ⟨hC0, h.2⟩
    · exact Or.inl h
  | succ N ih =>
    intro t C a n hlen hC ha hn hc h
    rcases h with ⟨har, hra⟩ | h
    · match C, hlen, hC, ha, hn, hc with
      | [], hlen, hC, ha, hn, hc =>
        obtain ⟨t', e1, e2⟩ := fill_exit hC ha hn hc (Or.inr ⟨rfl, hra⟩)
        exact ⟨t', fun k hk => e1 k (by omega), e2⟩
      | f :: C, hlen, hC, ha, hn, hc =>
        obtain ⟨ho, hcol, hc2⟩ := hc
        obtain ⟨na, n1, da⟩ := List.nodup_append.1 hn
        have hlen2 : C.length ≤ N := by simp at hlen; omega
        have hk : kidA t (f.x : Int) f.s = a.rt := hC.2.2.2.1 _ rfl
        have hko : kidA t (f.x : Int) (!f.s) = f.o.rt := hC.2.2.2.2.1
        have hra2 : redA t a.rt = false := by rw [red_lay ha, har]
        have hro : redA t f.o.rt = f.o.red := red_lay hC.2.2.2.2.2.2.1
        have hunf : ∀ k, fillA (k + 1) t (upC (f :: C)) (sideC (f :: C)) = if f.o.red = true then fillBlack (fillA k) (turnA (paintA (paintA t false f.o.rt) true (f.x : Int)) (f.x : Int) f.s) (f.x : Int) f.s (kidA (turnA (paintA (paintA t false f.o.rt) true (f.x : Int)) (f.x : Int) f.s) (f.x : Int) (!f.s))
            else fillBlack (fillA k) t (f.x : Int) f.s f.o.rt := fun k => by
          rw [fillA, show upC (f :: C) = (f.x : Int) from rfl, show sideC (f :: C) = f.s from rfl, if_pos (by omega), hk, hra2, if_neg (by simp), hko, hro]
        cases hor : f.o.red with
        | false =>
          obtain ⟨t', e1, e2⟩ := fill_black (fun _ => ⟨ih, hlen2⟩) hC ha hn hor ho hra (fun e => (hcol e).2) hc2
          refine ⟨t', fun k hk => ?_, e2⟩
          obtain ⟨k, rfl⟩ : ∃ m, k = m + 1 := ⟨k - 1, by omega⟩
          rw [hunf, if_neg (by rw [hor]; simp)]
          exact e1 k (by omega)
        | true =>
          have hfc : f.c = false := by
            cases hfc : f.c with
            | false => rfl
            | true => rw [(hcol hfc).1] at hor; cases hor
          obtain ⟨xb, near, far, hoe⟩ := as_nd f.s hor
          have ho2 := ho
          rw [hoe] at ho2
          obtain ⟨rc, m, rnear, rfar, hm⟩ := RB_fill.1 ho2
          simp only at rc rfar hm
          have hmn : m = n + 1 := by simpa using hm.symm
          subst hmn
          obtain ⟨nr, fr⟩ := rc trivial
          have hort : f.o.rt = (xb : Int) := by rw [hoe]; exact nd_rt _ _ _ _ _
          have hoi : f.o.ids.Perm (near.ids ++ xb :: far.ids) := by rw [hoe]; exact nd_ids _ _ _ _ _
          have c2 : ∀ z, f.o.ids.count z = near.ids.count z + (far.ids.count z + if xb == z then 1 else 0) := fun z => by
            rw [hoi.count_eq]; simp only [List.count_append, List.count_cons]
          have cI : ∀ z, (a.ids ++ idsC (f :: C)).count z = a.ids.count z + (f.o.ids.count z + (idsC C).count z + if f.x == z then 1 else 0) := fun z => by
            simp only [idsC, List.count_append, List.count_cons]
          have hbo : xb ∈ f.o.ids := hoi.mem_iff.2 (by simp)
          have bl := rt_lt (Lay.loose hC.2.2.2.2.2.2.1)
          have p1 := paint_side false hC n1
          have q1 := paint_other false bl ha (fun z hz e => da z hz z (by simp [idsC, rt_mem z e]) rfl)
          have k1 : Keeps t (paintA t false f.o.rt) (fun z => z ∈ a.ids ++ idsC (f :: C)) := paint_keeps _ bl (fun z hz => by simp [idsC, rt_mem z hz])
          have hunf1 := fun k => (hunf k).trans (if_pos hor)
          generalize paintA t false f.o.rt = t1 at p1 q1 k1 hunf1
          have n1' : (idsC ({ f with o := f.o.paint false } :: C)).Nodup := by
            show (f.x :: ((f.o.paint false).ids ++ idsC C)).Nodup
            rw [paintT_ids]; exact n1
          have fl : 0 ≤ (f.x : Int) → ((f.x : Int)).toNat < t1.ns.length := fun _ => p1.1
          have p2 := paint_top true p1 n1'
          have q2 := paint_other true fl q1 (fun z hz e => da z hz f.x (by simp [idsC]) (by omega))
          have k2 : Keeps t1 (paintA t1 true (f.x : Int)) (fun z => z ∈ a.ids ++ idsC (f :: C)) := paint_keeps _ fl (fun z hz => by
            have e2 : z = f.x := by omega
            subst e2; simp [idsC])
          change LayC (paintA t1 true (f.x : Int)) _ _ at p2
          generalize paintA t1 true (f.x : Int) = t2 at p2 q2 k2 hunf1
          obtain ⟨g1, g2⟩ := fill_flip p2 q2
          simp only [hoe, nd_paint] at g1 g2
          have hfx : (nd f.s false xb near far).rt = (xb : Int) := nd_rt _ _ _ _ _
          -- the whole node f, as a tree with the other child foremost
          obtain ⟨s1, s2⟩ := lay_shut g1 g2
          have s2' : Lay t2 (nd (!f.s) true f.x (nd f.s false xb near far) a) (some (upC C)) := s2
          have hN : (near.ids ++ (xb :: (far.ids ++ (f.x :: (a.ids ++ idsC C))))).Nodup := by
            refine (perm_c (fun z => ?_)).nodup_iff.1 hn
            rw [cI, c2]
            simp only [List.count_append, List.count_cons]
            omega
          obtain ⟨v1, v2, v3, v4⟩ := turn_lay (s := f.s) s1 s2' hN
          have k3 : Keeps t2 (turnA t2 (f.x : Int) f.s) (fun z => z ∈ a.ids ++ idsC (f :: C)) := ⟨v3, fun z => ⟨(v4 z).1, fun hz => (v4 z).2 (fun h => hz (by
            have h2 := List.count_pos_iff.2 h
            refine List.count_pos_iff.1 ?_
            rw [cI, c2]
            simp only [List.count_append, List.count_cons] at h2
            omega))⟩⟩
          generalize turnA t2 (f.x : Int) f.s = t3 at v1 v2 v3 k3 hunf1
          obtain ⟨o1, o2⟩ := lay_open (f := ⟨false, xb, f.s, far⟩) v1 v2
          rw [nd_rt] at o1
          rw [nd_swap (!f.s), Bool.not_not] at o2
          obtain ⟨r1, r2⟩ := lay_open (C := ⟨false, xb, f.s, far⟩ :: C) (f := ⟨true, f.x, f.s, near⟩) o1 o2
          have hkn : kidA t3 (f.x : Int) (!f.s) = near.rt := r1.2.2.2.2.1
          have hp : (a.ids ++ idsC (⟨true, f.x, f.s, near⟩ :: ⟨false, xb, f.s, far⟩ :: C)).Perm (a.ids ++ idsC (f :: C)) := by
            refine perm_c (fun z => ?_)
            rw [cI, c2]
            simp only [idsC, List.count_append, List.count_cons]
            omega
          rw [hfc] at hc2
          obtain ⟨t', e1, e2⟩ := fill_black (N := N) (f := ⟨true, f.x, f.s, near⟩) (C := ⟨false, xb, f.s, far⟩ :: C) (fun e => by cases e) r1 r2 (hp.nodup_iff.2 hn) nr rnear hra (fun _ => ⟨by simp, rfl⟩) ⟨rfar, (fun e => by cases e), hc2⟩
          refine ⟨t', fun k hk => ?_, ⟨?_, ((k1.trans k2).trans k3).trans (e2.keeps.mono (fun z hz => hp.mem_iff.1 hz))⟩⟩
          · obtain ⟨k, rfl⟩ : ∃ m, k = m + 1 := ⟨k - 1, by omega⟩
            rw [hunf1, hkn]
            exact e1 k (by omega)
          · obtain ⟨A, g1, g2, g3, g4⟩ := e2.ex
            refine ⟨A, g1, g2, ?_, g4⟩
            rw [g3, plug_walk, plug_walk]
            simp only [leftC, rightC, hoe]
            unfold nd fillF
            cases f.s <;> simp [T.ids]
    · obtain ⟨t', e1, e2⟩ := fill_exit hC ha hn hc (Or.inl h)
      exact ⟨t', fun k hk => e1 k (by omega), e2⟩
theorem plugs_lay {t : St} {C : List F} : ∀ {D : List F} {a : T}, (LayC t C (some (plug D a).rt) ∧ Lay t (plug D a) (some (upC C))) ↔ (LayC t (D ++ C) (some a.rt) ∧ Lay t a (some (upC (D ++ C))))
  | [], a => Iff.rfl
  | f :: D, a => by
    show (LayC t C (some (plug D (fillF f a)).rt) ∧ Lay t (plug D (fillF f a)) (some (upC C))) ↔ _
    rw [plugs_lay (D := D) (a := fillF f a), fill_rt]
    constructor
    · intro ⟨h1, h2⟩
      exact lay_open h1 h2
    · intro ⟨h1, h2⟩
      exact lay_shut h1 h2
theorem plugs_plug : ∀ (D C : List F) (a : T), plug (D ++ C) a = plug C (plug D a)
  | [], _, _ => rfl
  | f :: D, C, a => plugs_plug D C (fillF f a)
theorem idsC_app : ∀ (D C : List F), idsC (D ++ C) = idsC D ++ idsC C
  | [], _ => rfl
  | f :: D, C => by show f.x :: (f.o.ids ++ idsC (D ++ C)) = _; rw [idsC_app D C]; simp [idsC]
theorem CB_same {x y : Nat} {c s : Bool} {o : T} {C : List F} : ∀ {D : List F} {n : Nat}, CB (D ++ ⟨c, x, s, o⟩ :: C) n → CB (D ++ ⟨c, y, s, o⟩ :: C) n
  | [], n, h => h
  | f :: D, n, ⟨h1, h2, h3⟩ => by
    refine ⟨h1, fun e => ?_, CB_same h3⟩
    obtain ⟨k1, k2, k3⟩ := h2 e
    refine ⟨k1, by simp, ?_⟩
    cases D with
    | nil => exact k3
    | cons g D => exact k3
theorem hang_sub {t : St} {x : Int} {s : Bool} {a : T} (hx : 0 ≤ x → x.toNat < t.ns.length) (ha : Lay t a none) (hd : ∀ z ∈ a.ids, (z : Int) ≠ x) (hna : a.ids.Nodup) : Lay (hangA t x s a.rt) a (some x) := by
  cases a with
  | E => trivial
  | B c l y r =>
    have hl := rt_lt ha
    obtain ⟨h1, h2, h3, h4, h5, h6, h7, h8⟩ := ha
    have hg : ∀ z : Nat, (z : Int) ≠ x → gn (hangA t x s (B c l y r).rt) z = if z = y then { gn t z with u := x } else gn t z := fun z hz => by
      rw [hang_gn s hx hl, hang1_gn _ _ hx, if_neg (show ¬ (0 ≤ x ∧ z = x.toNat) by omega)]
      by_cases e : z = y
      · rw [if_pos e, if_pos ⟨by show (0 : Int) ≤ (y : Int); omega, by show z = ((y : Int)).toNat; omega⟩]
      · rw [if_neg e, if_neg (fun h => e (by have h2 : z = ((y : Int)).toNat := h.2; omega))]
    have hn2 : (l.ids ++ y :: r.ids).Nodup := hna
    obtain ⟨n1, n2, n3⟩ := List.nodup_append.1 hn2
    have hy := hg y (hd y (by simp [T.ids]))
    rw [if_pos rfl] at hy
    have hk : ∀ z, z ∈ l.ids ∨ z ∈ r.ids → gn (hangA t x s (B c l y r).rt) z = gn t z := fun z hz => by
      rw [hg z (hd z (by rcases hz with h | h <;> simp [T.ids, h])), if_neg]
      intro e
      subst e
      rcases hz with hz | hz
      · exact n3 z hz z List.mem_cons_self rfl
      · exact (List.nodup_cons.1 n2).1 hz
    have hlen := hang_len t x s (B c l y r).rt
    exact ⟨by rw [hlen]; exact h1, by rw [hy]; exact h2, by rw [hy]; exact h3, by rw [hy]; exact h4, by rw [hy]; exact h5, fun p hp => by rw [hy, ← Option.some.inj hp], Lay.congr hlen (fun z hz => hk z (Or.inl hz)) h7, Lay.congr hlen (fun z hz => hk z (Or.inr hz)) h8⟩
def leftA : Nat → St → Int → Option Int
  | 0, _, _ => none
  | k + 1, t, y => if 0 ≤ kidA t y false then leftA k t (kidA t y false) else some y
def leftD : T → List F → List F × (Bool × Nat × T)
  | E, D => (D, false, 0, E)
  | B c E x r, D => (D, c, x, r)
  | B c (B c2 l2 x2 r2) x r, D => leftD (B c2 l2 x2 r2) (⟨c, x, false, r⟩ :: D)
theorem leftD_plug : ∀ (a : T) (D : List F), a ≠ E → plug (leftD a D).1 (B (leftD a D).2.1 E (leftD a D).2.2.1 (leftD a D).2.2.2) = plug D a
  | E, D, h => absurd rfl h
  | B c E x r, D, _ => rfl
  | B c (B c2 l2 x2 r2) x r, D, _ => by
    rw [leftD, leftD_plug (B c2 l2 x2 r2) _ (by simp)]
    rfl
theorem leftD_side : ∀ (a : T) (D : List F), (∀ f ∈ D, f.s = false) → ∀ f ∈ (leftD a D).1, f.s = false
  | E, D, h => h
  | B c E x r, D, h => h
  | B c (B c2 l2 x2 r2) x r, D, h => leftD_side (B c2 l2 x2 r2) _ (fun f hf => by
    rcases List.mem_cons.1 hf with rfl | hf
    · rfl
    · exact h f hf)
theorem leftC_left : ∀ {D : List F}, (∀ f ∈ D, f.s = false) → leftC D = []
  | [], _ => rfl
  | f :: D, h => by
    show leftC D ++ (if f.s then f.o.ids ++ [f.x] else []) = []
    rw [leftC_left (fun g hg => h g (List.mem_cons_of_mem _ hg)), h f List.mem_cons_self]
    rfl
theorem leftA_lay {t : St} : ∀ (a : T) (D : List F) (u : Option Int) (k : Nat), a ≠ E → a.size ≤ k → Lay t a u → leftA k t a.rt = some ((leftD a D).2.2.1 : Int)
  | E, D, u, k, h, _, _ => absurd rfl h
  | B c l x r, D, u, 0, _, hk, _ => absurd hk (by show ¬ l.size + r.size + 1 ≤ 0; omega)
  | B c E x r, D, u, k + 1, _, hk, ⟨h1, h2, h3, h4, h5, h6, h7, h8⟩ => by
    have e : kidA t (x : Int) false = -1 := by unfold kidA; rw [Int.toNat_natCast]; exact h4
    rw [leftA, show (B c E x r).rt = (x : Int) from rfl, e, if_neg (by omega)]
    rfl
  | B c (B c2 l2 x2 r2) x r, D, u, k + 1, _, hk, ⟨h1, h2, h3, h4, h5, h6, h7, h8⟩ => by
    have e : kidA t (x : Int) false = (x2 : Int) := by unfold kidA; rw [Int.toNat_natCast]; exact h4
    rw [leftA, show (B c (B c2 l2 x2 r2) x r).rt = (x : Int) from rfl, e, if_pos (by omega)]
    exact leftA_lay (B c2 l2 x2 r2) (⟨c, x, false, r⟩ :: D) (some (x : Int)) k (by simp) (by
      have hk2 : (B c2 l2 x2 r2).size + r.size + 1 ≤ k + 1 := hk
      omega) h7
theorem sn_lay {t : St} {x : Nat} {n : Nd} {a : T} {u : Option Int} (hx : x < t.ns.length) (ha : Lay t a u) (h : x ∉ a.ids) : Lay (sn t x n) a u :=
  Lay.congr (sn_len _ _ _) (fun z hz => by rw [gn_sn _ _ _ _ hx, if_neg (fun e => h (by rw [← e]; exact hz))]) ha
theorem sn_layC {t : St} {x : Nat} {n : Nd} {C : List F} {k : Option Int} (hx : x < t.ns.length) (hC : LayC t C k) (h : x ∉ idsC C) : LayC (sn t x n) C k :=
  LayC.congr (sn_len _ _ _) rfl (fun z hz => by rw [gn_sn _ _ _ _ hx, if_neg (fun e => h (by rw [← e]; exact hz))]) hC
theorem hang_keeps {t : St} {x y : Int} {s : Bool} {S : Nat → Prop} (hx : 0 ≤ x → x.toNat < t.ns.length) (hy : 0 ≤ y → y.toNat < t.ns.length) (h1 : ∀ z : Nat, (z : Int) = x → S z) (h2 : ∀ z : Nat, (z : Int) = y → S z) : Keeps t (hangA t x s y) S :=
  ⟨hang_len _ _ _ _, fun z => ⟨hang_v s hx hy z, fun hz => by
    rw [hang_gn s hx hy, if_neg (fun h => hz (h2 z (by omega))), hang1_gn _ _ hx, if_neg (fun h => hz (h1 z (by omega)))]⟩⟩
def placeA (t : St) (up : Int) (at_ : Bool) (y l : Int) (c : Bool) : St := paintA (hangA (hangA t up at_ y) y false l) c y
theorem place_lay {t : St} {C : List F} {y : Nat} {c : Bool} {l R : T} (hC : LayC t C none) (hy : y < t.ns.length) (hin : (gn t y).inn = true) (hk : kidA t (y : Int) true = R.rt) (hR : Lay t R (some (y : Int))) (hl : Lay t l none) (hn : (y :: (R.ids ++ (l.ids ++ idsC C))).Nodup) :
    LayC (placeA t (upC C) (sideC C) (y : Int) l.rt c) (⟨c, y, true, l⟩ :: C) (some R.rt) ∧ Lay (placeA t (upC C) (sideC C) (y : Int) l.rt c) R (some (y : Int)) ∧ Keeps t (placeA t (upC C) (sideC C) (y : Int) l.rt c) (fun z => z ∈ y :: (R.ids ++ (l.ids ++ idsC C))) := by
  obtain ⟨yn, n1⟩ := List.nodup_cons.1 hn
  obtain ⟨nR, n2, dR⟩ := List.nodup_append.1 n1
  obtain ⟨nl, nC, dl⟩ := List.nodup_append.1 n2
  have hyl : 0 ≤ (y : Int) → ((y : Int)).toNat < t.ns.length := fun _ => hy
  have nF : (idsC (⟨(gn t y).red, y, false, R⟩ :: C)).Nodup := by
    refine List.nodup_cons.2 ⟨fun h => yn ?_, List.nodup_append.2 ⟨nR, nC, fun a ha z hz => dR a ha z (List.mem_append_right _ hz)⟩⟩
    rcases List.mem_append.1 h with h | h
    · exact List.mem_append_left _ h
    · exact List.mem_append_right _ (List.mem_append_right _ h)
  have k1 := hang_ctx (f := ⟨(gn t y).red, y, false, R⟩) hC hy hin rfl hk hR nF
  have q1 : Lay (hangA t (upC C) (sideC C) (y : Int)) l none := Lay.congr (hang_len _ _ _ _) (fun z hz => hang_keepY hC hyl z (fun e => dl z hz z (up_mem z e) rfl) (fun e => yn (by
    have e2 : z = y := by omega
    subst e2; simp [hz]))) hl
  have s1 : Keeps t (hangA t (upC C) (sideC C) (y : Int)) (fun z => z ∈ y :: (R.ids ++ (l.ids ++ idsC C))) := hang_keeps (upC_lt hC) hyl (fun z hz => by simp [up_mem z hz]) (fun z hz => by
    have e2 : z = y := by omega
    subst e2; simp)
  unfold placeA
  simp only at k1
  generalize hangA t (upC C) (sideC C) (y : Int) = t1 at k1 q1 s1 ⊢
  obtain ⟨k2, k3⟩ := hang_lay k1 q1 (fun z hz h => by
    rcases List.mem_cons.1 h with h | h
    · have h : z = y := h
      subst h; exact yn (by simp [hz])
    · rcases List.mem_append.1 h with h | h
      · exact dR z h z (by simp [hz]) rfl
      · exact dl z hz z h rfl) nF nl
  have hy1 : 0 ≤ (y : Int) → ((y : Int)).toNat < t1.ns.length := fun _ => by rw [s1.len]; exact hy
  have s2 : Keeps t1 (hangA t1 (y : Int) false l.rt) (fun z => z ∈ y :: (R.ids ++ (l.ids ++ idsC C))) := hang_keeps hy1 (rt_lt q1) (fun z hz => by
    have e2 : z = y := by omega
    subst e2; simp) (fun z hz => by simp [rt_mem z hz])
  change LayC (hangA t1 (y : Int) false l.rt) _ _ at k2
  change Lay (hangA t1 (y : Int) false l.rt) _ _ at k3
  generalize hangA t1 (y : Int) false l.rt = t2 at k2 k3 s2 ⊢
  have hy2 : 0 ≤ (y : Int) → ((y : Int)).toNat < t2.ns.length := fun _ => by rw [s2.len, s1.len]; exact hy
  have k4 := paint_top c k2 nF
  have k5 := paint_other c hy2 k3 (fun z hz e => yn (by
    have e2 : z = y := by omega
    subst e2; simp [hz]))
  have s3 : Keeps t2 (paintA t2 c (y : Int)) (fun z => z ∈ y :: (R.ids ++ (l.ids ++ idsC C))) := paint_keeps c hy2 (fun z hz => by
    have e2 : z = y := by omega
    subst e2; simp)
  obtain ⟨f1, f2⟩ := fill_flip k4 k5
  exact ⟨f1, f2, (s1.trans s2).trans s3⟩
theorem plug_rt : ∀ {D : List F} (a b : T), D ≠ [] → (plug D a).rt = (plug D b).rt
  | [], _, _, h => absurd rfl h
  | [f], a, b, _ => by show (fillF f a).rt = (fillF f b).rt; rw [fill_rt, fill_rt]
  | f :: g :: D, a, b, _ => plug_rt (D := g :: D) (fillF f a) (fillF f b) (by simp)
theorem plug_find {x : Nat} : ∀ {a : T}, x ∈ a.ids → ∃ C c l r, a = plug C (B c l x r)
  | E, h => by cases h
  | B c l y r, h => by
    rcases List.mem_append.1 h with h | h
    · obtain ⟨C, c', l', r', e⟩ := plug_find h
      exact ⟨C ++ [⟨c, y, false, r⟩], c', l', r', by rw [plugs_plug, ← e]; rfl⟩
    · rcases List.mem_cons.1 h with rfl | h
      · exact ⟨[], c, l, r, rfl⟩
      · obtain ⟨C, c', l', r', e⟩ := plug_find h
        exact ⟨C ++ [⟨c, y, true, l⟩], c', l', r', by rw [plugs_plug, ← e]; rfl⟩
def fillIf (k : Nat) (goes : Bool) (t : St) (p : Int) (s : Bool) : Option St := if goes = true then some t else fillA k t p s
theorem fill_if {N : Nat} {t : St} {X : List F} {a : T} {n : Nat} (goes : Bool) (hlen : X.length ≤ N) (hC : LayC t X (some a.rt)) (ha : Lay t a (some (upC X))) (hn : (a.ids ++ idsC X).Nodup) (hc : CB X (if goes = true then n else n + 1)) (hra : RB a n) (hg : goes = true → a.red = false ∧ X ≠ []) :
    ∃ t', (∀ k, N < k → fillIf k goes t (upC X) (sideC X) = some t') ∧ Mended t t' (plug X a).ids (fun z => z ∈ a.ids ++ idsC X) := by
  cases goes with
  | true =>
    obtain ⟨h1, h2⟩ := lay_plug.2 ⟨hC, ha⟩
    rw [if_pos rfl] at hc
    obtain ⟨g1, g2⟩ := hg rfl
    exact ⟨t, fun k hk => rfl, ⟨plug X a, h1, h2, rfl, RB_plug hc hra (fun _ => g1), CB_root hc g2⟩, Keeps.refl _ _⟩
  | false =>
    rw [if_neg (by simp)] at hc
    refine fill_lay N hlen hC ha hn hc ?_
    cases hr : a.red with
    | false => exact Or.inl ⟨rfl, hra⟩
    | true => exact Or.inr ⟨rfl, RB_black hra hr⟩
def delEnd (k : Nat) (t : St) (id : Nat) (up : Int) (at_ : Bool) (l : Int) (c : Bool) (y p : Int) (s goes : Bool) : Option St := fillIf k goes (sn (placeA t up at_ y l c) id emp) p s
def delA (k : Nat) (t : St) (id : Nat) : Option St :=
  if (gn t id).l < 0 ∨ (gn t id).r < 0 then fillIf k (gn t id).red (sn (hangA t (gn t id).u (onA t id) (max (gn t id).l (gn t id).r)) id emp) (gn t id).u (onA t id)
  else match leftA k t (gn t id).r with
    | none => none
    | some y =>
      if y = (gn t id).r then delEnd k t id (gn t id).u (onA t id) (gn t id).l (gn t id).red y y true (redA t y)
      else delEnd k (hangA (hangA t (upA t y) false (kidA t y true)) y true (gn t id).r) id (gn t id).u (onA t id) (gn t id).l (gn t id).red y (upA t y) false (redA t y)
theorem size_ids : ∀ a : T, a.ids.length = a.size
  | E => rfl
  | B c l x r => by
    show (l.ids ++ x :: r.ids).length = l.size + r.size + 1
    rw [List.length_append, List.length_cons, size_ids l, size_ids r]; omega
structure Taken (t t' : St) (id : Nat) (a : T) : Prop where
  ex : ∃ lf rg A, a.ids = lf ++ id :: rg ∧ Lay t' A (some (-1)) ∧ t'.rt = A.rt ∧ A.ids = lf ++ rg ∧ (∃ m, RB A m) ∧ A.red = false
  len : t'.ns.length = t.ns.length
  gone : gn t' id = emp
  keeps : ∀ z, z ≠ id → (gn t' z).v = (gn t z).v ∧ (z ∉ a.ids → gn t' z = gn t z)
theorem taken_of {t t1 t' : St} {id : Nat} {a b : T} {X : List F} {lf rg : List Nat} (hid : id < t.ns.length) (hs : a.ids = lf ++ id :: rg) (hp : (plug X b).ids = lf ++ rg) (hn : a.ids.Nodup) (hk : Keeps t t1 (fun z => z ∈ a.ids)) (hm : Mended (sn t1 id emp) t' (plug X b).ids (fun z => z ∈ b.ids ++ idsC X)) : Taken t t' id a := by
  have hsub : ∀ z, z ∈ b.ids ++ idsC X → z ∈ lf ++ rg := fun z hz => by rw [← hp]; exact (plug_ids X b).mem_iff.2 hz
  have hnid : id ∉ lf ++ rg := fun h => by
    rw [hs] at hn
    exact (List.nodup_cons.1 (List.perm_middle.nodup_iff.1 hn)).1 h
  have hl1 : id < t1.ns.length := by rw [hk.len]; exact hid
  obtain ⟨A, g1, g2, g3, g4, g5⟩ := hm.ex
  refine ⟨⟨lf, rg, A, hs, g1, g2, by rw [g3, hp], g4, g5⟩, by rw [hm.keeps.len, sn_len, hk.len], ?_, fun z hz => ⟨?_, fun h => ?_⟩⟩
  · rw [(hm.keeps.at_ id).2 (fun h => hnid (hsub id h)), gn_sn _ _ _ _ hl1, if_pos rfl]
  · rw [(hm.keeps.at_ z).1, gn_sn _ _ _ _ hl1, if_neg hz, (hk.at_ z).1]
  · rw [(hm.keeps.at_ z).2 (fun h2 => h (by
      have := hsub z h2
      rw [hs]
      rcases List.mem_append.1 this with h | h <;> simp [h])), gn_sn _ _ _ _ hl1, if_neg hz, (hk.at_ z).2 h]
theorem del_lay {t : St} {a : T} {m id : Nat} (hL : Lay t a (some (-1))) (hr : t.rt = a.rt) (hn : a.ids.Nodup) (hm : RB a m) (hb : a.red = false) (hid : id ∈ a.ids) :
    ∃ t', (∀ k, t.ns.length < k → delA k t id = some t') ∧ Taken t t' id a := by
  obtain ⟨C, c, l, r, rfl⟩ := plug_find hid
  obtain ⟨hC, hA⟩ := lay_plug.1 ⟨hL, hr⟩
  have hn0 := (plug_ids C (B c l id r)).nodup_iff.1 hn
  have hpi := plug_ids C (B c l id r)
  have hsz := nodup_len hn0 (fun x hx => by
    rcases List.mem_append.1 hx with h | h
    · exact hA.lt x h
    · exact hC.lt x h)
  rw [List.length_append] at hsz
  have hszC := len_idsC C
  obtain ⟨n, cb, rb, ct, cr⟩ := RB_parts hm hb
  obtain ⟨rc, m0, rl, rr, hm0⟩ := rb
  have hwalk := plug_walk C (B c l id r)
  have hA2 := hA
  obtain ⟨h1, h2, h3, h4, h5, h6, h7, h8⟩ := hA2
  have h6 := h6 _ rfl
  obtain ⟨nB, nC, dB⟩ := List.nodup_append.1 hn0
  have nB2 : (l.ids ++ id :: r.ids).Nodup := nB
  have hidC : id ∉ idsC C := fun h => dB id (by simp [T.ids]) id h rfl
  have hon : onA t id = sideC C := on_side hC h6 hidC
  have hcnt : ∀ z, ((B c l id r).ids ++ idsC C).count z = l.ids.count z + (r.ids.count z + ((idsC C).count z + if id == z then 1 else 0)) := fun z => by
    simp only [T.ids, List.count_append, List.count_cons]
    omega
  have hmem : ∀ z, (z ∈ l.ids ∨ z = id ∨ z ∈ r.ids ∨ z ∈ idsC C) → z ∈ (plug C (B c l id r)).ids := fun z hz => hpi.mem_iff.2 (by
    rcases hz with h | h | h | h <;> simp [T.ids, h])
  have one : ∀ ch : T, (l = E ∧ ch = r ∨ r = E ∧ ch = l) → ∃ t', (∀ k, t.ns.length < k → delA k t id = some t') ∧ Taken t t' id (plug C (B c l id r)) := fun ch hch => by
    have hlr : l.rt < 0 ∨ r.rt < 0 := by
      rcases hch with ⟨e, _⟩ | ⟨e, _⟩
      · left; rw [e]; show (-1 : Int) < 0; omega
      · right; rw [e]; show (-1 : Int) < 0; omega
    have hge : ∀ b : T, -1 ≤ b.rt := fun b => by
      rcases rt_cases b with ⟨e, _⟩ | ⟨_, _, _, _, _, e⟩ <;> omega
    have hmx : max l.rt r.rt = ch.rt := by
      rcases hch with ⟨e, e2⟩ | ⟨e, e2⟩
      · rw [e, e2]; have := hge r; show max (-1) r.rt = r.rt; omega
      · rw [e, e2]; have := hge l; show max l.rt (-1) = l.rt; omega
    have hchl : Lay t ch none := by
      rcases hch with ⟨_, e⟩ | ⟨_, e⟩ <;> rw [e]
      · exact h8.loose
      · exact h7.loose
    have hids : (B c l id r).ids.Perm (id :: ch.ids) := by
      rcases hch with ⟨e, e2⟩ | ⟨e, e2⟩
      · rw [e, e2]; exact List.Perm.refl _
      · rw [e, e2]; show (l.ids ++ [id]).Perm _; exact List.perm_append_comm
    have hnn : (id :: (ch.ids ++ idsC C)).Nodup := (hids.append_right _).nodup_iff.1 hn0
    obtain ⟨i1, i2⟩ := List.nodup_cons.1 hnn
    obtain ⟨i3, i4, i5⟩ := List.nodup_append.1 i2
    have hchm : ∀ z, z ∈ ch.ids → z ∈ (plug C (B c l id r)).ids := fun z hz => hpi.mem_iff.2 (List.mem_append_left _ (hids.mem_iff.2 (List.mem_cons_of_mem _ hz)))
    have h0 : RB ch 0 ∧ n = if c = true then 0 else 1 := by
      rcases hch with ⟨e, e2⟩ | ⟨e, e2⟩
      · rw [e] at rl
        have : m0 = 0 := rl
        subst this
        rw [e2]; exact ⟨rr, hm0⟩
      · rw [e] at rr
        have : m0 = 0 := rr
        subst this
        rw [e2]; exact ⟨rl, hm0⟩
    obtain ⟨k1, k2⟩ := hang_lay hC.loose hchl (fun z hz h => i5 z hz z h rfl) i4 i3
    have hk : Keeps t (hangA t (upC C) (sideC C) ch.rt) (fun z => z ∈ (plug C (B c l id r)).ids) := hang_keeps (upC_lt hC) (rt_lt hchl) (fun z hz => hmem z (Or.inr (Or.inr (Or.inr (up_mem z hz))))) (fun z hz => hchm z (rt_mem z hz))
    have hun : ∀ k, delA k t id = fillIf k c (sn (hangA t (upC C) (sideC C) ch.rt) id emp) (upC C) (sideC C) := fun k => by
      rw [delA, h4, h5, if_pos hlr, h3, h6, hon, hmx]
    have hl1 : id < (hangA t (upC C) (sideC C) ch.rt).ns.length := by rw [hk.len]; exact h1
    obtain ⟨t', e1, e2⟩ := fill_if (N := t.ns.length) (n := 0) c (by omega) (sn_layC (n := emp) hl1 k1 hidC) (sn_lay (n := emp) hl1 k2 (fun h => i1 (List.mem_append_left _ h))) i2 (by rw [← show n = _ from h0.2]; exact cb) h0.1 (fun e => by
      obtain ⟨b1, b2⟩ := rc e
      refine ⟨?_, fun e2 => ?_⟩
      · rcases hch with ⟨_, e2⟩ | ⟨_, e2⟩ <;> rw [e2]
        · exact b2
        · exact b1
      · have := cr e2
        rw [show (B c l id r).red = c from rfl, e] at this
        cases this)
    refine ⟨t', fun k hk => by rw [hun]; exact e1 k hk, ?_⟩
    rcases hch with ⟨e3, e4⟩ | ⟨e3, e4⟩
    · refine taken_of (lf := leftC C) (rg := r.ids ++ rightC C) h1 ?_ ?_ hn hk e2
      · rw [hwalk, e3]; simp [T.ids]
      · rw [plug_walk, e4]
    · refine taken_of (lf := leftC C ++ l.ids) (rg := rightC C) h1 ?_ ?_ hn hk e2
      · rw [hwalk, e3]; simp [T.ids]
      · rw [plug_walk, e4]; simp
  by_cases hlE : l = E
  · exact one r (Or.inl ⟨hlE, rfl⟩)
  by_cases hrE : r = E
  · exact one l (Or.inr ⟨hrE, rfl⟩)
  -- two children
  have hDp := leftD_plug r [] hrE
  have hDs := leftD_side r [] (fun f hf => by cases hf)
  have hlA : ∀ k, t.ns.length < k → leftA k t r.rt = some ((leftD r []).2.2.1 : Int) := fun k hk => leftA_lay r [] _ k hrE (by
    rw [← size_ids]
    simp only [T.ids, List.length_append, List.length_cons] at hsz
    omega) h8
  change plug (leftD r []).1 (B (leftD r []).2.1 E (leftD r []).2.2.1 (leftD r []).2.2.2) = r at hDp
  generalize (leftD r []).1 = D at hDp hDs
  generalize (leftD r []).2.1 = cy at hDp
  generalize (leftD r []).2.2.1 = y at hDp hlA
  generalize (leftD r []).2.2.2 = yr at hDp
  have hge : ∀ b : T, b ≠ E → 0 ≤ b.rt := fun b hb => by
    rcases rt_cases b with ⟨_, e⟩ | ⟨_, _, _, _, _, e⟩
    · exact absurd e hb
    · omega
  have hun0 : ∀ k, t.ns.length < k → delA k t id = if (y : Int) = r.rt then delEnd k t id (upC C) (sideC C) l.rt c y y true (redA t y)
      else delEnd k (hangA (hangA t (upA t y) false (kidA t y true)) y true r.rt) id (upC C) (sideC C) l.rt c y (upA t y) false (redA t y) := fun k hk => by
    have a1 := hge l hlE
    have a2 := hge r hrE
    rw [delA, h4, h5, if_neg (by omega), hlA k hk, h6, h3, hon]
  obtain ⟨o1, o2⟩ := lay_open (f := ⟨c, id, true, l⟩) (a := r) hC hA
  have o3 : LayC t (⟨c, id, true, l⟩ :: C) (some (plug D (B cy E y yr)).rt) ∧ Lay t (plug D (B cy E y yr)) (some (upC (⟨c, id, true, l⟩ :: C))) := by rw [hDp]; exact ⟨o1, o2⟩
  obtain ⟨x1, x2⟩ := plugs_lay.1 o3
  have hT : plug (D ++ ⟨c, id, true, l⟩ :: C) (B cy E y yr) = plug C (B c l id r) := by
    rw [plugs_plug, hDp]; rfl
  obtain ⟨n', cb', rb', ct', _⟩ := RB_parts (C := D ++ ⟨c, id, true, l⟩ :: C) (a := B cy E y yr) (m := m) (by rw [hT]; exact hm) (by rw [hT]; exact hb)
  obtain ⟨rcy, m', rE, ryr, hm'⟩ := rb'
  have hm'0 : m' = 0 := rE
  subst hm'0
  have cbn := CB_same (y := y) cb'
  rw [hm'] at cbn
  have cbn : CB (D ++ ⟨c, y, true, l⟩ :: C) (if cy = true then 0 else 0 + 1) := by simpa using cbn
  obtain ⟨y1, y2, y3, y4, y5, y6, _, y8⟩ := x2
  have y6 := y6 _ rfl
  have hry : redA t (y : Int) = cy := by
    unfold redA
    rw [Int.toNat_natCast, y3, decide_eq_true (show 0 ≤ (y : Int) by omega)]
    rfl
  have hky : kidA t (y : Int) true = yr.rt := by unfold kidA; rw [Int.toNat_natCast]; exact y5
  have hri : r.ids.Perm ((B cy E y yr).ids ++ idsC D) := by rw [← hDp]; exact plug_ids _ _
  have crr : ∀ z, r.ids.count z = yr.ids.count z + ((idsC D).count z + if y == z then 1 else 0) := fun z => by
    rw [hri.count_eq]
    simp only [T.ids, List.nil_append, List.count_append, List.count_cons]
    omega
  have hall : (id :: (y :: (yr.ids ++ (idsC D ++ (l.ids ++ idsC C))))).Nodup := by
    refine (perm_c (fun z => ?_)).nodup_iff.1 hn0
    rw [hcnt, crr]
    simp only [List.count_append, List.count_cons]
    omega
  obtain ⟨j1, j2⟩ := List.nodup_cons.1 hall
  obtain ⟨j3, j4⟩ := List.nodup_cons.1 j2
  obtain ⟨j5, j6, j7⟩ := List.nodup_append.1 j4
  obtain ⟨j8, j9, j10⟩ := List.nodup_append.1 j6
  obtain ⟨j11, j12, j13⟩ := List.nodup_append.1 j9
  have hXi : idsC (D ++ ⟨c, y, true, l⟩ :: C) = idsC D ++ (y :: (l.ids ++ idsC C)) := idsC_app _ _
  have hmy : y ∈ r.ids := hri.mem_iff.2 (by simp [T.ids])
  have hmyr : ∀ z, z ∈ yr.ids → z ∈ r.ids := fun z hz => hri.mem_iff.2 (by simp [T.ids, hz])
  have hmD : ∀ z, z ∈ idsC D → z ∈ r.ids := fun z hz => hri.mem_iff.2 (by simp [hz])
  have fin : ∀ (t3 : St) (hk : Keeps t t3 (fun z => z ∈ (plug C (B c l id r)).ids)) (hC3 : LayC t3 (D ++ ⟨c, y, true, l⟩ :: C) (some yr.rt)) (hL3 : Lay t3 yr (some (upC (D ++ ⟨c, y, true, l⟩ :: C)))),
      ∃ t', (∀ k, t.ns.length < k → fillIf k cy (sn t3 id emp) (upC (D ++ ⟨c, y, true, l⟩ :: C)) (sideC (D ++ ⟨c, y, true, l⟩ :: C)) = some t') ∧ Taken t t' id (plug C (B c l id r)) := fun t3 hk hC3 hL3 => by
    have hl3 : id < t3.ns.length := by rw [hk.len]; exact h1
    have hidX : id ∉ idsC (D ++ ⟨c, y, true, l⟩ :: C) := fun h => j1 (by
      rw [hXi] at h
      simp only [List.mem_append, List.mem_cons] at h ⊢
      rcases h with h | h | h | h <;> simp [h])
    have hidy : id ∉ yr.ids := fun h => j1 (by simp [h])
    have hnX : (yr.ids ++ idsC (D ++ ⟨c, y, true, l⟩ :: C)).Nodup := by
      rw [hXi]
      refine (perm_c (fun z => ?_)).nodup_iff.1 j2
      simp only [List.count_append, List.count_cons]
      omega
    have hXl : (D ++ ⟨c, y, true, l⟩ :: C).length ≤ t.ns.length := by
      refine Nat.le_trans (len_idsC _) (nodup_len (List.nodup_append.1 hnX).2.1 (fun x hx => ?_))
      have := hC3.lt x hx
      rw [hk.len] at this
      exact this
    obtain ⟨t', e1, e2⟩ := fill_if (N := t.ns.length) (n := 0) cy hXl (sn_layC (n := emp) hl3 hC3 hidX) (sn_lay (n := emp) hl3 hL3 hidy) hnX cbn ryr (fun e => ⟨(rcy e).2, by simp⟩)
    refine ⟨t', e1, taken_of (lf := leftC C ++ l.ids) (rg := y :: (yr.ids ++ (rightC D ++ rightC C))) h1 ?_ ?_ hn hk e2⟩
    · rw [hwalk, ← hDp]
      show leftC C ++ ((l.ids ++ id :: (plug D (B cy E y yr)).ids) ++ rightC C) = _
      rw [plug_walk, leftC_left hDs]
      simp [T.ids]
    · rw [plugs_plug]
      show (plug C (B c l y (plug D yr))).ids = _
      rw [plug_walk]
      show leftC C ++ ((l.ids ++ y :: (plug D yr).ids) ++ rightC C) = _
      rw [plug_walk, leftC_left hDs]
      simp
  by_cases hD : D = []
  · subst hD
    have hre : r.rt = (y : Int) := by rw [← hDp]; rfl
    obtain ⟨p1, p2, p3⟩ := place_lay (C := C) (y := y) (c := c) (l := l) (R := yr) hC.loose y1 y2 hky y8 h7.loose (by
      refine (perm_c (fun z => ?_)).nodup_iff.1 j2
      simp only [idsC, List.nil_append, List.count_append, List.count_cons])
    obtain ⟨t', e1, e2⟩ := fin _ (p3.mono (fun z hz => by
      simp only [List.mem_append, List.mem_cons] at hz
      rcases hz with h | h | h | h
      · exact hmem z (Or.inr (Or.inr (Or.inl (by rw [h]; exact hmy))))
      · exact hmem z (Or.inr (Or.inr (Or.inl (hmyr z h))))
      · exact hmem z (Or.inl h)
      · exact hmem z (Or.inr (Or.inr (Or.inr h))))) p1 p2
    refine ⟨t', fun k hk => ?_, e2⟩
    rw [hun0 k hk, if_pos hre.symm, hry]
    exact e1 k hk
  · have hRrt : (plug D yr).rt = r.rt := by rw [← hDp]; exact plug_rt _ _ hD
    have hRi : (plug D yr).ids.Perm (yr.ids ++ idsC D) := plug_ids _ _
    have hyR : y ∉ (plug D yr).ids := fun h => j3 (by
      have := hRi.mem_iff.1 h
      simp only [List.mem_append] at this ⊢
      rcases this with h | h <;> simp [h])
    have hyr : (y : Int) ≠ r.rt := fun e => hyR (rt_mem y (by rw [e, hRrt]))
    obtain ⟨g, D', rfl⟩ : ∃ g D', D = g :: D' := by
      cases D with
      | nil => exact absurd rfl hD
      | cons g D' => exact ⟨g, D', rfl⟩
    have hgs : g.s = false := hDs g List.mem_cons_self
    have hup : upA t (y : Int) = (g.x : Int) := by unfold upA; rw [Int.toNat_natCast]; exact y6
    -- first
    have nX0 : (idsC ((g :: D') ++ ⟨c, id, true, l⟩ :: C)).Nodup := by
      rw [idsC_app]
      refine (perm_c (fun z => ?_)).nodup_iff.1 (show (id :: (idsC (g :: D') ++ (l.ids ++ idsC C))).Nodup from List.nodup_cons.2 ⟨fun h => j1 (by
        simp only [List.mem_append, List.mem_cons] at h ⊢
        rcases h with h | h | h <;> simp [h]), j6⟩)
      simp only [idsC, List.count_append, List.count_cons]
      omega
    obtain ⟨k1, k2⟩ := hang_lay (C := (g :: D') ++ ⟨c, id, true, l⟩ :: C) (a := yr) x1.loose y8.loose (fun z hz h => by
      rw [idsC_app] at h
      rcases List.mem_append.1 h with h | h
      · exact j7 z hz z (List.mem_append_left _ h) rfl
      · rcases List.mem_cons.1 h with h | h
        · have h : z = id := h
          subst h
          exact j1 (by simp [hz])
        · exact j7 z hz z (List.mem_append_right _ h) rfl) nX0 j5
    have hup0 : upC ((g :: D') ++ ⟨c, id, true, l⟩ :: C) = (g.x : Int) := rfl
    have hsd0 : sideC ((g :: D') ++ ⟨c, id, true, l⟩ :: C) = false := hgs
    rw [hup0, hsd0] at k1
    rw [hup0, hsd0] at k2
    have hgl : 0 ≤ (g.x : Int) → ((g.x : Int)).toNat < t.ns.length := fun _ => x1.1
    have s1 : Keeps t (hangA t (g.x : Int) false yr.rt) (fun z => z ∈ (plug C (B c l id r)).ids) := hang_keeps hgl (rt_lt y8.loose) (fun z hz => hmem z (Or.inr (Or.inr (Or.inl (hmD z (by
      have e2 : z = g.x := by omega
      subst e2; simp [idsC])))))) (fun z hz => hmem z (Or.inr (Or.inr (Or.inl (hmyr z (rt_mem z hz))))))
    have gy : gn (hangA t (g.x : Int) false yr.rt) y = gn t y := by
      have := hang_keepY (s := false) x1 (rt_lt y8.loose) y (fun e => j3 (by
        have e1 : (y : Int) = (g.x : Int) := e
        have e2 : y = g.x := by omega
        subst e2; simp [idsC])) (fun e => j3 (by simp [rt_mem y e]))
      exact this
    have hunt : ∀ k, t.ns.length < k → delA k t id = delEnd k (hangA (hangA t (g.x : Int) false yr.rt) y true r.rt) id (upC C) (sideC C) l.rt c y (g.x : Int) false cy := fun k hk => by
      rw [hun0 k hk, if_neg hyr, hry, hky, hup]
    generalize hangA t (g.x : Int) false yr.rt = t1 at k1 k2 s1 gy hunt
    obtain ⟨q1, q2⟩ := plugs_lay (C := ⟨c, id, true, l⟩ :: C) (D := g :: D') |>.2 ⟨k1, k2⟩
    obtain ⟨u1, u2, u3, u4, u5, u6, u7, u8⟩ := q1
    simp only at u7 u8
    -- second
    have hyl : 0 ≤ (y : Int) → ((y : Int)).toNat < t1.ns.length := fun _ => by rw [s1.len]; exact y1
    have hRl := rt_lt q2.loose
    have hnR : (plug (g :: D') yr).ids.Nodup := hRi.nodup_iff.2 (List.nodup_append.2 ⟨j5, j8, fun a ha z hz => j7 a ha z (List.mem_append_left _ hz)⟩)
    have v1 := hang_sub (s := true) hyl q2.loose (fun z hz e => hyR (by
      have e2 : z = y := by omega
      subst e2; exact hz)) hnR
    have hkeep : ∀ z : Nat, z ≠ y → z ∉ (plug (g :: D') yr).ids → gn (hangA t1 (y : Int) true (plug (g :: D') yr).rt) z = gn t1 z := fun z a1 a2 => by
      rw [hang_gn true hyl hRl, if_neg (fun h => a2 (rt_mem z (by omega))), hang1_gn _ _ hyl, if_neg (by omega)]
    have gy2 : gn (hangA t1 (y : Int) true (plug (g :: D') yr).rt) y = setKid (gn t1 y) true (plug (g :: D') yr).rt := by
      rw [hang_gn true hyl hRl, if_neg (fun h => hyR (rt_mem y (by omega))), hang1_gn _ _ hyl, if_pos ⟨by omega, by omega⟩]
    have s2 : Keeps t1 (hangA t1 (y : Int) true (plug (g :: D') yr).rt) (fun z => z ∈ (plug C (B c l id r)).ids) := hang_keeps hyl hRl (fun z hz => hmem z (Or.inr (Or.inr (Or.inl (by
      have e2 : z = y := by omega
      subst e2; exact hmy))))) (fun z hz => hmem z (Or.inr (Or.inr (Or.inl (by
      have := hRi.mem_iff.1 (rt_mem z hz)
      rcases List.mem_append.1 this with h | h
      · exact hmyr z h
      · exact hmD z h)))))
    have l2 := hang_len t1 (y : Int) true (plug (g :: D') yr).rt
    have hzR : ∀ z, z ∈ l.ids ∨ z ∈ idsC C → z ∉ (plug (g :: D') yr).ids := fun z hz h => by
      have hz2 : z ∈ l.ids ++ idsC C := List.mem_append.2 hz
      rcases List.mem_append.1 (hRi.mem_iff.1 h) with h | h
      · exact j7 z h z (List.mem_append_right _ hz2) rfl
      · exact j10 z h z hz2 rfl
    have hzy : ∀ z, z ∈ l.ids ∨ z ∈ idsC C → z ≠ y := fun z hz e => by
      have hz2 : z ∈ l.ids ++ idsC C := List.mem_append.2 hz
      subst e
      exact j3 (List.mem_append_right _ (List.mem_append_right _ hz2))
    have hrt2 : (hangA t1 (y : Int) true (plug (g :: D') yr).rt).rt = t1.rt := by rw [hang_rt, if_neg (by omega)]
    have w1 : LayC (hangA t1 (y : Int) true (plug (g :: D') yr).rt) C none := LayC.congr l2 hrt2 (fun z hz => hkeep z (hzy z (Or.inr hz)) (hzR z (Or.inr hz))) u8.loose
    have w2 : Lay (hangA t1 (y : Int) true (plug (g :: D') yr).rt) l none := Lay.congr l2 (fun z hz => hkeep z (hzy z (Or.inl hz)) (hzR z (Or.inl hz))) u7.loose
    rw [← hRrt] at hunt
    generalize hangA t1 (y : Int) true (plug (g :: D') yr).rt = t2 at v1 gy2 s2 w1 w2 l2 hunt
    obtain ⟨p1, p2, p3⟩ := place_lay (C := C) (y := y) (c := c) (l := l) (R := plug (g :: D') yr) w1 (by rw [l2, s1.len]; exact y1) (by rw [gy2, gy]; exact y2) (by
      unfold kidA; rw [Int.toNat_natCast, gy2]; rfl) v1 w2 (by
      refine (perm_c (fun z => ?_)).nodup_iff.1 j2
      simp only [List.count_append, List.count_cons, hRi.count_eq]
      omega)
    have hunt2 : ∀ k, t.ns.length < k → delA k t id = fillIf k cy (sn (placeA t2 (upC C) (sideC C) (y : Int) l.rt c) id emp) (g.x : Int) false := hunt
    generalize placeA t2 (upC C) (sideC C) (y : Int) l.rt c = t3 at p1 p2 p3 hunt2
    obtain ⟨z1, z2⟩ := plugs_lay (C := ⟨c, y, true, l⟩ :: C) (D := g :: D') |>.1 ⟨p1, p2⟩
    obtain ⟨t', e1, e2⟩ := fin t3 ((s1.trans s2).trans (p3.mono (fun z hz => by
      simp only [List.mem_append, List.mem_cons] at hz
      rcases hz with h | h | h | h
      · exact hmem z (Or.inr (Or.inr (Or.inl (by rw [h]; exact hmy))))
      · rcases List.mem_append.1 (hRi.mem_iff.1 h) with h | h
        · exact hmem z (Or.inr (Or.inr (Or.inl (hmyr z h))))
        · exact hmem z (Or.inr (Or.inr (Or.inl (hmD z h))))
      · exact hmem z (Or.inl h)
      · exact hmem z (Or.inr (Or.inr (Or.inr h)))))) z1 z2
    refine ⟨t', fun k hk => ?_, e2⟩
    rw [hunt2 k hk]
    have := e1 k hk
    rw [show sideC ((g :: D') ++ ⟨c, y, true, l⟩ :: C) = false from hgs] at this
    exact this
end Go.Proofs.YtnkhnnojdlgfjaaDoor.Tr
