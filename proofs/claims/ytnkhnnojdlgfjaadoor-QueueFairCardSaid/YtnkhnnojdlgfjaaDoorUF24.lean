/- Parts of the proof, joined: Keys. -/
import Derived.Below
namespace Go.Proofs.YtnkhnnojdlgfjaaDoor.Ky
set_option linter.unusedVariables false
abbrev K := Int × Int
def gt (l : List K) (t : Nat) : K := l.getD t (0, 0)
theorem ext_gt {a b : List K} (h : a.length = b.length) (e : ∀ t, t < a.length → gt a t = gt b t) : a = b := by
  refine List.ext_getElem h fun t h1 h2 => ?_
  have := e t h1
  simp only [gt, List.getD_eq_getElem?_getD, List.getElem?_eq_getElem h1, List.getElem?_eq_getElem h2, Option.getD_some] at this
  exact this
theorem gt_of (l : List K) (t : Nat) (h : t < l.length) : gt l t = l[t] := by
  simp only [gt, List.getD_eq_getElem?_getD, List.getElem?_eq_getElem h, Option.getD_some]
theorem gt_mem (l : List K) (t : Nat) (h : t < l.length) : gt l t ∈ l := by rw [gt_of l t h]; exact List.getElem_mem h
theorem gt_set (l : List K) (i : Nat) (x : K) (t : Nat) (h : i < l.length) : gt (l.set i x) t = if t = i then x else gt l t := by
  simp only [gt, List.getD_eq_getElem?_getD, List.getElem?_set]
  by_cases e : i = t
  · subst e; rw [if_pos rfl, if_pos h, if_pos rfl]; rfl
  · rw [if_neg e, if_neg (fun h => e h.symm)]
def swp (l : List K) (i j : Nat) : List K := (l.set i (gt l j)).set j (gt l i)
theorem swp_length (l : List K) (i j : Nat) : (swp l i j).length = l.length := by simp [swp]
theorem gt_swp (l : List K) (i j t : Nat) (hi : i < l.length) (hj : j < l.length) : gt (swp l i j) t = if t = j then gt l i else if t = i then gt l j else gt l t := by
  unfold swp
  rw [gt_set _ _ _ _ (by simpa using hj), gt_set _ _ _ _ hi]
theorem swp_perm (l : List K) (i j : Nat) (hi : i < l.length) (hj : j < l.length) : (swp l i j).Perm l := by
  rw [List.perm_iff_count]
  intro a
  have e0 : swp l i j = (l.set i l[j]).set j l[i] := by unfold swp; rw [gt_of l i hi, gt_of l j hj]
  rw [e0, List.count_set (by simpa using hj), List.count_set hi, List.getElem_set]
  have ci : (l[i] == a) = true → 0 < List.count a l := fun h => List.count_pos_iff.2 (by have := List.getElem_mem hi; rwa [eq_of_beq h] at this)
  have cj : (l[j] == a) = true → 0 < List.count a l := fun h => List.count_pos_iff.2 (by have := List.getElem_mem hj; rwa [eq_of_beq h] at this)
  by_cases e : i = j
  · subst e
    by_cases h : (l[i] == a) = true
    · have := ci h
      simp only [if_pos h, if_true]
      omega
    · simp only [if_neg h, if_true]
      omega
  · rw [if_neg e]
    by_cases h1 : (l[i] == a) = true
    · have := ci h1
      by_cases h2 : (l[j] == a) = true
      · simp only [if_pos h1, if_pos h2]; omega
      · simp only [if_pos h1, if_neg h2]; omega
    · by_cases h2 : (l[j] == a) = true
      · have := cj h2
        simp only [if_neg h1, if_pos h2]; omega
      · simp only [if_neg h1, if_neg h2]; omega
structure Rng (l l' : List K) (a b : Nat) : Prop where
  perm : l'.Perm l
  out : ∀ t, t < a ∨ b ≤ t → gt l' t = gt l t
theorem Rng.len {l l' : List K} {a b : Nat} (h : Rng l l' a b) : l'.length = l.length := h.perm.length_eq
theorem Rng.refl (l : List K) (a b : Nat) : Rng l l a b := ⟨List.Perm.refl _, fun _ _ => rfl⟩
theorem Rng.trans {l m n : List K} {a b : Nat} (h : Rng l m a b) (k : Rng m n a b) : Rng l n a b := ⟨k.perm.trans h.perm, fun t ht => (k.out t ht).trans (h.out t ht)⟩
theorem Rng.wide {l l' : List K} {a b a' b' : Nat} (h : Rng l l' a b) (ha : a' ≤ a) (hb : b ≤ b') : Rng l l' a' b' := ⟨h.perm, fun t ht => h.out t (by omega)⟩
theorem Rng.swp {l : List K} {i j a b : Nat} (hi : i < l.length) (hj : j < l.length) (h1 : a ≤ i) (h2 : i < b) (h3 : a ≤ j) (h4 : j < b) : Rng l (swp l i j) a b :=
  ⟨swp_perm l i j hi hj, fun t ht => by rw [gt_swp l i j t hi hj, if_neg (by omega), if_neg (by omega)]⟩
theorem take_eq_of {l l' : List K} (a : Nat) (hl : l'.length = l.length) (h : ∀ t, t < a → gt l' t = gt l t) : l'.take a = l.take a := by
  refine ext_gt (by simp [hl]) fun t ht => ?_
  rw [List.length_take] at ht
  have := h t (by omega)
  simp only [gt, List.getD_eq_getElem?_getD, List.getElem?_take] at this ⊢
  rw [if_pos (by omega), if_pos (by omega)]
  exact this
theorem drop_eq_of {l l' : List K} (b : Nat) (hl : l'.length = l.length) (h : ∀ t, b ≤ t → gt l' t = gt l t) : l'.drop b = l.drop b := by
  refine ext_gt (by simp [hl]) fun t ht => ?_
  have := h (b + t) (by omega)
  simp only [gt, List.getD_eq_getElem?_getD, List.getElem?_drop] at this ⊢
  exact this
theorem parts (l : List K) (a b : Nat) (h : a ≤ b) : l = l.take a ++ ((l.drop a).take (b - a) ++ l.drop b) := by
  have e : l.drop b = (l.drop a).drop (b - a) := by rw [List.drop_drop]; congr 1; omega
  rw [e, List.take_append_drop, List.take_append_drop]
theorem Rng.mid {l l' : List K} {a b : Nat} (h : Rng l l' a b) (hab : a ≤ b) : ((l'.drop a).take (b - a)).Perm ((l.drop a).take (b - a)) := by
  have h1 := h.perm
  rw [parts l a b hab, parts l' a b hab, take_eq_of a h.len (fun t ht => h.out t (Or.inl ht)), drop_eq_of b h.len (fun t ht => h.out t (Or.inr ht))] at h1
  exact (List.perm_append_right_iff _).1 ((List.perm_append_left_iff _).1 h1)
theorem Rng.from_ {l l' : List K} {a b : Nat} (h : Rng l l' a b) (t : Nat) (h1 : a ≤ t) (h2 : t < b) (hb : b ≤ l.length) : ∃ s, a ≤ s ∧ s < b ∧ gt l' t = gt l s := by
  have hm : gt l' t ∈ (l'.drop a).take (b - a) := by
    refine List.mem_iff_getElem?.2 ⟨t - a, ?_⟩
    rw [List.getElem?_take, if_pos (by omega), List.getElem?_drop, show a + (t - a) = t by omega, gt_of l' t (by rw [h.len]; omega), List.getElem?_eq_getElem]
  have hm2 := (h.mid (by omega)).mem_iff.1 hm
  obtain ⟨i, hi⟩ := List.mem_iff_getElem?.1 hm2
  rw [List.getElem?_take] at hi
  split at hi
  · rw [List.getElem?_drop] at hi
    refine ⟨a + i, by omega, by omega, ?_⟩
    simp only [gt, List.getD_eq_getElem?_getD] at hi ⊢
    rw [hi]; rfl
  · cases hi
def swr (l : List K) (a b : Nat) : Nat → List K
  | 0 => l
  | n + 1 => swp (swr l a b n) (a + n) (b + n)
theorem swr_length (l : List K) (a b : Nat) : ∀ n, (swr l a b n).length = l.length
  | 0 => rfl
  | n + 1 => by rw [swr, swp_length, swr_length l a b n]
theorem gt_swr (l : List K) (a b : Nat) : ∀ n, a + n ≤ b → b + n ≤ l.length → ∀ t, gt (swr l a b n) t = if a ≤ t ∧ t < a + n then gt l (b + (t - a)) else if b ≤ t ∧ t < b + n then gt l (a + (t - b)) else gt l t
  | 0, h1, h2, t => by rw [swr, if_neg (by omega), if_neg (by omega)]
  | n + 1, h1, h2, t => by
    have g := gt_swr l a b n (by omega) (by omega)
    rw [swr, gt_swp _ _ _ _ (by rw [swr_length]; omega) (by rw [swr_length]; omega), g (a + n), g (b + n), g t]
    by_cases e1 : t = b + n
    · subst e1
      rw [if_pos rfl, if_neg (by omega), if_neg (by omega), if_neg (by omega), if_pos (by omega), show a + (b + n - b) = a + n by omega]
    rw [if_neg e1]
    by_cases e2 : t = a + n
    · subst e2
      rw [if_pos rfl, if_neg (by omega), if_neg (by omega), if_pos (by omega), show b + (a + n - a) = b + n by omega]
    rw [if_neg e2]
    by_cases e3 : a ≤ t ∧ t < a + n
    · rw [if_pos e3, if_pos (by omega)]
    rw [if_neg e3]
    by_cases e4 : b ≤ t ∧ t < b + n
    · rw [if_pos e4, if_neg (show ¬ (a ≤ t ∧ t < a + (n + 1)) by omega), if_pos (show b ≤ t ∧ t < b + (n + 1) by omega)]
    · rw [if_neg e4, if_neg (show ¬ (a ≤ t ∧ t < a + (n + 1)) by omega), if_neg (show ¬ (b ≤ t ∧ t < b + (n + 1)) by omega)]
theorem swr_rng (l : List K) (a b : Nat) : ∀ n, a + n ≤ b → b + n ≤ l.length → Rng l (swr l a b n) a (b + n)
  | 0, h1, h2 => Rng.refl _ _ _
  | n + 1, h1, h2 => ((swr_rng l a b n (by omega) (by omega)).wide (Nat.le_refl _) (by omega)).trans (Rng.swp (by rw [swr_length]; omega) (by rw [swr_length]; omega) (by omega) (by omega) (by omega) (by omega))
structure Rot (l l' : List K) (a m b : Nat) : Prop where
  rng : Rng l l' a b
  lo : ∀ t, a ≤ t → t < a + (b - m) → gt l' t = gt l (m + (t - a))
  hi : ∀ t, a + (b - m) ≤ t → t < b → gt l' t = gt l (t - (b - m))
theorem rot_eq {l : List K} {m i : Nat} (h1 : i ≤ m) (h2 : m + i ≤ l.length) : Rot l (swr l (m - i) m i) (m - i) m (m + i) := by
  refine ⟨swr_rng l _ _ _ (by omega) (by omega), fun t h3 h4 => ?_, fun t h3 h4 => ?_⟩
  · rw [gt_swr l _ _ _ (by omega) (by omega), if_pos (by omega)]
  · rw [gt_swr l _ _ _ (by omega) (by omega), if_neg (by omega), if_pos (by omega)]
    congr 1; omega
theorem rot_more {l l' : List K} {m i j : Nat} (hj : 0 < j) (h1 : j < i) (h2 : i ≤ m) (h3 : m + j ≤ l.length) (h : Rot (swr l (m - i) m j) l' (m - (i - j)) m (m + j)) : Rot l l' (m - i) m (m + j) := by
  have g := gt_swr l (m - i) m j (by omega) (by omega)
  refine ⟨((swr_rng l _ _ _ (by omega) (by omega))).trans (h.rng.wide (by omega) (Nat.le_refl _)), fun t h4 h5 => ?_, fun t h4 h5 => ?_⟩
  · rw [h.rng.out t (by omega), g t, if_pos (by omega)]
  · by_cases c : t < m - (i - j) + j
    · rw [h.lo t (by omega) (by omega), g, if_neg (by omega), if_pos (by omega)]
      congr 1; omega
    · rw [h.hi t (by omega) (by omega), g, if_neg (by omega), if_neg (by omega)]
theorem rot_less {l l' : List K} {m i j : Nat} (hi : 0 < i) (h1 : i < j) (h2 : i ≤ m) (h3 : m + j ≤ l.length) (h : Rot (swr l (m - i) (m + j - i) i) l' (m - i) m (m + (j - i))) : Rot l l' (m - i) m (m + j) := by
  have g := gt_swr l (m - i) (m + j - i) i (by omega) (by omega)
  refine ⟨((swr_rng l _ _ _ (by omega) (by omega)).wide (Nat.le_refl _) (by omega)).trans (h.rng.wide (by omega) (by omega)), fun t h4 h5 => ?_, fun t h4 h5 => ?_⟩
  · by_cases c : t < m - i + (j - i)
    · rw [h.lo t (by omega) (by omega), g, if_neg (by omega), if_neg (by omega)]
    · by_cases c2 : t < m + (j - i)
      · rw [h.hi t (by omega) (by omega), g, if_pos (by omega)]
        congr 1; omega
      · exfalso; omega
  · rw [h.rng.out t (by omega), g t, if_neg (by omega), if_pos (by omega)]
    congr 1; omega
section
variable (cv : K → K → Int)
structure Ord : Prop where
  asym : ∀ x y, cv x y < 0 → ¬ cv y x < 0
  trans : ∀ x y z, ¬ cv y x < 0 → ¬ cv z y < 0 → ¬ cv z x < 0
def le (x y : K) : Prop := ¬ cv y x < 0
def Srd (l : List K) (a b : Nat) : Prop := ∀ i j, a ≤ i → i ≤ j → j < b → le cv (gt l i) (gt l j)
variable {cv : K → K → Int} (O : Ord cv)
include O
theorem le_of_lt {x y : K} (h : cv x y < 0) : le cv x y := O.asym x y h
theorem le_trans {x y z : K} (h : le cv x y) (k : le cv y z) : le cv x z := O.trans x y z h k
theorem le_refl (x : K) : le cv x x := fun h => O.asym x x h h
theorem lt_of_le_lt {x y z : K} (h : le cv x y) (k : cv y z < 0) : cv x z < 0 := by
  apply Classical.byContradiction
  intro hn
  exact absurd k (le_trans O (x := z) (y := x) hn h)
theorem lt_of_lt_le {x y z : K} (h : cv x y < 0) (k : le cv y z) : cv x z < 0 := by
  apply Classical.byContradiction
  intro hn
  exact absurd h (le_trans O (x := y) (y := z) k hn)
omit O
theorem Srd.keep {l l' : List K} {a b : Nat} (h : Srd cv l a b) (e : ∀ t, a ≤ t → t < b → gt l' t = gt l t) : Srd cv l' a b := fun i j h1 h2 h3 => by
  rw [e i h1 (by omega), e j (by omega) h3]; exact h i j h1 h2 h3
theorem Srd.part {l : List K} {a b a' b' : Nat} (h : Srd cv l a b) (ha : a ≤ a') (hb : b' ≤ b) : Srd cv l a' b' := fun i j h1 h2 h3 => h i j (by omega) h2 (by omega)
theorem Srd.join {l : List K} {a m b : Nat} (h1 : Srd cv l a m) (h2 : Srd cv l m b) (h : ∀ i j, a ≤ i → i < m → m ≤ j → j < b → le cv (gt l i) (gt l j)) : Srd cv l a b := fun i j h3 h4 h5 => by
  by_cases c1 : j < m
  · exact h1 i j h3 h4 c1
  by_cases c2 : m ≤ i
  · exact h2 i j c2 h4 h5
  · exact h i j h3 (by omega) (by omega) h5
include O
theorem Srd.one (l : List K) {a b : Nat} (h : b ≤ a + 1) : Srd cv l a b := fun i j h1 h2 h3 => by
  obtain rfl : i = j := by omega
  exact le_refl O _
omit O
structure Up (l l' : List K) (a k b : Nat) : Prop where
  rng : Rng l l' a b
  lo : ∀ t, a ≤ t → t < k → gt l' t = gt l (t + 1)
  at_ : gt l' k = gt l a
  hi : ∀ t, k < t → gt l' t = gt l t
theorem Up.refl (l : List K) (a b : Nat) : Up l l a a b := ⟨Rng.refl _ _ _, fun t h1 h2 => by omega, rfl, fun _ _ => rfl⟩
theorem Up.step {l l' : List K} {a k b : Nat} (h : Up l l' a k b) (ha : a ≤ k) (hk : k + 1 < b) (hb : b ≤ l.length) : Up l (swp l' k (k + 1)) a (k + 1) b := by
  have hl := h.rng.len
  have g := fun t => gt_swp l' k (k + 1) t (by omega) (by omega)
  refine ⟨h.rng.trans (Rng.swp (by omega) (by omega) (by omega) (by omega) (by omega) (by omega)), fun t h1 h2 => ?_, ?_, fun t h1 => ?_⟩
  · rw [g, if_neg (by omega)]
    by_cases e : t = k
    · subst e; rw [if_pos rfl, h.hi _ (by omega)]
    · rw [if_neg e, h.lo t h1 (by omega)]
  · rw [g, if_pos rfl, h.at_]
  · rw [g, if_neg (by omega), if_neg (by omega), h.hi _ (by omega)]
structure Dn (l l' : List K) (a k m b : Nat) : Prop where
  rng : Rng l l' a b
  lo : ∀ t, t < k → gt l' t = gt l t
  at_ : gt l' k = gt l m
  mid : ∀ t, k < t → t ≤ m → gt l' t = gt l (t - 1)
  hi : ∀ t, m < t → gt l' t = gt l t
theorem Dn.refl (l : List K) (a m b : Nat) : Dn l l a m m b := ⟨Rng.refl _ _ _, fun _ _ => rfl, rfl, fun t h1 h2 => by omega, fun _ _ => rfl⟩
theorem Dn.step {l l' : List K} {a k m b : Nat} (h : Dn l l' a (k + 1) m b) (ha : a ≤ k) (hk : k + 1 ≤ m) (hm : m < b) (hb : b ≤ l.length) : Dn l (swp l' (k + 1) k) a k m b := by
  have hl := h.rng.len
  have g := fun t => gt_swp l' (k + 1) k t (by omega) (by omega)
  refine ⟨h.rng.trans (Rng.swp (by omega) (by omega) (by omega) (by omega) (by omega) (by omega)), fun t h1 => ?_, ?_, fun t h1 h2 => ?_, fun t h1 => ?_⟩
  · rw [g, if_neg (by omega), if_neg (by omega), h.lo t (by omega)]
  · rw [g, if_pos rfl, h.at_]
  · rw [g, if_neg (by omega)]
    by_cases e : t = k + 1
    · subst e; rw [if_pos rfl, h.lo _ (by omega)]; congr 1
    · rw [if_neg e, h.mid t (by omega) h2]
  · rw [g, if_neg (by omega), if_neg (by omega), h.hi _ h1]
theorem Dn.step' {l l' : List K} {a k m b : Nat} (h : Dn l l' a k m b) (ha : a < k) (hk : k ≤ m) (hm : m < b) (hb : b ≤ l.length) : Dn l (swp l' k (k - 1)) a (k - 1) m b := by
  obtain ⟨j, rfl⟩ : ∃ j, k = j + 1 := ⟨k - 1, by omega⟩
  exact Dn.step h (by omega) hk hm hb
include O
theorem Up.srd {l l' : List K} {a i b : Nat} (h : Up l l' a (i - 1) b) (hi : a < i) (hib : i ≤ b) (hs : Srd cv l (a + 1) b) (h1 : ∀ t, a + 1 ≤ t → t < i → cv (gt l t) (gt l a) < 0) (h2 : ∀ t, i ≤ t → t < b → ¬ cv (gt l t) (gt l a) < 0) : Srd cv l' a b := by
  have e1 : ∀ t, a ≤ t → t < i - 1 → gt l' t = gt l (t + 1) := h.lo
  have e3 : ∀ t, i ≤ t → gt l' t = gt l t := fun t ht => h.hi t (by omega)
  intro p q h3 h4 h5
  by_cases c1 : q < i - 1
  · rw [e1 p h3 (by omega), e1 q (by omega) c1]; exact hs _ _ (by omega) (by omega) (by omega)
  by_cases c2 : q = i - 1
  · subst c2
    rw [h.at_]
    by_cases c3 : p = i - 1
    · subst c3; rw [h.at_]; exact le_refl O _
    · rw [e1 p h3 (by omega)]; exact le_of_lt O (h1 _ (by omega) (by omega))
  rw [e3 q (by omega)]
  by_cases c4 : p < i - 1
  · rw [e1 p h3 c4]; exact hs _ _ (by omega) (by omega) h5
  by_cases c5 : p = i - 1
  · subst c5; rw [h.at_]; exact h2 q (by omega) h5
  · rw [e3 p (by omega)]; exact hs _ _ (by omega) h4 h5
theorem Dn.srd {l l' : List K} {a i m b : Nat} (h : Dn l l' a i m b) (hai : a ≤ i) (him : i ≤ m) (hs : Srd cv l a m) (h1 : ∀ t, a ≤ t → t < i → ¬ cv (gt l m) (gt l t) < 0) (h2 : ∀ t, i ≤ t → t < m → cv (gt l m) (gt l t) < 0) : Srd cv l' a (m + 1) := by
  intro p q h3 h4 h5
  by_cases c1 : q < i
  · rw [h.lo p (by omega), h.lo q c1]; exact hs _ _ h3 h4 (by omega)
  by_cases c2 : q = i
  · subst c2
    rw [h.at_]
    by_cases c3 : p = q
    · subst c3; rw [h.at_]; exact le_refl O _
    · rw [h.lo p (by omega)]; exact h1 _ h3 (by omega)
  rw [h.mid q (by omega) (by omega)]
  by_cases c4 : p < i
  · rw [h.lo p c4]; exact hs _ _ h3 (by omega) (by omega)
  by_cases c5 : p = i
  · subst c5; rw [h.at_]; exact le_of_lt O (h2 _ (by omega) (by omega))
  · rw [h.mid p (by omega) (by omega)]; exact hs _ _ (by omega) (by omega) (by omega)
theorem rot_halves {l l' : List K} {a m b s : Nat} (hb : b ≤ l.length) (h1 : a ≤ s) (h2 : s ≤ m) (h3 : m ≤ b) (h4 : (a + b) / 2 + m - s ≤ b) (h5 : m ≤ (a + b) / 2 + m - s) (hr : Rot l l' s m ((a + b) / 2 + m - s)) (s1 : Srd cv l a m) (s2 : Srd cv l m b)
    (x1 : s = a ∨ (a + b) / 2 + m - s = b ∨ ¬ cv (gt l ((a + b) / 2 + m - s)) (gt l (s - 1)) < 0) (x2 : s = m ∨ (a + b) / 2 + m - s = m ∨ cv (gt l ((a + b) / 2 + m - s - 1)) (gt l s) < 0) :
    Srd cv l' a s ∧ Srd cv l' s ((a + b) / 2) ∧ Srd cv l' ((a + b) / 2) ((a + b) / 2 + m - s) ∧ Srd cv l' ((a + b) / 2 + m - s) b ∧ ∀ i j, a ≤ i → i < (a + b) / 2 → (a + b) / 2 ≤ j → j < b → le cv (gt l' i) (gt l' j) := by
  generalize hd : (a + b) / 2 = d at *
  have hd1 : a ≤ d := by omega
  have hd2 : d ≤ b := by omega
  have o1 : ∀ t, t < s → gt l' t = gt l t := fun t ht => hr.rng.out t (Or.inl ht)
  have o2 : ∀ t, d + m - s ≤ t → gt l' t = gt l t := fun t ht => hr.rng.out t (Or.inr ht)
  have o3 : ∀ t, s ≤ t → t < d → gt l' t = gt l (m + (t - s)) := fun t h6 h7 => hr.lo t h6 (by omega)
  have o4 : ∀ t, d ≤ t → t < d + m - s → gt l' t = gt l (t - (d - s)) := fun t h6 h7 => by rw [hr.hi t (by omega) h7]; congr 1; omega
  refine ⟨(s1.part (Nat.le_refl _) h2).keep (fun t h6 h7 => o1 t h7), ?_, ?_, (s2.part h5 (Nat.le_refl _)).keep (fun t h6 h7 => o2 t h6), ?_⟩
  · intro p q h6 h7 h8
    rw [o3 p h6 (by omega), o3 q (by omega) h8]; exact s2 _ _ (by omega) (by omega) (by omega)
  · intro p q h6 h7 h8
    rw [o4 p h6 (by omega), o4 q (by omega) h8]; exact s1 _ _ (by omega) (by omega) (by omega)
  · intro i j h6 h7 h8 h9
    by_cases c1 : i < s
    · rw [o1 i c1]
      by_cases c2 : j < d + m - s
      · rw [o4 j h8 c2]; exact s1 _ _ h6 (by omega) (by omega)
      · rw [o2 j (by omega)]
        rcases x1 with x1 | x1 | x1
        · omega
        · omega
        · exact le_trans O (s1 i (s - 1) h6 (by omega) (by omega)) (le_trans O x1 (s2 _ j (by omega) (by omega) h9))
    · rw [o3 i (by omega) h7]
      by_cases c2 : j < d + m - s
      · rw [o4 j h8 c2]
        rcases x2 with x2 | x2 | x2
        · omega
        · omega
        · exact le_trans O (s2 _ (d + m - s - 1) (by omega) (by omega) (by omega)) (le_trans O (le_of_lt O x2) (s1 s _ (by omega) (by omega) (by omega)))
      · rw [o2 j (by omega)]; exact s2 _ _ (by omega) (by omega) h9
omit O
theorem halves {l l' l'' : List K} {a d b : Nat} (hb : b ≤ l.length) (had : a ≤ d) (hdb : d ≤ b) (r1 : Rng l l' a d) (r2 : Rng l' l'' d b) (s1 : Srd cv l' a d) (s2 : Srd cv l'' d b) (h : ∀ i j, a ≤ i → i < d → d ≤ j → j < b → le cv (gt l i) (gt l j)) : Srd cv l'' a b := by
  refine Srd.join (m := d) (s1.keep (fun t h1 h2 => r2.out t (Or.inl h2))) s2 fun i j h1 h2 h3 h4 => ?_
  rw [r2.out i (Or.inl h2)]
  obtain ⟨s, h5, h6, e1⟩ := r1.from_ i h1 h2 (by omega)
  obtain ⟨u, h7, h8, e2⟩ := r2.from_ j h3 h4 (by rw [r1.len]; exact hb)
  rw [e1, e2, r1.out u (Or.inr h7)]
  exact h s u h5 h6 h7 h8
inductive Blks (cv : K → K → Int) (bs : Nat) (l : List K) (n : Nat) : Nat → Prop
  | nil {a : Nat} : n ≤ a → Blks cv bs l n a
  | cons {a : Nat} : a < n → Srd cv l a (min (a + bs) n) → Blks cv bs l n (a + bs) → Blks cv bs l n a
inductive Done (cv : K → K → Int) (bs : Nat) (l : List K) : Nat → Prop
  | nil : Done cv bs l 0
  | cons {a : Nat} : Done cv bs l a → Srd cv l a (a + bs) → Done cv bs l (a + bs)
theorem Blks.keep {bs n : Nat} {l l' : List K} {a : Nat} (h : Blks cv bs l n a) (e : ∀ t, a ≤ t → gt l' t = gt l t) : Blks cv bs l' n a := by
  induction h with
  | nil h => exact .nil h
  | cons h1 h2 h3 ih => exact .cons h1 (h2.keep fun t h4 _ => e t h4) (ih fun t ht => e t (by omega))
theorem Done.keep {bs : Nat} {l l' : List K} {a : Nat} (h : Done cv bs l a) (e : ∀ t, t < a → gt l' t = gt l t) : Done cv bs l' a := by
  induction h with
  | nil => exact .nil
  | cons h1 h2 ih => exact .cons (ih fun t ht => e t (by omega)) (h2.keep fun t _ h4 => e t h4)
theorem Done.blks {bs n : Nat} {l : List K} {a : Nat} (hbs : 0 < bs) (h : Done cv bs l a) (ha : a ≤ n) (k : Blks cv bs l n a) : Blks cv bs l n 0 := by
  induction h with
  | nil => exact k
  | cons h1 h2 ih =>
    refine ih (by omega) (.cons (by omega) ?_ k)
    rw [Nat.min_eq_left ha]; exact h2
theorem Blks.srd {bs n : Nat} {l : List K} {a : Nat} (h : Blks cv bs l n a) : Srd cv l a (min (a + bs) n) := by
  cases h with
  | nil h => intro i j h1 h2 h3; omega
  | cons h1 h2 h3 => exact h2
theorem Blks.next {bs n : Nat} {l : List K} {a : Nat} (h : Blks cv bs l n a) (ha : a < n) : Blks cv bs l n (a + bs) := by
  cases h with
  | nil h => omega
  | cons h1 h2 h3 => exact h3
end
end Go.Proofs.YtnkhnnojdlgfjaaDoor.Ky
