/- Layer 11's play: what holds throughout, who keeps waiting, in plain Lean. No condition. Written by hand. -/
import Derived.Test.YtiidjnnagbfokaaModel
namespace Go.Proofs.Ytiidjnnagbfokaa.Lk
open Go Go.RowKit Go.Proofs.YtiidjnnagbfokaaW.PrintWords Go.Proofs.YtiidjnnagbfokaaW.PrintLast Go.Proofs.YtiidjnnagbfokaaW.PrintMore
set_option linter.unusedVariables false
/-! ### enough rounds -/
def Evt {β : Type} (g : Nat → Option β) (r : β) : Prop := ∃ K, ∀ k, K ≤ k → g k = some r
theorem Evt.step {β : Type} {g h : Nat → Option β} {r : β} (he : Evt h r) (hs : ∀ k, g (k + 1) = h k) : Evt g r := by
  obtain ⟨K, hK⟩ := he
  refine ⟨K + 1, fun k hk => ?_⟩
  obtain ⟨k, rfl⟩ : ∃ m, k = m + 1 := ⟨k - 1, by omega⟩
  rw [hs]
  exact hK k (by omega)
theorem Evt.bind {α β : Type} {g : Nat → Option α} {h : Nat → α → Option β} {a : α} {r : β} (hg : Evt g a) (hh : Evt (fun k => h k a) r) : Evt (fun k => (g k).bind (h k)) r := by
  obtain ⟨K, hK⟩ := hg
  obtain ⟨K2, hK2⟩ := hh
  refine ⟨max K K2, fun k hk => ?_⟩
  show (g k).bind (h k) = some r
  rw [hK k (by omega), Option.bind_some]
  exact hK2 k (by omega)
theorem Evt.now {β : Type} (r : β) : Evt (fun _ => some r) r := ⟨0, fun _ _ => rfl⟩
theorem Evt.get {β : Type} {g : Nat → Option β} {r : β} (h : Evt g r) : ∃ k, g k = some r := by
  obtain ⟨K, hK⟩ := h
  exact ⟨K, hK K (Nat.le_refl _)⟩
/-! ### the waiters' answer, of any waiters -/
def hdL (L : List (List Int × Int)) (j : Nat) : List Int := (L.getD j ([], 0)).1
def wtL (L : List (List Int × Int)) (j : Nat) : Int := (L.getD j ([], 0)).2
def castL (s : List Nat) : List Int := s.map fun (k : Nat) => (k : Int)
theorem waitsP_at (f : IM) : ∀ (L : List (List Int × Int)) (i : Int) (g : IM), (∀ k, k ≥ i → g k = none) → ∀ k v, waitsP f i L g k = some v ↔ g k = some v ∨ ∃ j : Nat, j < L.length ∧ k = i + j ∧ (L.getD j ([], 0)).2 ≥ 0 ∧ f (L.getD j ([], 0)).2 = some v
  | [], i, g, hg, k, v => by simp [waitsP]
  | w :: t, i, g, hg, k, v => by
    have hset : ∀ (g' : IM), (∀ k, k ≥ i + 1 → g' k = none) → (∀ k v, g' k = some v ↔ g k = some v ∨ (k = i ∧ w.2 ≥ 0 ∧ f w.2 = some v)) → (waitsP f (i + 1) t g' k = some v ↔ g k = some v ∨ ∃ j : Nat, j < (w :: t).length ∧ k = i + j ∧ ((w :: t).getD j ([], 0)).2 ≥ 0 ∧ f ((w :: t).getD j ([], 0)).2 = some v) := by
      intro g' h1 h2
      rw [waitsP_at f t (i + 1) g' h1 k v, h2 k v]
      constructor
      · rintro ((h | ⟨h3, h4⟩) | ⟨j, h3, h4, h5⟩)
        · exact Or.inl h
        · exact Or.inr ⟨0, by simp, by omega, h4⟩
        · exact Or.inr ⟨j + 1, by simp; omega, by omega, h5⟩
      · rintro (h | ⟨j, h3, h4, h5⟩)
        · exact Or.inl (Or.inl h)
        · cases j with
          | zero => exact Or.inl (Or.inr ⟨by omega, h5⟩)
          | succ j => exact Or.inr ⟨j, by simp at h3; omega, by omega, h5⟩
    rw [waitsP]
    cases hf : f w.2 with
    | none =>
      refine hset g (fun k hk => hg k (by omega)) fun k v => ?_
      simp [hf]
    | some who =>
      simp only
      by_cases c : w.2 ≥ 0
      · rw [if_pos c]
        refine hset (g.put i who) (fun k hk => by unfold IM.put; rw [if_neg (by omega)]; exact hg k (by omega)) fun k v => ?_
        unfold IM.put
        by_cases e : k = i
        · subst e
          rw [if_pos rfl, hg k (by omega), hf]
          simp [c]
        · rw [if_neg e]
          simp [e]
      · rw [if_neg c]
        refine hset g (fun k hk => hg k (by omega)) fun k v => ?_
        simp [c]
theorem filter_lt {α : Type} (p q : α → Bool) : ∀ L : List α, (∀ x, p x = true → q x = true) → (∃ x ∈ L, q x = true ∧ p x = false) → (L.filter p).length < (L.filter q).length
  | [], _, h => by obtain ⟨x, hx, _⟩ := h; cases hx
  | y :: t, hpq, h => by
    have hle : (t.filter p).length ≤ (t.filter q).length := by
      clear h
      induction t with
      | nil => simp
      | cons z t ih =>
        rw [List.filter_cons, List.filter_cons]
        by_cases c : p z = true
        · rw [if_pos c, if_pos (hpq z c)]; simp; exact ih
        · rw [if_neg c]; split
          · simp; omega
          · exact ih
    obtain ⟨x, hx, hq, hp⟩ := h
    rw [List.filter_cons, List.filter_cons]
    rcases List.mem_cons.1 hx with rfl | hx
    · rw [if_neg (by rw [hp]; simp), if_pos hq]
      simp; omega
    · have := filter_lt p q t hpq ⟨x, hx, hq, hp⟩
      by_cases c : p y = true
      · rw [if_pos c, if_pos (hpq y c)]; simp; exact this
      · rw [if_neg c]; split
        · simp; omega
        · exact this
def Stable (n : Nat) (g : IM) : Prop := ∀ k : Nat, k < n → stripP (k : Int) g = g
theorem strip_dom (k : Int) (g : IM) (x v : Int) (h : stripP k g x = some v) : g x = some v := by
  unfold stripP at h
  cases hg : g k with
  | none => rw [hg] at h; exact h
  | some who =>
    rw [hg] at h
    simp only at h
    split at h
    · exact h
    · unfold IM.del at h
      split at h
      · cases h
      · exact h
theorem folds_dom : ∀ (ks : List Nat) (g : IM) (x v : Int), ks.foldl (fun (g : IM) (k : Nat) => stripP (k : Int) g) g x = some v → g x = some v
  | [], g, x, v, h => h
  | k :: t, g, x, v, h => strip_dom _ _ _ _ (folds_dom t _ x v h)
theorem folds_or : ∀ (ks : List Nat) (g : IM), ((∀ k ∈ ks, stripP (k : Int) g = g) ∧ ks.foldl (fun (g : IM) (k : Nat) => stripP (k : Int) g) g = g) ∨ ∃ k ∈ ks, (g (k : Int)).isSome = true ∧ ks.foldl (fun (g : IM) (k : Nat) => stripP (k : Int) g) g (k : Int) = none
  | [], g => Or.inl ⟨fun k hk => by (cases hk), rfl⟩
  | k :: t, g => by
    by_cases c : stripP (k : Int) g = g
    · rw [List.foldl_cons, c]
      rcases folds_or t g with ⟨h1, h2⟩ | ⟨j, h1, h2⟩
      · exact Or.inl ⟨fun j hj => (List.mem_cons.1 hj).elim (fun e => by rw [e]; exact c) (h1 j), h2⟩
      · exact Or.inr ⟨j, List.mem_cons_of_mem _ h1, h2⟩
    · right
      have h1 : (g (k : Int)).isSome = true ∧ stripP (k : Int) g (k : Int) = none := by
        unfold stripP at c ⊢
        cases hg : g (k : Int) with
        | none => rw [hg] at c; exact absurd rfl c
        | some who =>
          rw [hg] at c
          simp only at c ⊢
          split at c
          · exact absurd rfl c
          · rename_i hh
            rw [if_neg hh]
            exact ⟨rfl, by unfold IM.del; rw [if_pos rfl]⟩
      refine ⟨k, List.mem_cons_self, h1.1, ?_⟩
      rw [List.foldl_cons]
      cases hh : t.foldl (fun (g : IM) (k : Nat) => stripP (k : Int) g) (stripP (k : Int) g) (k : Int) with
      | none => rfl
      | some v =>
        have := folds_dom t _ _ _ hh
        rw [h1.2] at this
        cases this
theorem passes_stay (n : Nat) : ∀ (m : Nat) (g : IM), Stable n g → passesP n m g = g
  | 0, g, _ => rfl
  | m + 1, g, h => by
    rw [passesP]
    have : passP n g = g := by
      unfold passP
      rcases folds_or (List.range n) g with ⟨_, h2⟩ | ⟨k, h1, h2, h3⟩
      · exact h2
      · exfalso
        have hk := List.mem_range.1 h1
        have : ∀ ks : List Nat, (∀ k ∈ ks, k < n) → ks.foldl (fun (g : IM) (k : Nat) => stripP (k : Int) g) g = g := by
          intro ks
          induction ks with
          | nil => intro _; rfl
          | cons a t ih => intro ha; rw [List.foldl_cons, h a (ha a List.mem_cons_self)]; exact ih fun k hk => ha k (List.mem_cons_of_mem _ hk)
        rw [this (List.range n) (fun k hk => List.mem_range.1 hk)] at h3
        rw [h3] at h2
        cases h2
    rw [this]
    exact passes_stay n m g h
def cntP (n : Nat) (g : IM) : Nat := ((List.range n).filter fun (k : Nat) => (g (k : Int)).isSome).length
theorem passes_stable (n : Nat) : ∀ (m : Nat) (g : IM), cntP n g ≤ m → Stable n (passesP n m g)
  | 0, g, h => by
    intro k hk
    have h0 : (List.range n).filter (fun (k : Nat) => (g (k : Int)).isSome) = [] := List.eq_nil_of_length_eq_zero (Nat.le_zero.1 h)
    rw [passesP]
    have : (g (k : Int)).isSome = false := by
      cases hg : (g (k : Int)).isSome with
      | false => rfl
      | true =>
        have : k ∈ (List.range n).filter (fun (k : Nat) => (g (k : Int)).isSome) := List.mem_filter.2 ⟨List.mem_range.2 hk, hg⟩
        rw [h0] at this
        cases this
    unfold stripP
    cases hg : g (k : Int) with
    | none => rfl
    | some v => rw [hg] at this; cases this
  | m + 1, g, h => by
    rcases folds_or (List.range n) g with ⟨h1, h2⟩ | ⟨k, h1, h2, h3⟩
    · have hst : Stable n g := fun k hk => h1 k (List.mem_range.2 hk)
      rw [passes_stay n (m + 1) g hst]
      exact hst
    · rw [passesP]
      refine passes_stable n m _ ?_
      have : cntP n (passP n g) < cntP n g := by
        refine filter_lt _ _ _ (fun x hx => ?_) ⟨k, h1, h2, by show (passP n g (k : Int)).isSome = false; unfold passP; rw [h3]; rfl⟩
        obtain ⟨v, hv⟩ := Option.isSome_iff_exists.1 hx
        rw [folds_dom _ _ _ _ hv]; rfl
      omega
theorem passes_dom (n : Nat) : ∀ (m : Nat) (g : IM) (x v : Int), passesP n m g x = some v → g x = some v
  | 0, g, x, v, h => h
  | m + 1, g, x, v, h => folds_dom _ _ _ _ (passes_dom n m _ x v h)
/-- What keeps itself is never stripped -/
theorem folds_keep (Y : Int → Prop) (g0 : IM) (hY : ∀ k, Y k → ∃ v, g0 k = some v ∧ Y v) : ∀ (ks : List Nat) (g : IM), (∀ k, Y k → g k = g0 k) → ∀ k, Y k → ks.foldl (fun (g : IM) (k : Nat) => stripP (k : Int) g) g k = g0 k
  | [], g, h, k, hk => h k hk
  | a :: t, g, h, k, hk => by
    rw [List.foldl_cons]
    refine folds_keep Y g0 hY t _ (fun x hx => ?_) k hk
    by_cases e : x = (a : Int)
    · subst e
      obtain ⟨v, h1, h2⟩ := hY _ hx
      obtain ⟨u, h3, _⟩ := hY _ h2
      have hga := (h _ hx).trans h1
      have hgv := (h _ h2).trans h3
      unfold stripP
      rw [hga]
      simp only
      rw [hgv, if_pos (by rfl), hga, h1]
    · rw [← h x hx]
      unfold stripP
      cases hg : g (a : Int) with
      | none => rfl
      | some who =>
        simp only
        split
        · rfl
        · unfold IM.del; rw [if_neg e]
theorem passes_keep (n : Nat) (Y : Int → Prop) (g0 : IM) (hY : ∀ k, Y k → ∃ v, g0 k = some v ∧ Y v) : ∀ (m : Nat) (g : IM), (∀ k, Y k → g k = g0 k) → ∀ k, Y k → passesP n m g k = g0 k
  | 0, g, h, k, hk => h k hk
  | m + 1, g, h, k, hk => passes_keep n Y g0 hY m _ (fun x hx => folds_keep Y g0 hY _ g h x hx) k hk
def PostL (L : List (List Int × Int)) (Y : Nat → Prop) : Prop := ∀ k, Y k → wtL L k ≥ 0 ∧ ∃ j, Y j ∧ j < L.length ∧ wtL L k ∈ hdL L j
theorem holdsP_has (k : Int) : ∀ (hs : List Int) (f f' : IM), holdsP k hs f = some f' → ∀ a v, f' a = some v ↔ f a = some v ∨ (a ∈ hs ∧ v = k)
  | [], f, f', h => by
    rw [holdsP] at h
    obtain rfl := Option.some.inj h
    simp
  | x :: t, f, f', h => by
    rw [holdsP] at h
    by_cases c : (f x).isSome = true
    · rw [if_pos c] at h; cases h
    rw [if_neg c] at h
    by_cases c2 : x < 0
    · rw [if_pos c2] at h; cases h
    rw [if_neg c2] at h
    intro a v
    rw [holdsP_has k t _ _ h a v]
    have hx : f x = none := by simpa using c
    unfold IM.put
    by_cases e : a = x
    · subst e
      rw [if_pos rfl, hx]
      simp only [Option.some.injEq, List.mem_cons, true_or, true_and, reduceCtorEq, false_or]
      constructor
      · rintro (h | h)
        · exact h.symm
        · exact h.2
      · exact fun h => Or.inl h.symm
    · rw [if_neg e, List.mem_cons]
      simp [e]
/-- The first pass, over one waiter's locks -/
theorem holdsP_some (k : Int) : ∀ (hs : List Int) (f : IM), (∀ x ∈ hs, f x = none ∧ 0 ≤ x) → hs.Nodup → ∃ f', holdsP k hs f = some f'
  | [], f, _, _ => ⟨f, rfl⟩
  | x :: t, f, h, hn => by
    obtain ⟨h1, h2⟩ := h x List.mem_cons_self
    rw [holdsP, if_neg (by rw [h1]; simp), if_neg (by omega)]
    have hn2 := List.nodup_cons.1 hn
    refine holdsP_some k t _ (fun y hy => ⟨?_, (h y (List.mem_cons_of_mem _ hy)).2⟩) hn2.2
    unfold IM.put
    rw [if_neg (fun e => hn2.1 (by rw [← e]; exact hy))]
    exact (h y (List.mem_cons_of_mem _ hy)).1
theorem byP_has : ∀ (L : List (List Int × Int)) (i : Int) (f f' : IM), byP i L f = some f' → ∀ a v, f' a = some v ↔ f a = some v ∨ ∃ j : Nat, j < L.length ∧ a ∈ hdL L j ∧ v = i + j
  | [], i, f, f', h, a, v => by
    rw [byP] at h
    obtain rfl := Option.some.inj h
    simp
  | w :: t, i, f, f', h, a, v => by
    rw [byP] at h
    obtain ⟨f1, h1, h2⟩ := Option.bind_eq_some_iff.1 h
    by_cases c : w.2 ∈ w.1
    · rw [if_pos c] at h2; cases h2
    rw [if_neg c] at h2
    rw [byP_has t (i + 1) f1 f' h2 a v, holdsP_has i _ _ _ h1 a v]
    constructor
    · rintro ((h | ⟨h3, h4⟩) | ⟨j, h3, h4, h5⟩)
      · exact Or.inl h
      · exact Or.inr ⟨0, by simp, h3, by omega⟩
      · exact Or.inr ⟨j + 1, by simp; omega, h4, by omega⟩
    · rintro (h | ⟨j, h3, h4, h5⟩)
      · exact Or.inl (Or.inl h)
      · cases j with
        | zero => exact Or.inl (Or.inr ⟨h4, by omega⟩)
        | succ j => exact Or.inr ⟨j, by simp at h3; omega, h4, by omega⟩
theorem byP_some : ∀ (L : List (List Int × Int)) (i : Int) (f : IM), (∀ j, j < L.length → (hdL L j).Nodup ∧ wtL L j ∉ hdL L j ∧ ∀ x ∈ hdL L j, f x = none ∧ 0 ≤ x) → (∀ j k, j < k → k < L.length → ∀ x ∈ hdL L k, x ∉ hdL L j) → ∃ f', byP i L f = some f'
  | [], i, f, _, _ => ⟨f, rfl⟩
  | w :: t, i, f, h, hd => by
    obtain ⟨h1, h2, h3⟩ := h 0 (by simp)
    obtain ⟨f1, hf1⟩ := holdsP_some i w.1 f h3 h1
    rw [byP, hf1, Option.bind_some, if_neg (show ¬ w.2 ∈ w.1 from h2)]
    refine byP_some t (i + 1) f1 (fun j hj => ?_) (fun j k hjk hk => hd (j + 1) (k + 1) (by omega) (by simp; omega))
    obtain ⟨h4, h5, h6⟩ := h (j + 1) (by simp; omega)
    refine ⟨h4, h5, fun x hx => ⟨?_, (h6 x hx).2⟩⟩
    cases he : f1 x with
    | none => rfl
    | some v =>
      rcases (holdsP_has i _ _ _ hf1 x v).1 he with h7 | ⟨h7, _⟩
      · rw [(h6 x hx).1] at h7; cases h7
      · exact absurd h7 (hd 0 (j + 1) (by omega) (by simp; omega) x hx)
/-- Who is stuck is the greatest set of those who want what one of them has -/
theorem stuck_set (L : List (List Int × Int)) (hl : L.length ≤ 64) (f : IM) (hby : byP 0 L (fun _ => none) = some f) : ∃ Z : List Nat, stuckP L = (castL Z, 0) ∧ (∀ k ∈ Z, k < L.length) ∧ PostL L (fun k => k ∈ Z) ∧ ∀ Y, PostL L Y → ∀ k, Y k → k < L.length → k ∈ Z := by
  have hf : ∀ a v, f a = some v ↔ ∃ j : Nat, j < L.length ∧ a ∈ hdL L j ∧ v = (j : Int) := by
    intro a v
    rw [byP_has L 0 _ _ hby a v]
    constructor
    · rintro (h | ⟨j, h1, h2, h3⟩)
      · cases h
      · exact ⟨j, h1, h2, by omega⟩
    · rintro ⟨j, h1, h2, h3⟩
      exact Or.inr ⟨j, h1, h2, by omega⟩
  have e : stuckP L = (leftP L.length (passesP L.length L.length (waitsP f 0 L (fun _ => none))), 0) := by
    unfold stuckP
    rw [if_neg (by omega), hby]
  have hg0 : ∀ k v, waitsP f 0 L (fun _ => none) k = some v ↔ ∃ j : Nat, j < L.length ∧ k = (j : Int) ∧ wtL L j ≥ 0 ∧ f (wtL L j) = some v := by
    intro k v
    rw [waitsP_at f _ 0 _ (fun _ _ => rfl) k v]
    constructor
    · rintro (h | ⟨j, h1, h2, h3⟩)
      · cases h
      · exact ⟨j, h1, by omega, h3⟩
    · rintro ⟨j, h1, h2, h3⟩
      exact Or.inr ⟨j, h1, by omega, h3⟩
  rw [e]
  generalize hgg : waitsP f 0 L (fun _ => none) = g0 at hg0 ⊢
  have hst := passes_stable L.length L.length g0 (by unfold cntP; exact Nat.le_trans (List.length_filter_le _ _) (by rw [List.length_range]; exact Nat.le_refl _))
  have hdom := passes_dom L.length L.length g0
  have hkeep := passes_keep L.length
  refine ⟨(List.range L.length).filter (fun (k : Nat) => (passesP L.length L.length g0 (k : Int)).isSome), rfl, fun k hk => List.mem_range.1 (List.mem_filter.1 hk).1, fun k hk => ?_, fun Y hY k hk hkl => ?_⟩
  · obtain ⟨hk1, hs⟩ := List.mem_filter.1 hk
    have hkl := List.mem_range.1 hk1
    obtain ⟨v, hv⟩ := Option.isSome_iff_exists.1 hs
    obtain ⟨j, h1, h2, h3, h4⟩ := (hg0 _ _).1 (hdom _ _ hv)
    obtain rfl : k = j := by omega
    obtain ⟨i, h5, h6, rfl⟩ := (hf _ _).1 h4
    refine ⟨h3, i, List.mem_filter.2 ⟨List.mem_range.2 h5, ?_⟩, h5, h6⟩
    have := hst k hkl
    unfold stripP at this
    rw [hv] at this
    simp only at this
    by_cases c : (passesP L.length L.length g0 (i : Int)).isSome = true
    · exact c
    · rw [if_neg c] at this
      have h7 := congrFun this (k : Int)
      unfold IM.del at h7
      rw [if_pos rfl, hv] at h7
      cases h7
  · have h7 := hkeep (fun x => ∃ k : Nat, x = (k : Int) ∧ Y k ∧ k < L.length) g0 (by
      rintro _ ⟨k, rfl, hk, hkl⟩
      obtain ⟨h1, j, h2, h3, h4⟩ := hY k hk
      exact ⟨(j : Int), (hg0 _ _).2 ⟨k, hkl, rfl, h1, (hf _ _).2 ⟨j, h3, h4, rfl⟩⟩, j, rfl, h2, h3⟩) L.length g0 (fun _ _ => rfl) (k : Int) ⟨k, rfl, hk, hkl⟩
    obtain ⟨h3, j, h4, h5, h6⟩ := hY k hk
    have h8 : g0 (k : Int) = some (j : Int) := (hg0 _ _).2 ⟨k, hkl, rfl, h3, (hf _ _).2 ⟨j, h5, h6, rfl⟩⟩
    exact List.mem_filter.2 ⟨List.mem_range.2 hkl, by show (passesP L.length L.length g0 (k : Int)).isSome = true; rw [h7, h8]; rfl⟩
/-! ### the play's state -/
section
variable (ord : Bool) (jobs : List (List Pr))
def scS (s : PS) (k : Nat) : List Int := secAt ord (jobs.getD k []) (s.all.getD k (0, 0)).1
def hasS (s : PS) (k : Nat) : Nat := (s.all.getD k (0, 0)).2
def atS (s : PS) (k : Nat) : Nat := (s.all.getD k (0, 0)).1
def held (s : PS) (k : Nat) : List Int := (scS ord jobs s k).take (hasS s k)
/-- Sections of two of six locks -/
def Six : Prop := ∀ k, ∀ p ∈ jobs.getD k [], 0 ≤ p.1 ∧ p.1 < 6 ∧ 0 ≤ p.2 ∧ p.2 < 6
structure Gd (s : PS) : Prop where
  by6 : s.by_.length = 6
  all : s.all.length = jobs.length
  atle : ∀ k, k < jobs.length → atS s k ≤ (jobs.getD k []).length
  hasle : ∀ k, k < jobs.length → hasS s k ≤ (scS ord jobs s k).length
  own : ∀ (x k : Nat), x < 6 → k < jobs.length → (s.by_.getD x 0 = (k : Int) ↔ (x : Int) ∈ held ord jobs s k)
  rng : ∀ x : Nat, x < 6 → s.by_.getD x 0 = -1 ∨ ∃ k : Nat, k < jobs.length ∧ s.by_.getD x 0 = (k : Int)
end
section
variable {ord : Bool} {jobs : List (List Pr)}
theorem secOf_mem {x y z : Int} (h : z ∈ secOf x y ord) : z = x ∨ z = y := by
  have ha : (if ord then mn x y else x) = x ∨ (if ord then mn x y else x) = y := by
    cases ord
    · exact Or.inl rfl
    · show mn x y = x ∨ mn x y = y
      unfold mn; split <;> simp
  have hb : (if ord then mx x y else y) = x ∨ (if ord then mx x y else y) = y := by
    cases ord
    · exact Or.inr rfl
    · show mx x y = x ∨ mx x y = y
      unfold mx; split <;> simp
  unfold secOf at h
  generalize (if ord then mn x y else x) = a at h ha
  generalize (if ord then mx x y else y) = b at h hb
  by_cases c : a = b
  · rw [if_pos c] at h
    rw [List.mem_singleton.1 h]; exact ha
  · rw [if_neg c] at h
    rcases List.mem_cons.1 h with rfl | h
    · exact ha
    · rw [List.mem_singleton.1 h]; exact hb
theorem secOf_nodup (x y : Int) : (secOf x y ord).Nodup := by
  unfold secOf
  generalize (if ord then mn x y else x) = a
  generalize (if ord then mx x y else y) = b
  by_cases h : a = b
  · rw [if_pos h]; simp
  · rw [if_neg h]; simp [h]
theorem secAt_mem {job : List Pr} {a : Nat} {z : Int} (h : z ∈ secAt ord job a) : ∃ p ∈ job, z = p.1 ∨ z = p.2 := by
  unfold secAt at h
  split at h
  · rename_i hl
    refine ⟨job.getD a (0, 0), ?_, secOf_mem h⟩
    rw [List.getD_eq_getElem?_getD, List.getElem?_eq_getElem hl]
    exact List.getElem_mem hl
  · cases h
theorem secAt_nodup (job : List Pr) (a : Nat) : (secAt ord job a).Nodup := by
  unfold secAt
  split
  · exact secOf_nodup _ _
  · exact List.nodup_nil
theorem sc_rng (hJ : Six jobs) {s : PS} {k : Nat} {z : Int} (h : z ∈ scS ord jobs s k) : 0 ≤ z ∧ z < 6 := by
  obtain ⟨p, h1, h2⟩ := secAt_mem h
  have := hJ k p h1
  rcases h2 with rfl | rfl <;> omega
theorem held_rng (hJ : Six jobs) {s : PS} {k : Nat} {z : Int} (h : z ∈ held ord jobs s k) : 0 ≤ z ∧ z < 6 := sc_rng hJ (List.mem_of_mem_take h)
theorem held_nodup (s : PS) (k : Nat) : (held ord jobs s k).Nodup := List.Nodup.sublist (List.take_sublist _ _) (secAt_nodup _ _)
theorem sc_lt {s : PS} {k : Nat} (h : 0 < (scS ord jobs s k).length) : atS s k < (jobs.getD k []).length := by
  apply Classical.byContradiction
  intro hn
  unfold scS at h
  rw [secAt_none (show ¬ (s.all.getD k (0, 0)).1 < (jobs.getD k []).length from hn)] at h
  simp at h
/-- Who has it, it is told to have it: what two have is not one -/
theorem Gd.disj {s : PS} (g : Gd ord jobs s) (hJ : Six jobs) {j k : Nat} (hj : j < jobs.length) (hk : k < jobs.length) {z : Int} (h1 : z ∈ held ord jobs s j) (h2 : z ∈ held ord jobs s k) : j = k := by
  have hz := held_rng hJ h1
  obtain ⟨x, rfl⟩ : ∃ x : Nat, z = x := ⟨z.toNat, by omega⟩
  have e1 := (g.own x j (by omega) hj).2 h1
  have e2 := (g.own x k (by omega) hk).2 h2
  omega
/-- What a pick does -/
inductive Step (s : PS) (p : Int) : PS → Prop
  | same : Step s p s
  | took (k x : Nat) (hp : p = (k : Int)) (hk : k < jobs.length) (hh : hasS s k < (scS ord jobs s k).length) (hx : (scS ord jobs s k).getD (hasS s k) 0 = (x : Int)) (hx6 : x < 6) (hb : s.by_.getD x 0 < 0) :
      Step s p ⟨s.by_.set x p, s.all.set k (atS s k, hasS s k + 1), s.done⟩
  | gave (k : Nat) (hp : p = (k : Int)) (hk : k < jobs.length) (h0 : 0 < (scS ord jobs s k).length) (hh : ¬ hasS s k < (scS ord jobs s k).length) :
      Step s p ⟨(scS ord jobs s k).foldl (fun b x => (giveP b x p).1) s.by_, s.all.set k (atS s k + 1, 0), s.done ++ [p]⟩
theorem getD_mem_ {α : Type} (l : List α) (i : Nat) (d : α) (h : i < l.length) : l.getD i d ∈ l := by
  rw [List.getD_eq_getElem?_getD, List.getElem?_eq_getElem h]
  exact List.getElem_mem h
theorem Gd.step {s : PS} (g : Gd ord jobs s) (hJ : Six jobs) (p : Int) : Step (ord := ord) (jobs := jobs) s p (stepP ord jobs s p) := by
  unfold stepP
  by_cases c : p < 0 ∨ p ≥ jobs.length
  · rw [if_pos c]; exact .same
  rw [if_neg c]
  dsimp only
  obtain ⟨k, rfl⟩ : ∃ k : Nat, p = k := ⟨p.toNat, by omega⟩
  rw [Int.toNat_natCast]
  have hk : k < jobs.length := by omega
  by_cases c1 : (secAt ord (jobs.getD k []) (s.all.getD k (0, 0)).1).length = 0
  · rw [if_pos c1]; exact .same
  rw [if_neg c1]
  by_cases c2 : (s.all.getD k (0, 0)).2 < (secAt ord (jobs.getD k []) (s.all.getD k (0, 0)).1).length
  · rw [if_pos c2]
    have hm := getD_mem_ (secAt ord (jobs.getD k []) (s.all.getD k (0, 0)).1) (s.all.getD k (0, 0)).2 0 c2
    have hr := sc_rng (ord := ord) hJ (s := s) (k := k) hm
    obtain ⟨x, hx⟩ : ∃ x : Nat, (secAt ord (jobs.getD k []) (s.all.getD k (0, 0)).1).getD (s.all.getD k (0, 0)).2 0 = (x : Int) := ⟨_, (Int.toNat_of_nonneg hr.1).symm⟩
    rw [hx] at hr ⊢
    unfold takeP
    rw [if_neg (show ¬ ((x : Int) < 0 ∨ (x : Int) ≥ (s.by_.length : Int) ∨ (k : Int) < 0) by have := g.by6; omega), Int.toNat_natCast]
    by_cases c3 : s.by_.getD x 0 = (k : Int)
    · rw [if_pos c3]; simp only; rw [if_neg (by omega)]; exact .same
    rw [if_neg c3]
    by_cases c4 : s.by_.getD x 0 ≥ 0
    · rw [if_pos c4]; simp only; rw [if_neg (by omega)]; exact .same
    rw [if_neg c4]
    simp only [if_true]
    exact .took k x rfl hk c2 hx (by omega) (by omega)
  · rw [if_neg c2]
    exact .gave k rfl hk (Nat.pos_of_ne_zero c1) c2
theorem gives_getD (k : Nat) : ∀ (l : List Int) (b : List Int), b.length = 6 → (∀ z ∈ l, 0 ≤ z ∧ z < 6 ∧ b.getD z.toNat 0 = (k : Int)) → l.Nodup → (l.foldl (fun b x => (giveP b x (k : Int)).1) b).length = 6 ∧ ∀ y : Nat, y < 6 → (l.foldl (fun b x => (giveP b x (k : Int)).1) b).getD y 0 = if (y : Int) ∈ l then -1 else b.getD y 0
  | [], b, hb, _, _ => ⟨hb, fun y _ => by simp⟩
  | z :: t, b, hb, h, hn => by
    obtain ⟨h1, h2, h3⟩ := h z List.mem_cons_self
    have hn2 := List.nodup_cons.1 hn
    have e : (giveP b z (k : Int)).1 = b.set z.toNat (-1) := by
      unfold giveP
      rw [if_neg (by omega), if_pos h3]
    rw [List.foldl_cons, e]
    obtain ⟨h4, h5⟩ := gives_getD k t (b.set z.toNat (-1)) (by rw [List.length_set]; exact hb) (fun y hy => by
      obtain ⟨h6, h7, h8⟩ := h y (List.mem_cons_of_mem _ hy)
      refine ⟨h6, h7, ?_⟩
      rw [getD_set_, if_neg (fun hh => hn2.1 (by rw [show z = y by omega]; exact hy))]
      exact h8) hn2.2
    refine ⟨h4, fun y hy => ?_⟩
    rw [h5 y hy, getD_set_]
    by_cases c : (y : Int) ∈ t
    · rw [if_pos c, if_pos (List.mem_cons_of_mem _ c)]
    · rw [if_neg c]
      by_cases e2 : (y : Int) = z
      · rw [if_pos ⟨by omega, by omega⟩, if_pos (by rw [e2]; exact List.mem_cons_self)]
      · rw [if_neg (fun hh => e2 (by omega)), if_neg (by rw [List.mem_cons]; exact fun hh => hh.elim e2 c)]
theorem getD_set_eq {α : Type} (l : List α) (k : Nat) (x d : α) (h : k < l.length) : (l.set k x).getD k d = x := by rw [getD_set_, if_pos ⟨rfl, h⟩]
theorem getD_set_ne {α : Type} (l : List α) (k j : Nat) (x d : α) (h : k ≠ j) : (l.set k x).getD j d = l.getD j d := by rw [getD_set_, if_neg (fun hh => h hh.1)]
theorem Gd.after {s t : PS} (g : Gd ord jobs s) (hJ : Six jobs) {p : Int} (h : Step (ord := ord) (jobs := jobs) s p t) : Gd ord jobs t := by
  cases h with
  | same => exact g
  | took k x hp hk hh hx hx6 hb =>
    subst hp
    have hka : k < s.all.length := by rw [g.all]; exact hk
    have e1 : (s.all.set k (atS s k, hasS s k + 1)).getD k (0, 0) = (atS s k, hasS s k + 1) := getD_set_eq _ _ _ _ hka
    have e2 : ∀ j, k ≠ j → (s.all.set k (atS s k, hasS s k + 1)).getD j (0, 0) = s.all.getD j (0, 0) := fun j hj => getD_set_ne _ _ _ _ _ hj
    have hheld : ∀ j, held ord jobs ⟨s.by_.set x (k : Int), s.all.set k (atS s k, hasS s k + 1), s.done⟩ j = if k = j then held ord jobs s k ++ [(x : Int)] else held ord jobs s j := by
      intro j
      by_cases e : k = j
      · subst e
        rw [if_pos rfl]
        have := take_snoc_ (scS ord jobs s k) (hasS s k) 0 hh
        rw [hx] at this
        show ((secAt ord (jobs.getD k []) ((s.all.set k (atS s k, hasS s k + 1)).getD k (0, 0)).1).take ((s.all.set k (atS s k, hasS s k + 1)).getD k (0, 0)).2) = _
        rw [e1]
        exact this
      · rw [if_neg e]
        show ((secAt ord (jobs.getD j []) ((s.all.set k (atS s k, hasS s k + 1)).getD j (0, 0)).1).take ((s.all.set k (atS s k, hasS s k + 1)).getD j (0, 0)).2) = _
        rw [e2 j e]
        rfl
    refine ⟨by simpa using g.by6, by simpa using g.all, fun j hj => ?_, fun j hj => ?_, fun y j hy hj => ?_, fun y hy => ?_⟩
    · show ((s.all.set k (atS s k, hasS s k + 1)).getD j (0, 0)).1 ≤ _
      by_cases e : k = j
      · subst e; rw [e1]; exact g.atle k hk
      · rw [e2 j e]; exact g.atle j hj
    · show ((s.all.set k (atS s k, hasS s k + 1)).getD j (0, 0)).2 ≤ (secAt ord (jobs.getD j []) ((s.all.set k (atS s k, hasS s k + 1)).getD j (0, 0)).1).length
      by_cases e : k = j
      · subst e; rw [e1]; exact hh
      · rw [e2 j e]; exact g.hasle j hj
    · rw [hheld j]
      show (s.by_.set x (k : Int)).getD y 0 = (j : Int) ↔ _
      by_cases ey : x = y
      · subst ey
        rw [getD_set_eq _ _ _ _ (by rw [g.by6]; exact hx6)]
        by_cases e : k = j
        · subst e; rw [if_pos rfl]; simp
        · rw [if_neg e]
          constructor
          · intro h; omega
          · intro h
            have := (g.own x j hy hj).2 h
            omega
      · rw [getD_set_ne _ _ _ _ _ ey]
        by_cases e : k = j
        · subst e
          rw [if_pos rfl, List.mem_append, g.own y k hy hk]
          constructor
          · exact Or.inl
          · rintro (h | h)
            · exact h
            · have := List.mem_singleton.1 h; omega
        · rw [if_neg e]; exact g.own y j hy hj
    · show (s.by_.set x (k : Int)).getD y 0 = -1 ∨ _
      by_cases ey : x = y
      · subst ey
        exact Or.inr ⟨k, hk, getD_set_eq _ _ _ _ (by rw [g.by6]; exact hx6)⟩
      · have := g.rng y hy
        rwa [← getD_set_ne s.by_ x y (k : Int) 0 ey] at this
  | gave k hp hk h0 hh =>
    subst hp
    have hka : k < s.all.length := by rw [g.all]; exact hk
    have hfull : hasS s k = (scS ord jobs s k).length := by have := g.hasle k hk; omega
    have hhk : held ord jobs s k = scS ord jobs s k := by unfold held; rw [hfull, List.take_length]
    have e1 : (s.all.set k (atS s k + 1, 0)).getD k (0, 0) = (atS s k + 1, 0) := getD_set_eq _ _ _ _ hka
    have e2 : ∀ j, k ≠ j → (s.all.set k (atS s k + 1, 0)).getD j (0, 0) = s.all.getD j (0, 0) := fun j hj => getD_set_ne _ _ _ _ _ hj
    obtain ⟨h6, hget⟩ := gives_getD k (scS ord jobs s k) s.by_ g.by6 (fun z hz => by
      have hr := sc_rng hJ hz
      refine ⟨hr.1, hr.2, ?_⟩
      refine (g.own z.toNat k (by omega) hk).2 ?_
      rw [hhk, show ((z.toNat : Nat) : Int) = z by omega]
      exact hz) (secAt_nodup _ _)
    have hheld : ∀ b d j, held ord jobs ⟨b, s.all.set k (atS s k + 1, 0), d⟩ j = if k = j then [] else held ord jobs s j := by
      intro b d j
      show ((secAt ord (jobs.getD j []) ((s.all.set k (atS s k + 1, 0)).getD j (0, 0)).1).take ((s.all.set k (atS s k + 1, 0)).getD j (0, 0)).2) = _
      by_cases e : k = j
      · subst e; rw [if_pos rfl, e1]; rfl
      · rw [if_neg e, e2 j e]; rfl
    refine ⟨h6, by simpa using g.all, fun j hj => ?_, fun j hj => ?_, fun y j hy hj => ?_, fun y hy => ?_⟩
    · show ((s.all.set k (atS s k + 1, 0)).getD j (0, 0)).1 ≤ _
      by_cases e : k = j
      · subst e; rw [e1]; exact sc_lt h0
      · rw [e2 j e]; exact g.atle j hj
    · show ((s.all.set k (atS s k + 1, 0)).getD j (0, 0)).2 ≤ (secAt ord (jobs.getD j []) ((s.all.set k (atS s k + 1, 0)).getD j (0, 0)).1).length
      by_cases e : k = j
      · subst e; rw [e1]; exact Nat.zero_le _
      · rw [e2 j e]; exact g.hasle j hj
    · rw [hheld]
      show (List.foldl _ s.by_ (scS ord jobs s k)).getD y 0 = (j : Int) ↔ _
      rw [hget y hy]
      by_cases c : (y : Int) ∈ scS ord jobs s k
      · rw [if_pos c]
        by_cases e : k = j
        · rw [if_pos e]
          constructor
          · intro h; omega
          · intro h; cases h
        · rw [if_neg e]
          constructor
          · intro h; omega
          · intro h
            exact absurd (g.disj hJ hk hj (by rw [hhk]; exact c) h) e
      · rw [if_neg c]
        by_cases e : k = j
        · subst e
          rw [if_pos rfl, g.own y k hy hk, hhk]
          simp [c]
        · rw [if_neg e]; exact g.own y j hy hj
    · show (List.foldl _ s.by_ (scS ord jobs s k)).getD y 0 = -1 ∨ _
      rw [hget y hy]
      split
      · exact Or.inl rfl
      · exact g.rng y hy
theorem Gd.start (ord : Bool) (jobs : List (List Pr)) : Gd ord jobs (startP 6 jobs.length) := by
  have h0 : ∀ k, (startP 6 jobs.length).all.getD k (0, 0) = (0, 0) := by
    intro k
    simp only [startP, List.getD_eq_getElem?_getD, List.getElem?_replicate]
    split <;> rfl
  have hb : ∀ x : Nat, x < 6 → (startP 6 jobs.length).by_.getD x 0 = -1 := by
    intro x hx
    show (List.replicate 6 (-1 : Int)).getD x 0 = -1
    rw [List.getD_eq_getElem?_getD, List.getElem?_replicate, if_pos hx]; rfl
  refine ⟨by simp [startP], by simp [startP], fun k _ => ?_, fun k _ => ?_, fun x k hx _ => ?_, fun x hx => Or.inl (hb x hx)⟩
  · unfold atS; rw [h0]; exact Nat.zero_le _
  · unfold hasS; rw [h0]; exact Nat.zero_le _
  · rw [hb x hx]
    unfold held hasS
    rw [h0]
    constructor
    · intro h; omega
    · intro h; simp at h
theorem Gd.plays (hJ : Six jobs) : ∀ (picks : List Int) (s : PS), Gd ord jobs s → Gd ord jobs (picks.foldl (stepP ord jobs) s)
  | [], s, g => g
  | p :: t, s, g => Gd.plays hJ t _ (g.after hJ (g.step hJ p))
end
/-! ### what comes of it -/
section
variable {ord : Bool} {jobs : List (List Pr)}
theorem outP_length (all : List (Nat × Nat)) : (outP ord jobs all).length = jobs.length := by simp [outP]
theorem outP_getD (s : PS) (k : Nat) (hk : k < jobs.length) : (outP ord jobs s.all).getD k ([], 0) = (held ord jobs s k, if hasS s k < (scS ord jobs s k).length then (scS ord jobs s k).getD (hasS s k) 0 else -1) := by
  unfold outP
  rw [List.getD_eq_getElem?_getD, List.getElem?_map, List.getElem?_range hk]
  rfl
theorem out_hd (s : PS) (k : Nat) (hk : k < jobs.length) : hdL (outP ord jobs s.all) k = held ord jobs s k := by unfold hdL; rw [outP_getD s k hk]
theorem out_wt (s : PS) (k : Nat) (hk : k < jobs.length) : wtL (outP ord jobs s.all) k = if hasS s k < (scS ord jobs s k).length then (scS ord jobs s k).getD (hasS s k) 0 else -1 := by unfold wtL; rw [outP_getD s k hk]
theorem nodup_take (l : List Int) (h : l.Nodup) (i : Nat) (hi : i < l.length) : l.getD i 0 ∉ l.take i := by
  intro hm
  rw [List.getD_eq_getElem?_getD, List.getElem?_eq_getElem hi] at hm
  obtain ⟨j, hj, e⟩ := List.getElem_of_mem hm
  rw [List.length_take] at hj
  rw [List.getElem_take] at e
  exact List.pairwise_iff_getElem.1 h j i (by omega) hi (by omega) e
theorem Gd.by_some {s : PS} (g : Gd ord jobs s) (hJ : Six jobs) : ∃ f, byP 0 (outP ord jobs s.all) (fun _ => none) = some f := by
  refine byP_some _ 0 _ (fun j hj => ?_) (fun j k hjk hk x hx hx2 => ?_)
  · rw [outP_length] at hj
    rw [out_hd s j hj, out_wt s j hj]
    refine ⟨held_nodup s j, ?_, fun x hx => ⟨rfl, (held_rng hJ hx).1⟩⟩
    by_cases c : hasS s j < (scS ord jobs s j).length
    · rw [if_pos c]
      exact nodup_take _ (secAt_nodup _ _) _ c
    · rw [if_neg c]
      intro hm
      have := held_rng hJ hm
      omega
  · rw [outP_length] at hk
    rw [out_hd s k hk] at hx
    rw [out_hd s j (by omega)] at hx2
    have := g.disj hJ (by omega) hk hx2 hx
    omega
theorem Gd.stuck {s : PS} (g : Gd ord jobs s) (hJ : Six jobs) (hm : jobs.length ≤ 64) : ∃ Z : List Nat, stuckP (outP ord jobs s.all) = (castL Z, 0) ∧ (∀ k ∈ Z, k < jobs.length) ∧ PostL (outP ord jobs s.all) (fun k => k ∈ Z) ∧ ∀ Y, PostL (outP ord jobs s.all) Y → ∀ k, Y k → k < jobs.length → k ∈ Z := by
  obtain ⟨f, hf⟩ := g.by_some hJ
  obtain ⟨Z, h1, h2, h3, h4⟩ := stuck_set _ (by rw [outP_length]; exact hm) f hf
  rw [outP_length] at h2
  exact ⟨Z, h1, h2, h3, fun Y hY k hk hkl => h4 Y hY k hk (by rw [outP_length]; exact hkl)⟩
theorem ord_sc {job : List Pr} {a i : Nat} {x : Int} (h : i < (secAt true job a).length) (hx : x ∈ (secAt true job a).take i) : x < (secAt true job a).getD i 0 := by
  unfold secAt at h hx ⊢
  split at h
  · rename_i hl
    rw [if_pos hl] at hx ⊢
    generalize (job.getD a (0, 0)).1 = p at h hx ⊢
    generalize (job.getD a (0, 0)).2 = q at h hx ⊢
    unfold secOf at h hx ⊢
    simp only [if_true] at h hx ⊢
    by_cases c : mn p q = mx p q
    · rw [if_pos c] at h hx ⊢
      have : i = 0 := by simp at h; exact h
      subst this
      simp at hx
    · rw [if_neg c] at h hx ⊢
      have : i = 0 ∨ i = 1 := by simp at h; omega
      rcases this with rfl | rfl
      · simp at hx
      · have e : x = mn p q := by simpa using hx
        rw [e]
        show mn p q < mx p q
        unfold mn mx at c ⊢
        by_cases c1 : q < p
        · rw [if_pos c1, if_neg (by omega)] at c ⊢
          exact c1
        · by_cases c2 : p < q
          · rw [if_neg c1, if_pos c2] at c ⊢
            exact c2
          · rw [if_neg c1, if_neg c2] at c
            exact absurd rfl c
  · simp at h
/-- With ordered nobody keeps waiting -/
theorem Gd.free {s : PS} (g : Gd true jobs s) (hJ : Six jobs) (Y : Nat → Prop) (hY : PostL (outP true jobs s.all) Y) : ∀ (n k : Nat), Y k → k < jobs.length → 6 - wtL (outP true jobs s.all) k ≤ (n : Int) → False
  | n, k, hk, hkl, hn => by
    obtain ⟨h1, j, h2, h3, h4⟩ := hY k hk
    rw [outP_length] at h3
    have h5 := (hY j h2).1
    rw [out_hd s j h3] at h4
    rw [out_wt s j h3] at h5
    by_cases c : hasS s j < (scS true jobs s j).length
    · have h6 := ord_sc c h4
      have h7 := sc_rng (ord := true) hJ (s := s) (k := j) (getD_mem_ _ _ 0 c)
      have h8 : wtL (outP true jobs s.all) j = (scS true jobs s j).getD (hasS s j) 0 := by rw [out_wt s j h3, if_pos c]
      have h9 : wtL (outP true jobs s.all) k < (scS true jobs s j).getD (hasS s j) 0 := h6
      cases n with
      | zero => omega
      | succ n => exact Gd.free g hJ Y hY n j h2 h3 (by omega)
    · rw [if_neg c] at h5
      omega
theorem playP_six (hJ : Six jobs) (hm : jobs.length ≤ 64) (picks : List Int) (hp : picks.length ≤ 20000) : playP 6 jobs ord picks = ((playsP 6 jobs ord picks).by_, outP ord jobs (playsP 6 jobs ord picks).all, (playsP 6 jobs ord picks).done, 0) := by
  have hr : rightP 6 jobs = true := by
    unfold rightP
    rw [List.all_eq_true]
    intro p hp
    obtain ⟨job, h1, h2⟩ := List.mem_flatten.1 hp
    obtain ⟨k, hk, rfl⟩ := List.getElem_of_mem h1
    have := hJ k p (by rw [List.getD_eq_getElem?_getD, List.getElem?_eq_getElem hk]; exact h2)
    refine decide_eq_true ?_
    unfold mn mx
    constructor <;> split <;> omega
  unfold playP
  rw [if_neg (by omega), if_neg (by omega), hr]
  rfl
theorem plays_gd (hJ : Six jobs) (picks : List Int) : Gd ord jobs (playsP 6 jobs ord picks) := Gd.plays hJ picks _ (Gd.start ord jobs)
end
/-! ### counting -/
theorem count_members (l : List Int) (n : Nat) (hn : l.Nodup) (hr : ∀ z ∈ l, 0 ≤ z ∧ z < (n : Int)) : l.length = ((List.range n).filter fun x : Nat => decide ((x : Int) ∈ l)).length := by
  have hp : l.Perm (castL ((List.range n).filter fun x : Nat => decide ((x : Int) ∈ l))) := by
    refine (List.perm_ext_iff_of_nodup hn ?_).2 fun a => ?_
    · unfold castL
      refine List.pairwise_map.2 ?_
      refine List.Pairwise.filter _ (List.Pairwise.imp (fun h => ?_) List.nodup_range)
      omega
    · unfold castL
      rw [List.mem_map]
      constructor
      · intro h
        have := hr a h
        exact ⟨a.toNat, List.mem_filter.2 ⟨List.mem_range.2 (by omega), decide_eq_true (by rw [show ((a.toNat : Nat) : Int) = a by omega]; exact h)⟩, by omega⟩
      · rintro ⟨x, h1, rfl⟩
        exact of_decide_eq_true (List.mem_filter.1 h1).2
  rw [hp.length_eq]
  exact List.length_map ..
theorem count_upto (b : Nat → Int) (m : Nat) (R : List Nat) : (R.filter fun x => decide (0 ≤ b x ∧ b x < ((m + 1 : Nat) : Int))).length = (R.filter fun x => decide (0 ≤ b x ∧ b x < (m : Int))).length + (R.filter fun x => decide (b x = (m : Int))).length := by
  induction R with
  | nil => rfl
  | cons x t ih =>
    simp only [List.filter_cons]
    by_cases c1 : b x = (m : Int)
    · rw [if_pos (decide_eq_true ⟨by omega, by omega⟩), if_neg (by simp; omega), if_pos (decide_eq_true c1)]
      simp only [List.length_cons]
      omega
    · by_cases c2 : 0 ≤ b x ∧ b x < (m : Int)
      · rw [if_pos (decide_eq_true ⟨by omega, by omega⟩), if_pos (decide_eq_true c2), if_neg (by simp; omega)]
        simp only [List.length_cons]
        omega
      · rw [if_neg (by simp; omega), if_neg (by simp; omega), if_neg (by simp; omega)]
        exact ih
def sumTo (h : Nat → Nat) : Nat → Nat
  | 0 => 0
  | m + 1 => sumTo h m + h m
theorem count_all (b : Nat → Int) (h : Nat → Nat) (R : List Nat) : ∀ m, (∀ k, k < m → h k = (R.filter fun x => decide (b x = (k : Int))).length) → sumTo h m = (R.filter fun x => decide (0 ≤ b x ∧ b x < (m : Int))).length
  | 0, _ => by
    have : R.filter (fun x => decide (0 ≤ b x ∧ b x < ((0 : Nat) : Int))) = [] := List.filter_eq_nil_iff.2 fun x _ => by simp
    rw [this]; rfl
  | m + 1, hh => by
    rw [count_upto, sumTo, count_all b h R m (fun k hk => hh k (by omega)), hh m (by omega)]
/-- As many are held as are had -/
theorem Gd.count {ord : Bool} {jobs : List (List Pr)} {s : PS} (g : Gd ord jobs s) (hJ : Six jobs) : sumTo (fun k => (held ord jobs s k).length) jobs.length = ((List.range 6).filter fun x => decide (s.by_.getD x 0 ≥ 0)).length := by
  rw [count_all (fun x => s.by_.getD x 0) _ (List.range 6) jobs.length (fun k hk => ?_)]
  · congr 1
    refine List.filter_congr fun x hx => decide_eq_decide.2 ?_
    rcases g.rng x (List.mem_range.1 hx) with h | ⟨k, hk, h⟩
    · rw [h]; omega
    · rw [h]; omega
  · rw [count_members _ 6 (held_nodup s k) (fun z hz => held_rng hJ hz)]
    congr 1
    exact List.filter_congr fun x hx => decide_eq_decide.2 (g.own x k (List.mem_range.1 hx) hk).symm
/-! ### who is stuck stays so -/
section
variable {ord : Bool} {jobs : List (List Pr)}
/-- What stays, of those who are stuck in s -/
structure Same (s t : PS) (Z : List Nat) : Prop where
  all : ∀ k ∈ Z, t.all.getD k (0, 0) = s.all.getD k (0, 0)
  done : ∃ e, t.done = s.done ++ e ∧ ∀ k ∈ Z, (k : Int) ∉ e
theorem Same.held {s t : PS} {Z : List Nat} (h : Same s t Z) {k : Nat} (hk : k ∈ Z) : Lk.held ord jobs t k = Lk.held ord jobs s k := by
  unfold Lk.held scS hasS
  rw [h.all k hk]
theorem Same.step {s t u : PS} {Z : List Nat} (h : Same s t Z) (hJ : Six jobs) (g : Gd ord jobs t) (hZ : ∀ k ∈ Z, k < jobs.length) (hP : PostL (outP ord jobs s.all) (fun k => k ∈ Z)) {p : Int} (hs : Step (ord := ord) (jobs := jobs) t p u) : Same s u Z := by
  cases hs with
  | same => exact h
  | took k x hp hk hh hx hx6 hb =>
    subst hp
    have hkZ : k ∉ Z := by
      intro hkz
      obtain ⟨h1, j, h2, h3, h4⟩ := hP k hkz
      rw [outP_length] at h3
      rw [out_hd s j h3, out_wt s k hk] at h4
      have e1 : scS ord jobs t k = scS ord jobs s k := by unfold scS; rw [h.all k hkz]
      have e2 : hasS t k = hasS s k := by unfold hasS; rw [h.all k hkz]
      rw [e1, e2] at hh hx
      rw [if_pos hh, hx] at h4
      rw [← h.held h2] at h4
      have := (g.own x j hx6 h3).2 h4
      omega
    refine ⟨fun j hj => ?_, h.done⟩
    have e : k ≠ j := fun e => hkZ (by rw [e]; exact hj)
    show (t.all.set k _).getD j (0, 0) = _
    rw [getD_set_ne _ _ _ _ _ e]
    exact h.all j hj
  | gave k hp hk h0 hh =>
    subst hp
    have hkZ : k ∉ Z := by
      intro hkz
      have h1 := (hP k hkz).1
      have e1 : scS ord jobs t k = scS ord jobs s k := by unfold scS; rw [h.all k hkz]
      have e2 : hasS t k = hasS s k := by unfold hasS; rw [h.all k hkz]
      rw [e1, e2] at hh
      rw [out_wt s k hk, if_neg hh] at h1
      omega
    obtain ⟨e, h1, h2⟩ := h.done
    refine ⟨fun j hj => ?_, e ++ [(k : Int)], by rw [h1, List.append_assoc], fun j hj hm => ?_⟩
    · have e : k ≠ j := fun e => hkZ (by rw [e]; exact hj)
      show (t.all.set k _).getD j (0, 0) = _
      rw [getD_set_ne _ _ _ _ _ e]
      exact h.all j hj
    · rcases List.mem_append.1 hm with hm | hm
      · exact h2 j hj hm
      · have := List.mem_singleton.1 hm
        exact hkZ (by rw [show k = j by omega]; exact hj)
theorem Same.plays {s : PS} {Z : List Nat} (hJ : Six jobs) (hZ : ∀ k ∈ Z, k < jobs.length) (hP : PostL (outP ord jobs s.all) (fun k => k ∈ Z)) : ∀ (picks : List Int) (t : PS), Gd ord jobs t → Same s t Z → Same s (picks.foldl (stepP ord jobs) t) Z
  | [], t, _, h => h
  | p :: r, t, g, h => Same.plays hJ hZ hP r _ (g.after hJ (g.step hJ p)) (h.step hJ g hZ hP (g.step hJ p))
theorem Same.refl (s : PS) (Z : List Nat) : Same s s Z := ⟨fun _ _ => rfl, [], by simp, fun _ _ h => by cases h⟩
theorem Same.post {s t : PS} {Z : List Nat} (h : Same s t Z) (hZ : ∀ k ∈ Z, k < jobs.length) (hP : PostL (outP ord jobs s.all) (fun k => k ∈ Z)) : PostL (outP ord jobs t.all) (fun k => k ∈ Z) := by
  intro k hk
  obtain ⟨h1, j, h2, h3, h4⟩ := hP k hk
  rw [outP_length] at h3
  have e : ∀ k ∈ Z, (outP ord jobs t.all).getD k ([], 0) = (outP ord jobs s.all).getD k ([], 0) := by
    intro k hk
    rw [outP_getD t k (hZ k hk), outP_getD s k (hZ k hk)]
    unfold Lk.held scS hasS
    rw [h.all k hk]
  refine ⟨?_, j, h2, by rw [outP_length]; exact h3, ?_⟩
  · unfold wtL at h1 ⊢; rw [e k hk]; exact h1
  · unfold wtL hdL at h4 ⊢; rw [e k hk, e j h2]; exact h4
end
/-! ### with ordered all get done -/
theorem sumTo_congr {f h : Nat → Nat} : ∀ m, (∀ j, j < m → f j = h j) → sumTo f m = sumTo h m
  | 0, _ => rfl
  | m + 1, e => by rw [sumTo, sumTo, sumTo_congr m (fun j hj => e j (by omega)), e m (by omega)]
theorem sumTo_update {f h : Nat → Nat} {k : Nat} : ∀ m, (∀ j, j < m → j ≠ k → f j = h j) → k < m → sumTo h m + f k = sumTo f m + h k
  | 0, _, hk => by omega
  | m + 1, e, hk => by
    rw [sumTo, sumTo]
    by_cases c : k = m
    · subst c
      rw [sumTo_congr (f := f) (h := h) k (fun j hj => e j (by omega) (by omega))]
      omega
    · have := sumTo_update m (fun j hj hne => e j (by omega) hne) (by omega)
      have := e m (by omega) (fun h => c h.symm)
      omega
theorem sumTo_le {f h : Nat → Nat} : ∀ m, (∀ j, j < m → f j ≤ h j) → sumTo f m ≤ sumTo h m
  | 0, _ => Nat.le_refl _
  | m + 1, e => by
    have h1 := sumTo_le m (fun j hj => e j (by omega))
    have h2 := e m (by omega)
    rw [sumTo, sumTo]
    omega
theorem sumTo_mul (f : Nat → Nat) : ∀ m, sumTo (fun k => 3 * f k) m = 3 * sumTo f m
  | 0 => rfl
  | m + 1 => by rw [sumTo, sumTo, sumTo_mul f m]; omega
def progS (s : PS) (k : Nat) : Nat := 3 * atS s k + hasS s k
def potS (jobs : List (List Pr)) (s : PS) : Nat := sumTo (progS s) jobs.length
def manyS (jobs : List (List Pr)) : Nat := sumTo (fun k => (jobs.getD k []).length) jobs.length
section
variable {ord : Bool} {jobs : List (List Pr)}
theorem Gd.prog_le {s : PS} (g : Gd ord jobs s) (k : Nat) (hk : k < jobs.length) : progS s k ≤ 3 * (jobs.getD k []).length := by
  have h1 := g.atle k hk
  have h2 := g.hasle k hk
  have h3 : (scS ord jobs s k).length ≤ 2 := secAt_length _ _ _
  unfold progS
  by_cases c : atS s k < (jobs.getD k []).length
  · omega
  · have h4 : (scS ord jobs s k).length = 0 := by
      unfold scS
      rw [secAt_none (show ¬ (s.all.getD k (0, 0)).1 < _ from c)]; rfl
    omega
theorem Gd.pot_le {s : PS} (g : Gd ord jobs s) : potS jobs s ≤ 3 * manyS jobs := by
  unfold potS manyS
  rw [← sumTo_mul]
  exact sumTo_le _ fun k hk => g.prog_le k hk
theorem stepP_took {s : PS} (g : Gd ord jobs s) {k x : Nat} (hk : k < jobs.length) (hh : hasS s k < (scS ord jobs s k).length) (hx : (scS ord jobs s k).getD (hasS s k) 0 = (x : Int)) (hx6 : x < 6) (hb : s.by_.getD x 0 < 0) :
    stepP ord jobs s (k : Int) = ⟨s.by_.set x (k : Int), s.all.set k (atS s k, hasS s k + 1), s.done⟩ := by
  unfold stepP
  rw [if_neg (by omega)]
  dsimp only
  rw [Int.toNat_natCast]
  rw [if_neg (show ¬ (secAt ord (jobs.getD k []) (s.all.getD k (0, 0)).1).length = 0 from by unfold scS at hh; omega), if_pos (show (s.all.getD k (0, 0)).2 < (secAt ord (jobs.getD k []) (s.all.getD k (0, 0)).1).length from hh)]
  rw [show (secAt ord (jobs.getD k []) (s.all.getD k (0, 0)).1).getD (s.all.getD k (0, 0)).2 0 = (x : Int) from hx]
  unfold takeP
  rw [if_neg (show ¬ ((x : Int) < 0 ∨ (x : Int) ≥ (s.by_.length : Int) ∨ (k : Int) < 0) by have := g.by6; omega), Int.toNat_natCast, if_neg (show ¬ s.by_.getD x 0 = (k : Int) by omega), if_neg (show ¬ s.by_.getD x 0 ≥ 0 by omega)]
  simp only [if_true]
  rfl
theorem stepP_gave {s : PS} {k : Nat} (hk : k < jobs.length) (h0 : 0 < (scS ord jobs s k).length) (hh : ¬ hasS s k < (scS ord jobs s k).length) :
    stepP ord jobs s (k : Int) = ⟨(scS ord jobs s k).foldl (fun b x => (giveP b x (k : Int)).1) s.by_, s.all.set k (atS s k + 1, 0), s.done ++ [(k : Int)]⟩ := by
  unfold stepP
  rw [if_neg (by omega)]
  dsimp only
  rw [Int.toNat_natCast, if_neg (show ¬ (secAt ord (jobs.getD k []) (s.all.getD k (0, 0)).1).length = 0 from by unfold scS at h0; omega), if_neg (show ¬ (s.all.getD k (0, 0)).2 < (secAt ord (jobs.getD k []) (s.all.getD k (0, 0)).1).length from hh)]
  rfl
/-- What the pick of one does to the reckoning -/
theorem Gd.pot_step {s t : PS} (g : Gd ord jobs s) {p : Int} (h : Step (ord := ord) (jobs := jobs) s p t) : t = s ∨ potS jobs s + 1 ≤ potS jobs t := by
  cases h with
  | same => exact Or.inl rfl
  | took k x hp hk hh hx hx6 hb =>
    right
    have hka : k < s.all.length := by rw [g.all]; exact hk
    have := sumTo_update (f := progS s) (h := progS ⟨s.by_.set x p, s.all.set k (atS s k, hasS s k + 1), s.done⟩) (k := k) jobs.length (fun j hj hne => by
      unfold progS atS hasS
      simp only [getD_set_ne _ _ _ _ _ (Ne.symm hne)]) hk
    have e : progS ⟨s.by_.set x p, s.all.set k (atS s k, hasS s k + 1), s.done⟩ k = progS s k + 1 := by
      show 3 * ((s.all.set k (atS s k, hasS s k + 1)).getD k (0, 0)).1 + ((s.all.set k (atS s k, hasS s k + 1)).getD k (0, 0)).2 = _
      rw [getD_set_eq _ _ _ _ hka]
      rfl
    unfold potS
    omega
  | gave k hp hk h0 hh =>
    right
    have hka : k < s.all.length := by rw [g.all]; exact hk
    have h3 : (scS ord jobs s k).length ≤ 2 := secAt_length _ _ _
    have h4 := g.hasle k hk
    have := sumTo_update (f := progS s) (h := progS ⟨(scS ord jobs s k).foldl (fun b x => (giveP b x p).1) s.by_, s.all.set k (atS s k + 1, 0), s.done ++ [p]⟩) (k := k) jobs.length (fun j hj hne => by
      unfold progS atS hasS
      simp only [getD_set_ne _ _ _ _ _ (Ne.symm hne)]) hk
    have e : progS ⟨(scS ord jobs s k).foldl (fun b x => (giveP b x p).1) s.by_, s.all.set k (atS s k + 1, 0), s.done ++ [p]⟩ k = 3 * (atS s k + 1) + 0 := by
      show 3 * ((s.all.set k (atS s k + 1, 0)).getD k (0, 0)).1 + ((s.all.set k (atS s k + 1, 0)).getD k (0, 0)).2 = _
      rw [getD_set_eq _ _ _ _ hka]
    have e2 : progS s k = 3 * atS s k + hasS s k := rfl
    unfold potS
    omega
theorem Gd.pot_fold (hJ : Six jobs) : ∀ (L : List Int) (s : PS), Gd ord jobs s → (L.foldl (stepP ord jobs) s = s ∧ ∀ p ∈ L, stepP ord jobs s p = s) ∨ potS jobs s + 1 ≤ potS jobs (L.foldl (stepP ord jobs) s)
  | [], s, g => Or.inl ⟨rfl, fun p hp => by cases hp⟩
  | p :: t, s, g => by
    rw [List.foldl_cons]
    rcases g.pot_step (g.step hJ p) with h | h
    · rw [h]
      rcases Gd.pot_fold hJ t s g with ⟨h1, h2⟩ | h1
      · exact Or.inl ⟨h1, fun q hq => (List.mem_cons.1 hq).elim (fun e => by rw [e]; exact h) (h2 q)⟩
      · exact Or.inr h1
    · right
      rcases Gd.pot_fold hJ t _ (g.after hJ (g.step hJ p)) with ⟨h1, _⟩ | h1
      · rw [h1]; exact h
      · omega
def finS (jobs : List (List Pr)) (s : PS) : Prop := ∀ k, k < jobs.length → ¬ atS s k < (jobs.getD k []).length
/-- Somebody can go on, as long as not all are done -/
theorem Gd.ready {s : PS} (g : Gd true jobs s) (hJ : Six jobs) (hn : ¬ finS jobs s) : ∃ k, k < jobs.length ∧ stepP true jobs s (k : Int) ≠ s := by
  apply Classical.byContradiction
  intro hall
  have hstay : ∀ k, k < jobs.length → stepP true jobs s (k : Int) = s := fun k hk => Classical.byContradiction fun h => hall ⟨k, hk, h⟩
  have hblock : ∀ k, k < jobs.length → atS s k < (jobs.getD k []).length → hasS s k < (scS true jobs s k).length ∧ ∃ x : Nat, x < 6 ∧ (scS true jobs s k).getD (hasS s k) 0 = (x : Int) ∧ ¬ s.by_.getD x 0 < 0 := by
    intro k hk ha
    have hka : k < s.all.length := by rw [g.all]; exact hk
    have h0 : 0 < (scS true jobs s k).length := secAt_pos ha
    by_cases hh : hasS s k < (scS true jobs s k).length
    · have hr := sc_rng (ord := true) hJ (s := s) (k := k) (getD_mem_ _ _ 0 hh)
      obtain ⟨x, hx⟩ : ∃ x : Nat, (scS true jobs s k).getD (hasS s k) 0 = (x : Int) := ⟨_, (Int.toNat_of_nonneg hr.1).symm⟩
      rw [hx] at hr
      refine ⟨hh, x, by omega, hx, fun hb => ?_⟩
      have h1 := stepP_took g hk hh hx (by omega) hb
      rw [hstay k hk] at h1
      have h2 := congrArg (fun t => hasS t k) h1
      have h3 : hasS ⟨s.by_.set x (k : Int), s.all.set k (atS s k, hasS s k + 1), s.done⟩ k = hasS s k + 1 := by
        show ((s.all.set k (atS s k, hasS s k + 1)).getD k (0, 0)).2 = _
        rw [getD_set_eq _ _ _ _ hka]
      rw [h3] at h2
      omega
    · exfalso
      have h1 := stepP_gave hk h0 hh
      rw [hstay k hk] at h1
      have h2 := congrArg (fun t => t.done.length) h1
      simp at h2
  apply hn
  intro k hk ha
  refine g.free hJ (fun k => k < jobs.length ∧ atS s k < (jobs.getD k []).length) (fun k hk => ?_) 6 k ⟨hk, ha⟩ hk ?_
  · obtain ⟨h1, x, h2, h3, h4⟩ := hblock k hk.1 hk.2
    rw [out_wt s k hk.1, if_pos h1, h3]
    refine ⟨by omega, ?_⟩
    rcases g.rng x h2 with h5 | ⟨j, hj, h5⟩
    · omega
    · have h6 := (g.own x j h2 hj).1 h5
      refine ⟨j, ⟨hj, ?_⟩, by rw [outP_length]; exact hj, by rw [out_hd s j hj]; exact h6⟩
      refine sc_lt (ord := true) ?_
      have := List.length_pos_of_mem (List.mem_of_mem_take h6)
      exact this
  · obtain ⟨h1, x, h2, h3, h4⟩ := hblock k hk ha
    rw [out_wt s k hk, if_pos h1, h3]
    omega
def roundL (m : Nat) : List Int := (List.range m).map fun (k : Nat) => (k : Int)
def roundsL (m : Nat) : Nat → List Int
  | 0 => []
  | r + 1 => roundsL m r ++ roundL m
theorem fin_stays {s : PS} (h : finS jobs s) (p : Int) : stepP ord jobs s p = s := by
  unfold stepP
  by_cases c : p < 0 ∨ p ≥ jobs.length
  · rw [if_pos c]
  · rw [if_neg c]
    dsimp only
    have : (secAt ord (jobs.getD p.toNat []) (s.all.getD p.toNat (0, 0)).1).length = 0 := by
      rw [secAt_none (show ¬ (s.all.getD p.toNat (0, 0)).1 < _ from h p.toNat (by omega))]; rfl
    rw [if_pos this]
theorem fin_folds {s : PS} (h : finS jobs s) : ∀ L : List Int, L.foldl (stepP ord jobs) s = s
  | [] => rfl
  | p :: t => by rw [List.foldl_cons, fin_stays h p]; exact fin_folds h t
theorem Gd.rounds (hJ : Six jobs) {s : PS} (g : Gd true jobs s) : ∀ r, finS jobs ((roundsL jobs.length r).foldl (stepP true jobs) s) ∨ potS jobs s + r ≤ potS jobs ((roundsL jobs.length r).foldl (stepP true jobs) s)
  | 0 => Or.inr (Nat.le_refl _)
  | r + 1 => by
    have g2 : Gd true jobs ((roundsL jobs.length r).foldl (stepP true jobs) s) := Gd.plays hJ _ s g
    rw [roundsL, List.foldl_append]
    rcases Gd.rounds hJ g r with h | h
    · left
      rw [fin_folds h]
      exact h
    · generalize (roundsL jobs.length r).foldl (stepP true jobs) s = t at g2 h ⊢
      by_cases hf : finS jobs t
      · left
        rw [fin_folds hf]
        exact hf
      · right
        rcases g2.pot_fold hJ (roundL jobs.length) with ⟨_, h2⟩ | h2
        · obtain ⟨k, hk, hne⟩ := g2.ready hJ hf
          exact absurd (h2 _ (List.mem_map.2 ⟨k, List.mem_range.2 hk, rfl⟩)) hne
        · omega
theorem Gd.ends (hJ : Six jobs) {s : PS} (g : Gd true jobs s) : finS jobs ((roundsL jobs.length (3 * manyS jobs)).foldl (stepP true jobs) s) := by
  apply Classical.byContradiction
  intro hn
  have g2 : Gd true jobs ((roundsL jobs.length (3 * manyS jobs)).foldl (stepP true jobs) s) := Gd.plays hJ _ s g
  have h1 := (g.rounds hJ (3 * manyS jobs)).resolve_left hn
  rcases g2.pot_fold hJ (roundL jobs.length) with ⟨_, h2⟩ | h2
  · obtain ⟨k, hk, hne⟩ := g2.ready hJ hn
    exact hne (h2 _ (List.mem_map.2 ⟨k, List.mem_range.2 hk, rfl⟩))
  · have g3 : Gd true jobs ((roundL jobs.length).foldl (stepP true jobs) ((roundsL jobs.length (3 * manyS jobs)).foldl (stepP true jobs) s)) := Gd.plays hJ _ _ g2
    have := g3.pot_le
    omega
/-- What was done is told as often as it was -/
structure Dn (jobs : List (List Pr)) (s : PS) : Prop where
  cnt : ∀ k : Nat, k < jobs.length → s.done.count (k : Int) = atS s k
  len : s.done.length = sumTo (atS s) jobs.length
theorem Dn.step {s t : PS} (d : Dn jobs s) (g : Gd ord jobs s) {p : Int} (h : Step (ord := ord) (jobs := jobs) s p t) : Dn jobs t := by
  cases h with
  | same => exact d
  | took k x hp hk hh hx hx6 hb =>
    have hka : k < s.all.length := by rw [g.all]; exact hk
    have e : ∀ j, atS ⟨s.by_.set x p, s.all.set k (atS s k, hasS s k + 1), s.done⟩ j = atS s j := by
      intro j
      show ((s.all.set k (atS s k, hasS s k + 1)).getD j (0, 0)).1 = _
      by_cases c : k = j
      · subst c; rw [getD_set_eq _ _ _ _ hka]
      · rw [getD_set_ne _ _ _ _ _ c]; rfl
    exact ⟨fun j hj => by rw [e]; exact d.cnt j hj, by rw [sumTo_congr _ (fun j _ => e j)]; exact d.len⟩
  | gave k hp hk h0 hh =>
    have hka : k < s.all.length := by rw [g.all]; exact hk
    have e1 : ∀ b, atS ⟨b, s.all.set k (atS s k + 1, 0), s.done ++ [p]⟩ k = atS s k + 1 := by
      intro b
      show ((s.all.set k (atS s k + 1, 0)).getD k (0, 0)).1 = _
      rw [getD_set_eq _ _ _ _ hka]
    have e2 : ∀ b j, k ≠ j → atS ⟨b, s.all.set k (atS s k + 1, 0), s.done ++ [p]⟩ j = atS s j := by
      intro b j c
      show ((s.all.set k (atS s k + 1, 0)).getD j (0, 0)).1 = _
      rw [getD_set_ne _ _ _ _ _ c]; rfl
    refine ⟨fun j hj => ?_, ?_⟩
    · show (s.done ++ [p]).count (j : Int) = _
      rw [List.count_append, d.cnt j hj]
      by_cases c : k = j
      · subst c
        rw [e1, hp]
        simp
      · rw [e2 _ j c, List.count_cons, List.count_nil]
        have : (p == (j : Int)) = false := by rw [hp]; simp; omega
        simp [this]
    · show (s.done ++ [p]).length = _
      have := sumTo_update (f := atS s) (h := atS ⟨(scS ord jobs s k).foldl (fun b x => (giveP b x p).1) s.by_, s.all.set k (atS s k + 1, 0), s.done ++ [p]⟩) (k := k) jobs.length (fun j hj hne => (e2 _ j (Ne.symm hne)).symm) hk
      rw [e1] at this
      have := d.len
      rw [List.length_append, List.length_singleton]
      omega
theorem Dn.plays (hJ : Six jobs) : ∀ (L : List Int) (s : PS), Gd ord jobs s → Dn jobs s → Dn jobs (L.foldl (stepP ord jobs) s)
  | [], s, _, d => d
  | p :: t, s, g, d => Dn.plays hJ t _ (g.after hJ (g.step hJ p)) (d.step g (g.step hJ p))
theorem Dn.start (jobs : List (List Pr)) : Dn jobs (startP 6 jobs.length) := by
  have h0 : ∀ k, atS (startP 6 jobs.length) k = 0 := by
    intro k
    unfold atS
    simp only [startP, List.getD_eq_getElem?_getD, List.getElem?_replicate]
    split <;> rfl
  refine ⟨fun k _ => by rw [h0]; rfl, ?_⟩
  rw [sumTo_congr _ (fun j _ => h0 j)]
  show 0 = _
  have : ∀ m, sumTo (fun _ => 0) m = 0 := fun m => by
    induction m with
    | zero => rfl
    | succ m ih => rw [sumTo, ih]
  rw [this]
theorem Gd.fin_by {s : PS} (g : Gd ord jobs s) (hf : finS jobs s) (x : Nat) (hx : x < 6) : s.by_.getD x 0 = -1 := by
  rcases g.rng x hx with h | ⟨k, hk, h⟩
  · exact h
  · exfalso
    have h1 := (g.own x k hx hk).1 h
    unfold held scS at h1
    rw [secAt_none (show ¬ (s.all.getD k (0, 0)).1 < _ from hf k hk)] at h1
    simp at h1
theorem Gd.fin_at {s : PS} (g : Gd ord jobs s) (hf : finS jobs s) (k : Nat) (hk : k < jobs.length) : atS s k = (jobs.getD k []).length := by
  have := g.atle k hk
  have := hf k hk
  omega
end
end Go.Proofs.Ytiidjnnagbfokaa.Lk
