/- Parts of the proof, joined: Tm6, WEqStruct. -/
import Derived.Test.YtnkhnnojdlgfjaaDoorUF7
import Derived.Test.YtnkhnnojdlgfjaaDoorUF1
import Derived.Laws.StructEq
section
namespace Go.Proofs.YtnkhnnojdlgfjaaDoor.Tm
open Go.RowKit Go Go.Proofs Go.Proofs.YtnkhnnojdlgfjaaDoor Go.Proofs.YtnkhnnojdlgfjaaDoor.Tr Go.Proofs.YtnkhnnojdlgfjaaDoorW.PrintWords Go.Proofs.YtnkhnnojdlgfjaaDoorW.PrintLast Go.Proofs.YtnkhnnojdlgfjaaDoorW.PrintMore
set_option linter.unusedVariables false
set_option linter.unusedSimpArgs false
theorem Lay.uniq {t : St} : ∀ {a b : T} {u v : Option Int}, Lay t a u → Lay t b v → a.rt = b.rt → a = b
  | .E, .E, _, _, _, _, _ => rfl
  | .E, .B c l x r, _, _, _, _, e => by
    have e : (-1 : Int) = (x : Int) := e
    omega
  | .B c l x r, .E, _, _, _, _, e => by
    have e : (x : Int) = (-1 : Int) := e
    omega
  | .B c l x r, .B c' l' x' r', _, _, ⟨h1, h2, h3, h4, h5, h6, h7, h8⟩, ⟨k1, k2, k3, k4, k5, k6, k7, k8⟩, e => by
    have e : (x : Int) = (x' : Int) := e
    have e2 : x = x' := by omega
    subst e2
    rw [Lay.uniq h7 k7 (h4.symm.trans k4), Lay.uniq h8 k8 (h5.symm.trans k5), ← h3, ← k3]
def setM (M : Nat → Bool) (x : Nat) : Nat → Bool := fun z => decide (z = x) || M z
def unM (M : Nat → Bool) (l : List Nat) : Nat → Bool := fun z => decide (z ∈ l) || M z
def iz (l : List Nat) : List Int := l.map fun z : Nat => (z : Int)
def Found (t : St) (x u : Int) (M : Nat → Bool) : Prop := ∃ a, Lay t a (some u) ∧ a.rt = x ∧ a.ids.Nodup ∧ ∀ z ∈ a.ids, M z = false
structure WRes (t : St) (x u : Int) (M : Nat → Bool) (L : List Int) (r : Bool) (M' : Nat → Bool) (L' : List Int) : Prop where
  yes : r = true → ∃ a, Lay t a (some u) ∧ a.rt = x ∧ a.ids.Nodup ∧ (∀ z ∈ a.ids, M z = false) ∧ L' = L ++ iz a.ids ∧ M' = unM M a.ids
  no : r = false → ¬ Found t x u M
theorem WRes.nil (t : St) (u : Int) (M : Nat → Bool) (L : List Int) : WRes t (-1) u M L true M L :=
  ⟨fun _ => ⟨.E, trivial, rfl, List.nodup_nil, (fun z hz => by cases hz), by simp [iz, T.ids], by funext z; simp [unM, T.ids]⟩, fun h => by cases h⟩
theorem found_B {t : St} {x u : Int} {M : Nat → Bool} (h : Found t x u M) (hx : x ≠ -1) : ∃ c l r, 0 ≤ x ∧ Lay t (.B c l x.toNat r) (some u) ∧ (T.B c l x.toNat r).ids.Nodup ∧ (∀ z ∈ (T.B c l x.toNat r).ids, M z = false) := by
  obtain ⟨a, h1, h2, h3, h4⟩ := h
  cases a with
  | E => exact absurd h2.symm hx
  | B c l y r =>
    have e : (y : Int) = x := h2
    have e2 : x.toNat = y := by omega
    subst e2
    exact ⟨c, l, r, by omega, h1, h3, h4⟩
theorem WRes.off {t : St} {x u : Int} {M : Nat → Bool} {L : List Int} (hx : x ≠ -1) (h : x < 0 ∨ (t.ns.length : Int) ≤ x ∨ M x.toNat = true ∨ (gn t x.toNat).inn = false ∨ upA t x ≠ u) : WRes t x u M L false M L := by
  refine ⟨(fun h => by cases h), fun _ hf => ?_⟩
  obtain ⟨c, l, r, h0, ⟨h1, h2, h3, h4, h5, h6, h7, h8⟩, n1, n2⟩ := found_B hf hx
  have hm := n2 x.toNat (by simp [T.ids])
  have hu := h6 u rfl
  rcases h with h | h | h | h | h
  · omega
  · omega
  · rw [hm] at h; cases h
  · rw [h2] at h; cases h
  · exact h hu
theorem WRes.noL {t : St} {x u : Int} {M M1 : Nat → Bool} {L L1 : List Int} (hx : x ≠ -1) (h : WRes t (kidA t x false) x (setM M x.toNat) L false M1 L1) : WRes t x u M L false M1 L1 := by
  refine ⟨(fun h => by cases h), fun _ hf => h.no rfl ?_⟩
  obtain ⟨c, l, r, h0, ⟨h1, h2, h3, h4, h5, h6, h7, h8⟩, n1, n2⟩ := found_B hf hx
  have n3 : (l.ids ++ x.toNat :: r.ids).Nodup := n1
  obtain ⟨m1, m2, m3⟩ := List.nodup_append.1 n3
  refine ⟨l, by rw [show ((x.toNat : Nat) : Int) = x by omega] at h7; exact h7, h4.symm, m1, fun z hz => ?_⟩
  have := n2 z (by simp [T.ids, hz])
  have hne : z ≠ x.toNat := fun e => m3 z hz x.toNat List.mem_cons_self e
  simp [setM, this, hne]
theorem WRes.both {t : St} {x u : Int} {M M1 M2 : Nat → Bool} {L L1 L2 : List Int} {r : Bool} (h0 : 0 ≤ x) (hx : x < t.ns.length) (hm : M x.toNat = false) (hin : (gn t x.toNat).inn = true) (hu : upA t x = u)
    (h : WRes t (kidA t x false) x (setM M x.toNat) L true M1 L1) (k : WRes t (kidA t x true) x M1 (L1 ++ [x]) r M2 L2) : WRes t x u M L r M2 L2 := by
  obtain ⟨l, l1, l2, l3, l4, l5, l6⟩ := h.yes rfl
  have hxx : ((x.toNat : Nat) : Int) = x := by omega
  have hxl : x.toNat ∉ l.ids := fun e => by
    have := l4 _ e
    simp [setM] at this
  refine ⟨fun hr => ?_, fun hr hf => k.no hr ?_⟩
  · obtain ⟨q, q1, q2, q3, q4, q5, q6⟩ := k.yes hr
    have hql : ∀ z ∈ q.ids, z ∉ l.ids ∧ z ≠ x.toNat ∧ M z = false := fun z hz => by
      have := q4 z hz
      rw [l6] at this
      simpa [unM, setM] using this
    refine ⟨.B (gn t x.toNat).red l x.toNat q, ⟨by omega, hin, rfl, l2.symm, q2.symm, fun p hp => by rw [← Option.some.inj hp]; exact hu, by rw [hxx]; exact l1, by rw [hxx]; exact q1⟩, hxx, ?_, fun z hz => ?_, ?_, ?_⟩
    · show (l.ids ++ x.toNat :: q.ids).Nodup
      refine List.nodup_append.2 ⟨l3, List.nodup_cons.2 ⟨fun e => (hql _ e).2.1 rfl, q3⟩, fun a ha z hz e => ?_⟩
      subst e
      rcases List.mem_cons.1 hz with h | h
      · subst h; exact hxl ha
      · exact (hql _ h).1 ha
    · have hz : z ∈ l.ids ++ x.toNat :: q.ids := hz
      rcases List.mem_append.1 hz with h | h
      · have := l4 z h
        simp [setM] at this
        exact this.2
      · rcases List.mem_cons.1 h with rfl | h
        · exact hm
        · exact (hql z h).2.2
    · rw [q5, l5]
      show _ = L ++ iz (l.ids ++ x.toNat :: q.ids)
      simp only [iz, List.map_append, List.map_cons, hxx, List.append_assoc, List.cons_append, List.nil_append]
    · rw [q6, l6]
      funext z
      show _ = (decide (z ∈ l.ids ++ x.toNat :: q.ids) || M z)
      simp only [unM, setM, List.mem_append, List.mem_cons]
      by_cases a1 : z ∈ q.ids <;> by_cases a2 : z ∈ l.ids <;> by_cases a3 : z = x.toNat <;> simp [a1, a2, a3]
  · obtain ⟨c, l', q, _, ⟨h1, h2, h3, h4, h5, h6, h7, h8⟩, n1, n2⟩ := found_B hf (by omega)
    have n3 : (l'.ids ++ x.toNat :: q.ids).Nodup := n1
    obtain ⟨m1, m2, m3⟩ := List.nodup_append.1 n3
    have el : l' = l := Lay.uniq h7 l1 (h4.symm.trans l2.symm)
    subst el
    rw [hxx] at h8
    refine ⟨q, h8, h5.symm, (List.nodup_cons.1 m2).2, fun z hz => ?_⟩
    have a1 : z ∉ l'.ids := fun e => m3 z e z (List.mem_cons_of_mem _ hz) rfl
    have a2 : z ≠ x.toNat := fun e => by subst e; exact (List.nodup_cons.1 m2).1 hz
    have a3 := n2 z (by simp [T.ids, hz])
    rw [l6]
    simp [unM, setM, a1, a2, a3]
def cntM (M : Nat → Bool) (n : Nat) : Nat := ((List.range n).filter fun z => !M z).length
theorem cnt_set {M : Nat → Bool} {n x : Nat} (hx : x < n) (hm : M x = false) : cntM (setM M x) n + 1 = cntM M n := by
  unfold cntM
  induction n with
  | zero => omega
  | succ n ih =>
    rw [List.range_succ, List.filter_append, List.filter_append, List.length_append, List.length_append]
    by_cases e : x = n
    · subst e
      have h1 : ((List.range x).filter fun z => !setM M x z) = (List.range x).filter fun z => !M z := by
        refine List.filter_congr (fun z hz => ?_)
        have : z ≠ x := by have := List.mem_range.1 hz; omega
        simp [setM, this]
      rw [h1]
      simp [List.filter, setM, hm]
    · have h2 := ih (by omega)
      have h3 : ([n].filter fun z => !setM M x z).length = ([n].filter fun z => !M z).length := by
        have : n ≠ x := fun h => e h.symm
        simp [List.filter, setM, this]
      omega
theorem infoI : (Tryd.prog.info? 3).map (fun i => (i.zero, i.size, i.bytes)) = some (some (.int .i64 0), 1, 8) := by kernel_rfl
structure Ws (w0 W : World) (m o n : Nat) (M : Nat → Bool) (L : List Int) : Prop where mk ::
  below : Below w0.heap.size w0 W
  met : ∃ cs : Array Value, W.heap[m]? = some (.cells cs 4 (0, 0)) ∧ ∀ j, j < n → cs[j]? = some (.bool (M j))
  box : ∃ v, W.heap[o]? = some (.cells #[v] 26 (0, 0)) ∧ (Kd.int .i64).R 3 W w0.heap.size (fun k => k ≠ m ∧ k ≠ o) v L
  hm : w0.heap.size ≤ m
  ho : w0.heap.size ≤ o
  ne : m ≠ o
section
variable {w0 W W1 : World} {m o n : Nat} {M : Nat → Bool} {L : List Int}
theorem Ws.ltm (h : Ws w0 W m o n M L) : m < W.heap.size := by
  obtain ⟨cs, h1, _⟩ := h.met
  exact (Array.getElem?_eq_some_iff.1 h1).1
theorem Ws.lto (h : Ws w0 W m o n M L) : o < W.heap.size := by
  obtain ⟨v, h1, _⟩ := h.box
  exact (Array.getElem?_eq_some_iff.1 h1).1
theorem Ws.metc (h : Ws w0 W m o n M L) (j : Nat) (hj : j < n) : W.cell? ⟨m, j, none⟩ = some (.bool (M j)) := by
  obtain ⟨cs, h1, h2⟩ := h.met
  rw [blk_cell h1]; exact h2 j hj
theorem Ws.metf (h : Ws w0 W m o n M L) (j : Nat) : W.frozen? ⟨m, j, none⟩ = false := by
  obtain ⟨cs, h1, h2⟩ := h.met
  exact blk_frozen h1 j
theorem Ws.step (h : Ws w0 W m o n M L) (hb : Below W.heap.size W W1) : Ws w0 W1 m o n M L := by
  obtain ⟨cs, h1, h2⟩ := h.met
  obtain ⟨v, h3, h4⟩ := h.box
  exact ⟨below_step h.below hb, ⟨cs, (hb.block m h.ltm).trans h1, h2⟩, ⟨v, (hb.block o h.lto).trans h3, Kd.R_below h4 hb⟩, h.hm, h.ho, h.ne⟩
theorem Ws.setMet (h : Ws w0 W m o n M L) (x : Nat) (hx : x < n) : Ws w0 (W.setCell ⟨m, x, none⟩ (.bool true)) m o n (setM M x) L := by
  obtain ⟨cs, h1, h2⟩ := h.met
  obtain ⟨v, h3, h4⟩ := h.box
  have hs : x < cs.size := (Array.getElem?_eq_some_iff.1 (h2 x hx)).1
  refine ⟨Below.setCell h.below (p := ⟨m, x, none⟩) h.hm _, ⟨_, blk_set h1 x _, fun j hj => ?_⟩, ⟨v, ?_, Kd.R_step h4 (fun k hk _ => Below.heap_setCell _ _ _ _ (by simpa using hk.1))⟩, h.hm, h.ho, h.ne⟩
  · rw [Array.getElem?_setIfInBounds]
    by_cases e : x = j
    · subst e
      rw [if_pos rfl, if_pos hs]
      simp [setM]
    · have e2 : j ≠ x := fun h => e h.symm
      rw [if_neg e, h2 j hj]
      simp [setM, e2]
  · rw [Below.heap_setCell _ _ _ _ (by simpa using fun e : o = m => h.ne e.symm)]
    exact h3
end
theorem Ws.same {w0 W W1 : World} {m o n : Nat} {M : Nat → Bool} {L : List Int} (h : Ws w0 W m o n M L) {v : Value} (hv : W.heap[o]? = some (.cells #[v] 26 (0, 0))) (hR : (Kd.int .i64).R 3 W w0.heap.size (fun k => k ≠ m ∧ k ≠ o) v L) (hg : W.grownBy W1 v.ownBlock) : W1.heap[m]? = W.heap[m]? ∧ W1.heap[o]? = W.heap[o]? :=
  ⟨hg.block m h.ltm (fun e => (hR.1 m e.symm).1 rfl), hg.block o h.lto (fun e => (hR.1 o e.symm).2 rfl)⟩
theorem Ws.appended {w0 W W1 : World} {m o n : Nat} {M : Nat → Bool} {L L1 : List Int} (h : Ws w0 W m o n M L) {v v1 : Value} (hv : W.heap[o]? = some (.cells #[v] 26 (0, 0))) (hR : (Kd.int .i64).R 3 W w0.heap.size (fun k => k ≠ m ∧ k ≠ o) v L) (hg : W.grownBy W1 v.ownBlock) (hb : Below w0.heap.size w0 W1) (hR1 : (Kd.int .i64).R 3 W1 w0.heap.size (fun k => k ≠ m ∧ k ≠ o) v1 L1) : Ws w0 (W1.setCell ⟨o, 0, none⟩ v1) m o n M L1 := by
  obtain ⟨e1, e2⟩ := h.same hv hR hg
  obtain ⟨cs, h1, h2⟩ := h.met
  refine ⟨Below.setCell hb (p := ⟨o, 0, none⟩) h.ho _, ⟨cs, ?_, h2⟩, ⟨v1, blk_set (e2.trans hv) 0 v1, Kd.R_step hR1 (fun k hk _ => Below.heap_setCell _ _ _ _ (by simpa using hk.2))⟩, h.hm, h.ho, h.ne⟩
  rw [Below.heap_setCell _ _ _ _ (by simpa using h.ne)]
  exact e1.trans h1
structure WPost (w0 : World) (t : St) (m o : Nat) (M : Nat → Bool) (L : List Int) (x u : Int) (e : Ending) (w' : World) : Prop where mk ::
  out : ∃ r M' L', e = .returned (.bool r) ∧ Ws w0 w' m o t.ns.length M' L' ∧ L'.length + cntM M' t.ns.length ≤ L.length + cntM M t.ns.length ∧ cntM M' t.ns.length ≤ cntM M t.ns.length ∧ WRes t x u M L r M' L'
section
variable {A : Option Addr} {c : Nat} {w0 : World} {g b : Nat} {t : St}
theorem Wk.at0 {W : World} (h : Wk A c w0 g b t) (hb : Below w0.heap.size w0 W) : Wk A c W g b t := h.below hb
set_option maxHeartbeats 16000000 in
set_option maxRecDepth 100000 in
theorem walk_ (m o cm : Nat) (h : Wk A c w0 g b t) : ∀ (k : Nat) (W : World) (M : Nat → Bool) (L : List Int) (x u : Int), cntM M t.ns.length < k → Ws w0 W m o t.ns.length M L → L.length + cntM M t.ns.length ≤ t.ns.length →
    Calls Tryd.prog 90 #[.pointer (some ⟨g, 0, none⟩), .int .i64 x, .int .i64 u, .slice (some ⟨m, 0, none⟩) t.ns.length cm, .pointer (some ⟨o, 0, none⟩)] W fun e w' => WPost w0 t m o M L x u e w' := by
  have H := Aside0.mk h
  clear h
  intro k
  induction k with
  | zero => intro W M L x u h; omega
  | succ k ih =>
    intro W M L x u hk hS hcl
    have IH := Aside0.mk ih
    have HS := Aside0.mk hS
    have HK := Aside0.mk hk
    have HCL := Aside0.mk hcl
    clear ih hS hk hcl
    by_cases hx1 : x = -1
    · subst hx1
      go_enter Tryd.func90, Tryd.ntmps90
      go_wp2
      go_ret
      exact ⟨true, M, L, rfl, HS.out, Nat.le_refl _, Nat.le_refl _, WRes.nil _ _ _ _⟩
    have hxb : (x == -1) = false := by simpa using hx1
    have HX1 := Aside0.mk hx1
    have hw := H.out.at0 HS.out.below
    have off : (x < 0 ∨ (t.ns.length : Int) ≤ x ∨ M x.toNat = true ∨ (gn t x.toNat).inn = false ∨ upA t x ≠ u) → WRes t x u M L false M L :=
      fun hh => WRes.off HX1.out hh
    have OFF := Aside0.mk off
    have hc0 := hw.c0
    have HW := Aside0.mk hw
    clear off hx1 hw
    by_cases h0 : x < 0
    · go_enter Tryd.func90, Tryd.ntmps90
      go_wp2
      go_ret
      exact ⟨false, M, L, rfl, HS.out, Nat.le_refl _, Nat.le_refl _, OFF.out (Or.inl h0)⟩
    have h01 : decide (x < 0) = false := decide_eq_false h0
    have h00 : 0 ≤ x := by omega
    by_cases hn : (t.ns.length : Int) ≤ x
    · go_enter Tryd.func90, Tryd.ntmps90
      go_wp2
      go_ret
      exact ⟨false, M, L, rfl, HS.out, Nat.le_refl _, Nat.le_refl _, OFF.out (Or.inr (Or.inl hn))⟩
    have hn1 : decide ((t.ns.length : Int) ≤ x) = false := decide_eq_false hn
    have hxn : x < (t.ns.length : Int) := by omega
    have hm1 := HS.out.metc x.toNat (by omega)
    cases hM : M x.toNat with
    | true =>
      rw [hM] at hm1
      have HM := Aside0.mk hM
      clear hM
      go_enter Tryd.func90, Tryd.ntmps90
      go_wp2
      go_ret
      exact ⟨false, M, L, rfl, HS.out, Nat.le_refl _, Nat.le_refl _, OFF.out (Or.inr (Or.inr (Or.inl HM.out)))⟩
    | false =>
    rw [hM] at hm1
    have HM := Aside0.mk hM
    clear hM
    rw [HW.out.addr (by omega)] at hc0
    have hf1 := HW.out.fin x h00 hxn
    cases hI : (gn t x.toNat).inn with
    | false =>
      rw [hI] at hf1
      have HI := Aside0.mk hI
      clear hI
      go_enter Tryd.func90, Tryd.ntmps90
      go_wp2
      go_ret
      exact ⟨false, M, L, rfl, HS.out, Nat.le_refl _, Nat.le_refl _, OFF.out (Or.inr (Or.inr (Or.inr (Or.inl HI.out))))⟩
    | true =>
    rw [hI] at hf1
    have HI := Aside0.mk hI
    clear hI
    have HXN := Aside0.mk hxn
    have H00 := Aside0.mk h00
    obtain ⟨up, hup⟩ : ∃ q, q = upA t x := ⟨_, rfl⟩
    have HUP := Aside0.mk hup.symm
    clear hup
    by_cases hu : up = u
    rotate_left
    · have hub : (up == u) = false := by simpa using hu
      have hub2 : (up != u) = true := by simpa using hu
      have HU := Aside0.mk hu
      clear hu
      go_enter Tryd.func90, Tryd.ntmps90
      go_wp2_with (go_at_call 63; refine (up_v HW.out x H00.out HXN.out up HUP.out).mono ?_; rintro e wq ⟨rfl, rfl⟩)
      go_ret
      exact ⟨false, M, L, rfl, HS.out, Nat.le_refl _, Nat.le_refl _, OFF.out (Or.inr (Or.inr (Or.inr (Or.inr (by rw [HUP.out]; exact HU.out)))))⟩
    subst hu
    clear OFF
    have hmf := HS.out.metf x.toNat
    have hc1 := HW.out.fl x h00 hxn
    have S1 := Aside0.mk (HS.out.setMet x.toNat (by omega))
    have HC1 := Aside0.mk (cnt_set (n := t.ns.length) (show x.toNat < t.ns.length by omega) HM.out)
    go_enter Tryd.func90, Tryd.ntmps90
    go_upto_region 6 with (go_at_call 63; refine (up_v HW.out x H00.out HXN.out up HUP.out).mono ?_; rintro e wq ⟨rfl, rfl⟩)
    clear hmf hc1 hf1 hm1 hc0
    generalize World.setCell _ _ _ = W1 at S1 ⊢
    have HW1 := Aside0.mk (H.out.at0 S1.out.below)
    have hd1 := HW1.out.fl x H00.out HXN.out
    go_upto_region 8 with (first
      | (go_at_call 61; refine (left_ HW1.out x H00.out HXN.out).mono ?_; rintro e wq ⟨rfl, rfl⟩)
      | (go_at_call 90; refine (IH.out _ (setM M x.toNat) L (kidA t x false) x (by have := HC1.out; have := HK.out; omega) S1.out (by have := HC1.out; have := HCL.out; omega)).mono ?_; rintro e wq ⟨rr, M2, L2, rfl, hS2, hl2, hle2, hres2⟩; have S2 := Aside0.mk hS2; have L2H := Aside0.mk hl2; have C2H := Aside0.mk hle2; have R2 := Aside0.mk hres2; clear hS2 hl2 hle2 hres2; cases rr))
    · go_ret
      exact ⟨false, M2, L2, rfl, S2.out, by have := HC1.out; have := L2H.out; omega, by have := HC1.out; have := C2H.out; omega, WRes.noL HX1.out R2.out⟩
    obtain ⟨v, hbx, hR⟩ := S2.out.box
    obtain ⟨A0, n0, hv, _, _⟩ := Kd.R_reads hR
    subst hv
    have HBX := Aside0.mk hbx
    have HR := Aside0.mk hR
    have HL := Aside0.mk H.out.len
    have hce := (show _ = some (Value.slice A0 L2.length n0) from (blk_cell hbx 0).trans rfl)
    have hbd1 := S2.out.ltm
    have hbd2 := S2.out.lto
    clear hbx hR hd1
    go_upto_region 9 with (at_builtin; refine Kd.R_append (Kd.int .i64) (w0 := w0) w0.heap.size rfl (.tmp 71) (.tmp 73) 26 3 (.int .i64 0) 8 rfl Tryd.underlying26 infoI rfl (by show 0 < 1; omega) (by omega) (.slice A0 L2.length n0) L2 x [.int .i64 x] (fun k => k ≠ m ∧ k ≠ o) (fun _ => False) rfl rfl rfl (fun _ hk => hk.elim) (fun q hq => ⟨by omega, by omega⟩) HR.out S2.out.below S2.out.below.size (by have := L2H.out; have := HL.out; have := HCL.out; have := HC1.out; omega) ?_; intro v1 w1 hR1 hB1 hg1 hat1; obtain ⟨A5, n5, hv5, _, _⟩ := Kd.R_reads hR1; rw [show (L2 ++ [x]).length = L2.length + 1 by rw [List.length_append]; rfl] at hv5; subst hv5; have S3 := Aside0.mk (S2.out.appended HBX.out HR.out hg1 hB1 hR1); have e2 := (S2.out.same HBX.out HR.out hg1).2.trans HBX.out; have hf3 := blk_frozen e2 0; have hc3 : w1.cell? ⟨o, 0, none⟩ = some (Value.slice A0 L2.length n0) := (blk_cell e2 0).trans rfl; clear hR1 hB1 hg1 hat1 e2)
    clear hce hf3 hc3 hbd1 hbd2 HBX HR S2
    generalize World.setCell _ _ _ = W3 at S3 ⊢
    have HW3 := Aside0.mk (H.out.at0 S3.out.below)
    have hd3 := HW3.out.fr x H00.out HXN.out
    have HCN := Aside0.mk (show cntM M2 t.ns.length < k by have := HC1.out; have := C2H.out; have := HK.out; omega)
    go_wp2_with (first
      | (go_at_call 64; refine (right_ HW3.out x H00.out HXN.out).mono ?_; rintro e wq ⟨rfl, rfl⟩)
      | (go_at_call 90; refine (IH.out _ M2 (L2 ++ [x]) (kidA t x true) x HCN.out S3.out (by rw [List.length_append]; have := L2H.out; have := HC1.out; have := HCL.out; show L2.length + 1 + _ ≤ _; omega)).mono ?_; rintro e wq ⟨r4, M4, L4, rfl, hS4, hl4, hle4, hres4⟩; have S4 := Aside0.mk hS4; have L4H := Aside0.mk hl4; have C4H := Aside0.mk hle4; have R4 := Aside0.mk hres4; clear hS4 hl4 hle4 hres4))
    go_ret
    exact ⟨r4, M4, L4, rfl, S4.out, by rw [List.length_append] at L4H; have := L4H.out; have e1 : [x].length = 1 := rfl; rw [e1] at this; have := L2H.out; have := HC1.out; omega, by have := HC1.out; have := C2H.out; have := C4H.out; omega, WRes.both H00.out HXN.out HM.out HI.out HUP.out R2.out R4.out⟩
end
end Go.Proofs.YtnkhnnojdlgfjaaDoor.Tm
end
section
namespace Go.Proofs.YtnkhnnojdlgfjaaDoorW.PrintWords
open Go.RowKit
section
variable {P : Program} {d : Nat} {xs ys : Array Value} {f : Field} {fs : List Field} {a b : Value} {r s : Bool} {w : World}
theorem eqf_last (hn : (f.name == "_") = false) (ha : (part f.type xs f.offset).run P w = .ok a w) (hb : (part f.type ys f.offset).run P w = .ok b w) (he : (Op.equalIn d f.type a b).run P w = .ok r w) : (Op.eqFields d xs ys [f]).run P w = .ok r w := by
  have hn' : f.name ≠ "_" := by simpa using hn
  simp only [Op.eqFields, if_pos hn', Sem.run_bind, ha, hb, he, Result.andThen_ok]
  cases r <;> simp
theorem eqf_cons (hn : (f.name == "_") = false) (ha : (part f.type xs f.offset).run P w = .ok a w) (hb : (part f.type ys f.offset).run P w = .ok b w) (he : (Op.equalIn d f.type a b).run P w = .ok r w) (hr : (Op.eqFields d xs ys fs).run P w = .ok s w) : (Op.eqFields d xs ys (f :: fs)).run P w = .ok (r && s) w := by
  have hn' : f.name ≠ "_" := by simpa using hn
  rw [Op.eqFields]
  simp only [if_pos hn', Sem.run_bind, ha, hb, he, Result.andThen_ok]
  cases r
  · simp
  · simpa using hr
theorem eqA_of {t : TypeId} {fs : Array Field} (hu : P.underlying t = some (.struct fs)) (hp : P.stoodInHeld t = false) (h : (Op.eqFields d xs ys fs.toList).run P w = .ok r w) : (Op.equalIn (d + 1) t (.agg xs) (.agg ys)).run P w = .ok r w := by
  have hf : P.fieldsOf t = fs := by simp [Program.fieldsOf, hu]
  rw [run_equalIn_struct (P := P) w d t xs ys (by rw [hf]; exact hu) hp, hf]
  exact h
end
end Go.Proofs.YtnkhnnojdlgfjaaDoorW.PrintWords
end
