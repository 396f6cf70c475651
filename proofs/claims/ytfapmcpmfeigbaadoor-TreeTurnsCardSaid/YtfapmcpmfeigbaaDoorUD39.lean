/- Parts of the proof, joined: TmT. -/
import Derived.Test.YtfapmcpmfeigbaaDoorUD38
namespace Go.Proofs.YtfapmcpmfeigbaaDoor.Tm
open Go.RowKit Go Go.Proofs Go.Proofs.YtfapmcpmfeigbaaDoor Go.Proofs.YtfapmcpmfeigbaaDoor.Tr Go.Proofs.YtfapmcpmfeigbaaDoor.Tk Go.Proofs.YtfapmcpmfeigbaaDoorW.PrintWords Go.Proofs.YtfapmcpmfeigbaaDoorW.PrintLast Go.Proofs.YtfapmcpmfeigbaaDoorW.PrintMore
set_option linter.unusedVariables false
set_option linter.unusedSimpArgs false
def tN (m : Int) (n : Nd) : Nd := if n.inn = true then { n with v := IntKind.u64.wrap (n.v + m) } else n
def tS (m : Int) (t : St) : St := ⟨t.ns.map (tN m), t.rt⟩
def tK (m : Int) (k : K) : K := (IntKind.u64.wrap (k.1 + m), k.2)
variable {m : Int} {t : St}
theorem tN_inn (n : Nd) : (tN m n).inn = n.inn := by unfold tN; split <;> rfl
theorem tN_red (n : Nd) : (tN m n).red = n.red := by unfold tN; split <;> rfl
theorem tN_l (n : Nd) : (tN m n).l = n.l := by unfold tN; split <;> rfl
theorem tN_r (n : Nd) : (tN m n).r = n.r := by unfold tN; split <;> rfl
theorem tN_u (n : Nd) : (tN m n).u = n.u := by unfold tN; split <;> rfl
theorem tN_v {n : Nd} (h : n.inn = true) : (tN m n).v = IntKind.u64.wrap (n.v + m) := by unfold tN; rw [if_pos h]
theorem tN_emp : tN m emp = emp := rfl
theorem tN_new (v : Int) : tN m (newN v) = newN (IntKind.u64.wrap (v + m)) := rfl
theorem tN_setu (n : Nd) (y : Int) : tN m { n with u := y } = { tN m n with u := y } := by unfold tN; split <;> simp_all
theorem tN_setred (n : Nd) (b : Bool) : tN m { n with red := b } = { tN m n with red := b } := by unfold tN; split <;> simp_all
theorem tN_setKid (n : Nd) (s : Bool) (y : Int) : tN m (kC n s y) = kC (tN m n) s y := by cases hn : n.inn <;> cases s <;> simp [tN, kC, hn]
theorem kI (z : Nat) : gn (tS m t) z = tN m (gn t z) := by
 unfold gn tS
 show (t.ns.map (tN m)).getD z emp = tN m (t.ns.getD z emp)
 rw [List.getD_eq_getElem?_getD, List.getD_eq_getElem?_getD, List.getElem?_map]
 cases t.ns[z]? <;> rfl
theorem sn_tS (z : Nat) (n : Nd) : sn (tS m t) z (tN m n) = tS m (sn t z n) := by
 unfold sn tS
 simp only [St.mk.injEq, and_true]
 rw [List.map_set]
theorem zaD : (tS m t).ns.length = t.ns.length := by unfold tS; simp
theorem rt_tS : (tS m t).rt = t.rt := rfl
theorem wC (x : Int) (s : Bool) : kidA (tS m t) x s = kidA t x s := by unfold kidA; rw [kI, tN_l, tN_r]
theorem red_tS (x : Int) : redA (tS m t) x = redA t x := by unfold redA; rw [kI, tN_red]
theorem up_tS (x : Int) : upA (tS m t) x = upA t x := by unfold upA; rw [kI, tN_u]
theorem on_tS (x : Int) : onA (tS m t) x = onA t x := by unfold onA; rw [kI, tN_u, wC]
theorem zbd (x : Int) (s : Bool) (y : Int) : zZ (tS m t) x s y = tS m (zZ t x s y) := by
 have h1 : xS (tS m t) x s y = tS m (xS t x s y) := by
  unfold xS
  split
  ·rfl
  ·rw [kI, ← tN_setKid, sn_tS]
 unfold zZ
 rw [h1]
 unfold jJ
 split
 ·rw [kI, ← tN_setu, sn_tS]
 ·rfl
theorem zaG (b : Bool) (x : Int) : zQ (tS m t) b x = tS m (zQ t b x) := by
 unfold zQ
 split
 ·rw [kI, ← tN_setred, sn_tS]
 ·rfl
theorem zac (x : Int) (s : Bool) : yU (tS m t) x s = tS m (yU t x s) := by
 unfold yU
 simp only [kI, tN_u, wC, on_tS, zbd]
theorem turnK_tS (x : Int) (s : Bool) (f g : St → Option St) (h : ∀ t', f (tS m t') = (g t').map (tS m)) : kT (tS m t) x s f = (kT t x s g).map (tS m) := by
 unfold kT
 rw [wC]
 split
 ·rw [zac, h]
 ·rfl
theorem mend_tS : ∀ (k : Nat) (t : St) (x : Int), qC k (tS m t) x = (qC k t x).map (tS m) := by
 intro k
 induction k with
 | zero => exact fun _ _ => rfl
 | succ k ih =>
  intro t x
  unfold qC
  simp only [red_tS, up_tS, wC, on_tS, zaG, zac, rt_tS]
  split
  ·split
   ·split
    ·exact ih _ _
    ·split
     ·exact turnK_tS _ _ _ _ fun t' => ih _ _
     ·split
      ·exact turnK_tS _ _ _ _ fun t' => by rw [ih]
      ·rfl
   ·rfl
  ·rfl
theorem fillEnd_tS (p : Int) (s : Bool) (b far : Int) : xQ (tS m t) p s b far = (xQ t p s b far).map (tS m) := by
 unfold xQ
 simp only [red_tS, wC, zaG, zac]
 split <;> rfl
theorem zax (f g : St → Int → Bool → Option St) (h : ∀ t' p s, f (tS m t') p s = (g t' p s).map (tS m)) (t : St) (p : Int) (s : Bool) (b : Int) : xR f (tS m t) p s b = (xR g t p s b).map (tS m) := by
 unfold xR
 simp only [red_tS, wC, zaG, zac, up_tS, on_tS, fillEnd_tS, h]
 split
 ·rfl
 ·split
  ·rfl
  ·split <;> rfl
theorem fill_tS : ∀ (k : Nat) (t : St) (p : Int) (s : Bool), qH k (tS m t) p s = (qH k t p s).map (tS m) := by
 intro k
 induction k with
 | zero => exact fun _ _ _ => rfl
 | succ k ih =>
  intro t p s
  unfold qH
  simp only [red_tS, wC, zaG, zac, rt_tS]
  split
  ·split
   ·rfl
   ·split
    ·exact zax _ _ ih _ _ _ _
    ·exact zax _ _ ih _ _ _ _
  ·rfl
theorem left_tS : ∀ (k : Nat) (y : Int), jR k (tS m t) y = jR k t y := by
 intro k
 induction k with
 | zero => exact fun _ => rfl
 | succ k ih =>
  intro y
  unfold jR
  rw [wC, ih]
theorem fillIf_tS (k : Nat) (goes : Bool) (t : St) (p : Int) (s : Bool) : wE k goes (tS m t) p s = (wE k goes t p s).map (tS m) := by
 unfold wE
 split
 ·rfl
 ·exact fill_tS _ _ _ _
theorem emp_tS (id : Nat) : sn (tS m t) id emp = tS m (sn t id emp) := by rw [← sn_tS, tN_emp]
theorem delEnd_tS (k : Nat) (t : St) (id : Nat) (up : Int) (at_ : Bool) (l : Int) (c : Bool) (y p : Int) (s goes : Bool) : vH k (tS m t) id up at_ l c y p s goes = (vH k t id up at_ l c y p s goes).map (tS m) := by
 unfold vH kK
 simp only [zbd, zaG, emp_tS, fillIf_tS]
theorem del_tS (k : Nat) (t : St) (id : Nat) : delA k (tS m t) id = (delA k t id).map (tS m) := by
 unfold delA
 simp only [kI, tN_l, tN_r, tN_u, tN_red, on_tS, zbd, emp_tS, fillIf_tS, left_tS, up_tS, wC, red_tS, delEnd_tS]
 split
 ·rfl
 ·split
  ·rfl
  ·split <;> rfl
theorem lay_tS {a : T} : ∀ {u : Option Int}, Lay t a u → Lay (tS m t) a u := by
 induction a with
 | E => intro u _; trivial
 | B c l x r il ir =>
  intro u ⟨h1, h2, h3, h4, h5, h6, h7, h8⟩
  refine ⟨by rw [zaD]; exact h1, ?_, ?_, ?_, ?_, ?_, il h7, ir h8⟩
  ·rw [kI, tN_inn]; exact h2
  ·rw [kI, tN_red]; exact h3
  ·rw [kI, tN_l]; exact h4
  ·rw [kI, tN_r]; exact h5
  ·rw [kI, tN_u]; exact h6
theorem keys_tS {a : T} (h : Whole t a) : keysOf (tS m t) a.ids = (keysOf t a.ids).map (tK m) := by
 unfold keysOf
 rw [List.map_map]
 refine List.map_congr_left fun z hz => ?_
 show ((gn (tS m t) z).v, (z : Int)) = (IntKind.u64.wrap ((gn t z).v + m), (z : Int))
 rw [kI, tN_v ((h.mem z).1 hz)]
theorem lag_tS (mn v : Int) : lagf (IntKind.u64.wrap (mn + m)) (IntKind.u64.wrap (v + m)) = lagf mn v := by
 unfold lagf
 rw [w64, w64, w64, w64]
 congr 1
 omega
theorem cv_tS (mn : Int) (x y : K) : cvf (IntKind.u64.wrap (mn + m)) (tK m x) (tK m y) = cvf mn x y := by
 unfold cvf tK
 simp only [lag_tS]
theorem SS_tS {mn : Int} {L : List K} (h : SS mn L) : SS (IntKind.u64.wrap (mn + m)) (L.map (tK m)) := by
 refine ⟨?_, ?_⟩
 ·rw [List.pairwise_map]
  exact h.pw.imp fun {x y} hxy => by rw [cv_tS]; exact hxy
 ·rw [List.pairwise_map]
  exact h.nd.imp fun {x y} hxy => hxy
theorem J_tS {mn : Int} {n : Nat} {L : List K} (h : J mn n t L) : J (IntKind.u64.wrap (mn + m)) n (tS m t) (L.map (tK m)) := by
 obtain ⟨a, h1, h2⟩ := h.ex
 refine ⟨⟨a, ⟨⟨lay_tS h1.whole.lay, h1.whole.rt, h1.whole.nd, fun z hz hn => ?_⟩, h1.red, h1.rb, by rw [zaD]; exact h1.len⟩, ?_⟩, SS_tS h.ss, by rw [zaD]; exact h.len⟩
 ·rw [kI, h1.whole.out z (by rw [zaD] at hz; exact hz) hn, tN_emp]
 ·rw [keys_tS h1.whole, h2]
theorem down_tS {lt lt' : Nat → Bool} (hlt : ∀ z, (gn t z).inn = true → lt' z = lt z) : ∀ (k : Nat) (a : T) (u : Option Int) (up : Int) (s : Bool), Lay t a u → jS k (tS m t) lt' a.rt up s = jS k t lt a.rt up s := by
 intro k
 induction k with
 | zero => exact fun _ _ _ _ _ => rfl
 | succ k ih =>
  intro a u up s h
  cases a with
  | E => rfl
  | B c l x r =>
   obtain ⟨h1, h2, h3, h4, h5, h6, h7, h8⟩ := h
   unfold jS
   rw [show (T.B c l x r).rt = (x : Int) from rfl, Int.toNat_natCast, hlt x h2, wC]
   split
   ·unfold kidA
    rw [Int.toNat_natCast, h4, h5]
    cases lt x with
    | true => exact ih l _ _ _ h7
    | false => exact ih r _ _ _ h8
   ·rfl
def tR (m : Int) (r : St × Int) : St × Int := (tS m r.1, r.2)
theorem ins_tS {mn : Int} {n : Nat} {L : List K} {k : K} (h : J mn n t L) : insA (tS m t) (IntKind.u64.wrap (mn + m)) (tK m k) = (insA t mn k).map (tR m) := by
 unfold insA
 rw [h.right, (J_tS h).right, zaD, if_neg (show ¬ (true = false) by decide), if_neg (show ¬ (true = false) by decide)]
 simp only [kI, tN_inn, show (tK m k).2 = k.2 from rfl, show (tK m k).1 = IntKind.u64.wrap (k.1 + m) from rfl]
 split
 ·rfl
 ·obtain ⟨a, h1, h2⟩ := h.ex
  have hd := down_tS (m := m) (lt := ltA t mn k) (lt' := ltA (tS m t) (IntKind.u64.wrap (mn + m)) (tK m k)) (fun z hz => by
   unfold ltA
   rw [kI, tN_v hz]
   rw [show ((IntKind.u64.wrap ((gn t z).v + m), (z : Int)) : K) = tK m ((gn t z).v, (z : Int)) from rfl, cv_tS]) (t.ns.length + 2) a _ (-1) false h1.whole.lay
  rw [← h1.whole.rt] at hd
  rw [rt_tS, hd]
  cases jS (t.ns.length + 2) t (ltA t mn k) t.rt (-1) false with
  | none => rfl
  | some r =>
   obtain ⟨up, s⟩ := r
   simp only
   rw [← tN_new, sn_tS, zbd, mend_tS]
   cases qC (t.ns.length + 2) (zZ (sn t k.2.toNat (newN k.1)) up s k.2) k.2 <;> rfl
theorem delF_tS {mn : Int} {n : Nat} {L : List K} {i : Int} (h : J mn n t L) : delF (tS m t) (IntKind.u64.wrap (mn + m)) i = (delF t mn i).map (tR m) := by
 unfold delF
 rw [h.right, (J_tS h).right, zaD, if_neg (show ¬ (true = false) by decide), if_neg (show ¬ (true = false) by decide)]
 simp only [kI, tN_inn, del_tS]
 split
 ·rfl
 ·split
  ·rfl
  ·cases delA (t.ns.length + 2) t i.toNat <;> rfl
end Go.Proofs.YtfapmcpmfeigbaaDoor.Tm
