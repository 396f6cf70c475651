/- Parts of the proof, joined: Q5. -/
import Derived.Test.YtnkhnnojdlgfjaaDoorUF34
namespace Go.Proofs.YtnkhnnojdlgfjaaDoor.Qw
open Go.RowKit Go Go.Proofs Go.Proofs.YtnkhnnojdlgfjaaDoor Go.Proofs.YtnkhnnojdlgfjaaDoor.Tr Go.Proofs.YtnkhnnojdlgfjaaDoor.Tk Go.Proofs.YtnkhnnojdlgfjaaDoor.Tm Go.Proofs.YtnkhnnojdlgfjaaDoor.Qu Go.Proofs.YtnkhnnojdlgfjaaDoorW.PrintWords Go.Proofs.YtnkhnnojdlgfjaaDoorW.PrintLast Go.Proofs.YtnkhnnojdlgfjaaDoorW.PrintMore
set_option linter.unusedVariables false
set_option linter.unusedSimpArgs false
variable {S : Nat → Prop} {A B : Option Addr} {c d : Nat} {w w' : World} {q : Q}
theorem right_T {q : Q} (h : okT q = false) : rightQ q = false := by
  unfold rightQ
  rw [h, Bool.false_and]
theorem right_C {q : Q} (h : okC q = false) : rightQ q = false := by
  unfold rightQ
  rw [h, Bool.false_and, Bool.and_false]
theorem right_W {q : Q} (i : Nat) (hi : i < q.ws.length) (h : okI q i = false) : rightQ q = false := by
  have e : okW q = false := by
    unfold okW
    refine Bool.eq_false_iff.2 fun e => ?_
    rw [List.all_eq_true] at e
    have := e i (List.mem_range.2 hi)
    rw [h] at this
    cases this
  unfold rightQ
  rw [e, Bool.false_and, Bool.and_false, Bool.and_false]
theorem right_E {q : Q} (h1 : okT q = true) (h2 : okC q = true) (h3 : ∀ i, i < q.ws.length → okI q i = true) : rightQ q = (sumA q.ws 0 == q.load && !((keysA q).any (farA q.mn))) := by
  unfold rightQ
  rw [h1, h2, show okW q = true from by
    unfold okW
    rw [List.all_eq_true]
    exact fun i hi => h3 i (List.mem_range.1 hi)]
  simp
theorem sum_app : ∀ (l : List Int) (x s : Int), sumA (l ++ [x]) s = wrap64 (sumA l s + x)
  | [], x, s => rfl
  | w :: l, x, s => sum_app l x _
theorem sum_take (l : List Int) (k : Nat) (h : k < l.length) : sumA (l.take (k + 1)) 0 = wrap64 (sumA (l.take k) 0 + l.getD k 0) := by
  rw [List.take_succ_eq_append_getElem h, sum_app, List.getD_eq_getElem?_getD, List.getElem?_eq_getElem h]
  rfl
structure SRel (q : Q) (ws : List Int) (w : World) (s i : Value) (k : Nat) (wr : World) : Prop where mk ::
  le : k ≤ ws.length
  hi : i = .int .i64 (k : Int)
  hs : s = .int .i64 (sumA (ws.take k) 0)
  ok : ∀ j, j < k → okI q j = true
  hb : Below w.heap.size w wr
structure SRl (q : Q) (ws : List Int) (w : World) (s i : Value) (wr : World) : Prop where mk ::
  out : ∃ k, SRel q ws w s i k wr
set_option maxHeartbeats 32000000 in
set_option maxRecDepth 100000 in
theorem RightQ_ (h : QIn S A c B d w q) (hT : Emp w) : Calls Tryd.prog 18 #[.agg (qc A c B d q)] w fun e w' => e = .returned (.bool (rightQ q)) ∧ Below w.heap.size w w' := by
  have HQ := Aside0.mk h
  have HT := Aside0.mk hT
  clear h hT
  have E1 := Aside0.mk (fun h : okT q = false => right_T h)
  have E2 := Aside0.mk (fun h : okC q = false => right_C h)
  have E3 := Aside0.mk (fun i (hi : i < q.ws.length) (h : okI q i = false) => right_W i hi h)
  have E4 := Aside0.mk (fun (h1 : okT q = true) (h2 : okC q = true) (h3 : ∀ i, i < q.ws.length → okI q i = true) => right_E h1 h2 h3)
  have ET := Aside0.mk (show okT q = (decide (q.ws.length = q.t.ns.length) && (decide (-1 ≤ q.cur) && (decide (q.cur < (q.t.ns.length : Int)) && rightA q.t q.mn))) from rfl)
  have EC := Aside0.mk (show okC q = if q.cur = -1 then q.v == 0 else !(inA q.t q.cur) from rfl)
  obtain ⟨qq, hqq⟩ : ∃ qq, qq = q := ⟨_, rfl⟩
  have HQQ := Aside0.mk hqq
  generalize hrq : rightQ q = RQ at E1 E2 E3 E4 ⊢
  generalize hot : okT q = OT at E1 E4 ET
  generalize hoc : okC q = OC at E2 E4 EC
  clear hrq hot hoc hqq
  obtain ⟨⟨ns, rt⟩, cur, v, mn, load, ws⟩ := q
  replace HQQ : Aside0 (qq = ⟨⟨ns, rt⟩, cur, v, mn, load, ws⟩) := HQQ
  have HK := Aside0.mk (fun (W : World) (h : QIn S A c B d W ⟨⟨ns, rt⟩, cur, v, mn, load, ws⟩) (hr : rightA ⟨ns, rt⟩ mn = true) (hc : CurOk qq) (hT : Emp W) => (show Calls Tryd.prog 32 #[.agg #[.int .i64 rt, .slice A ns.length c, .int .i64 cur, .int .u64 v, .int .u64 mn, .int .i64 load, .slice B ws.length d]] W fun e w' => KPost W (keysA qq) e w' from by
    rw [HQQ.out] at hc ⊢
    exact keys_ h hr hc hT))
  have HH := Aside0.mk (fun (W : World) (id : Int) (h : QIn S A c B d W ⟨⟨ns, rt⟩, cur, v, mn, load, ws⟩) (h0 : 0 ≤ id) (h1 : id < (ns.length : Int)) => (show Calls Tryd.prog 26 #[.agg #[.int .i64 rt, .slice A ns.length c, .int .i64 cur, .int .u64 v, .int .u64 mn, .int .i64 load, .slice B ws.length d], .int .i64 id] W fun e w' => e = .returned (.bool (hereA qq id)) ∧ Below W.heap.size W w' from by
    rw [HQQ.out]
    exact here_ id h h0 h1))
  have HLN := Aside0.mk (fun (h1 : rightA ⟨ns, rt⟩ mn = true) (hc : CurOk qq) => (show (keysA qq).length ≤ 65 from by
    rw [HQQ.out] at hc ⊢
    exact keys_len h1 hc))
  have HOI := Aside0.mk (fun i : Nat => (show okI qq i = ((hereA qq (i : Int) == weighedA (ws.getD i 0)) && (hereA qq (i : Int) || ws.getD i 0 == 0)) from by rw [HQQ.out]; rfl))
  replace E3 : Aside0 (∀ i, i < ws.length → okI qq i = false → RQ = false) := by rw [HQQ.out]; exact E3
  replace E4 : Aside0 (OT = true → OC = true → (∀ i, i < ws.length → okI qq i = true) → RQ = (sumA ws 0 == load && !((keysA qq).any (farA mn)))) := by rw [HQQ.out]; exact E4
  have HCO := Aside0.mk (fun h : (cur = -1 ∨ 0 ≤ cur ∧ inA ⟨ns, rt⟩ cur = false) => (show CurOk qq from by rw [HQQ.out]; exact ⟨h⟩))
  replace ET : Aside0 (OT = (decide (ws.length = ns.length) && (decide (-1 ≤ cur) && (decide (cur < (ns.length : Int)) && rightA ⟨ns, rt⟩ mn)))) := ET
  replace EC : Aside0 (OC = if cur = -1 then v == 0 else !(inA ⟨ns, rt⟩ cur)) := EC
  show Calls Tryd.prog 18 #[.agg #[.int .i64 rt, .slice A ns.length c, .int .i64 cur, .int .u64 v, .int .u64 mn, .int .i64 load, .slice B ws.length d]] w _
  go_enter Tryd.func18, Tryd.ntmps18
  go_upto_region 1 with (fail)
  have HX := Aside0.mk (QB.new w rt A ns.length c cur v mn load B ws.length d)
  have HB := Aside0.mk (below_alloc (Below.refl w.heap.size w) (.cells #[.int .i64 rt, .slice A ns.length c, .int .i64 cur, .int .u64 v, .int .u64 mn, .int .i64 load, .slice B ws.length d] 28))
  generalize w.alloc (.cells #[.int .i64 rt, .slice A ns.length c, .int .i64 cur, .int .u64 v, .int .u64 mn, .int .i64 load, .slice B ws.length d] 28) = W1 at HX HB ⊢
  have HQ1 := Aside0.mk (HQ.out.below HB.out)
  have HT1 := Aside0.mk (HT.out.below HB.out)
  have a0 := HX.out.c0
  have a1 := HX.out.c1
  have a2 := HX.out.c2
  have a3 := HX.out.c3
  have a4 := HX.out.c4
  have a5 := HX.out.c5
  have a6 := HX.out.c6
  go_upto_region 2 with (fail)
  by_cases b1 : ws.length = ns.length
  case neg =>
    have HR := Aside0.mk (E1.out (by rw [ET.out, decide_eq_false b1, Bool.false_and]))
    have b2 : ((ws.length : Int) != (ns.length : Int)) = true := bne_iff_ne.2 (by omega)
    clear b1
    go_wp2
    go_ret
    exact ⟨by rw [HR.out]; rfl, HB.out⟩
  have HL := Aside0.mk b1
  have b2 : ((ws.length : Int) != (ns.length : Int)) = false := bne_eq_false_iff_eq.2 (by omega)
  clear b1
  by_cases b3 : cur < -1
  · have HR := Aside0.mk (E1.out (by rw [ET.out, show decide (-1 ≤ cur) = false from decide_eq_false (by omega), Bool.false_and, Bool.and_false]))
    go_wp2
    go_ret
    exact ⟨by rw [HR.out]; rfl, HB.out⟩
  have b3' : decide (cur < -1) = false := decide_eq_false b3
  by_cases b4 : cur < (ns.length : Int)
  case neg =>
    have HR := Aside0.mk (E1.out (by rw [ET.out, decide_eq_false b4, Bool.false_and, Bool.and_false, Bool.and_false]))
    have b4' : decide ((ns.length : Int) ≤ cur) = true := decide_eq_true (by omega)
    have b4'' : (ns.length : Int) ≤ cur := by omega
    go_wp2
    go_ret
    exact ⟨by rw [HR.out]; rfl, HB.out⟩
  have b4' : decide ((ns.length : Int) ≤ cur) = false := decide_eq_false (by omega)
  have b4'' : ¬ (ns.length : Int) ≤ cur := by omega
  cases b5 : rightA ⟨ns, rt⟩ mn with
  | false =>
    have HR := Aside0.mk (E1.out (by rw [ET.out, b5, Bool.and_false, Bool.and_false, Bool.and_false]))
    have HB5 := Aside0.mk b5
    clear b5
    go_wp2_with (go_at_call 47; refine (Right_ (t := ⟨ns, rt⟩) A c mn HQ1.out.trC HQ1.out.tl HT1.out).mono ?_; rintro e w2 ⟨rfl, hb⟩; have HB2 := Aside0.mk (below_step HB.out hb); clear hb; rw [HB5.out])
    go_ret
    exact ⟨by rw [HR.out]; rfl, HB2.out⟩
  | true =>
    have HOT := Aside0.mk (show OT = true by rw [ET.out, b5, decide_eq_true HL.out, decide_eq_true b4, decide_eq_true (show -1 ≤ cur by omega)]; rfl)
    have HB5 := Aside0.mk b5
    clear b5
    go_upto_region 4 with (go_at_call 47; refine (Right_ (t := ⟨ns, rt⟩) A c mn HQ1.out.trC HQ1.out.tl HT1.out).mono ?_; rintro e w2 ⟨rfl, hb⟩; have HX2 := Aside0.mk (HX.out.below hb); have HB2 := Aside0.mk (below_step HB.out hb); have HQ2 := Aside0.mk (HQ1.out.below hb); have HT2 := Aside0.mk (HT1.out.below hb); clear hb; rw [HB5.out])
    clear a0 a1 a2 a3 a4 a5 a6
    have a0 := HX2.out.c0
    have a1 := HX2.out.c1
    have a2 := HX2.out.c2
    have a3 := HX2.out.c3
    have a4 := HX2.out.c4
    have a5 := HX2.out.c5
    have a6 := HX2.out.c6
    go_cut [59] (fun s59 wx => s59 = .bool (!OC) ∧ wx = w2)
    case first =>
      by_cases d1 : cur = -1
      · have d2 : (cur == -1) = true := by simpa using d1
        have d3 : (cur != -1) = false := by simpa using d1
        have HO := Aside0.mk (EC.out.trans (if_pos d1))
        clear d1
        cases d4 : v == 0 with
        | true =>
          have d5 : (v != 0) = false := by unfold bne; rw [d4]; rfl
          rw [d4] at HO
          go_wp2_with fail
          go_meet
          exact ⟨by rw [HO.out]; rfl, rfl⟩
        | false =>
          have d5 : (v != 0) = true := by unfold bne; rw [d4]; rfl
          rw [d4] at HO
          go_wp2_with fail
          go_meet
          exact ⟨by rw [HO.out]; rfl, rfl⟩
      · have d2 : (cur == -1) = false := by simpa using d1
        have d3 : (cur != -1) = true := by simpa using d1
        have HO := Aside0.mk (EC.out.trans (if_neg d1))
        have h0 : 0 ≤ cur := by omega
        obtain ⟨ad, e0, n0, n1, n2, n3, n4, n5⟩ := kn_at HQ2.out.trC cur h0 b4''
        clear n1 n2 n3 n4 n5
        replace e0 : A = some ad := e0
        subst e0
        replace n0 : w2.cell? (ad.add (cur.toNat * 6)) = some (.bool (inA ⟨ns, rt⟩ cur)) := n0
        clear d1
        generalize inA ⟨ns, rt⟩ cur = bi at n0 HO
        go_wp2_with fail
        go_meet
        exact ⟨by rw [HO.out, Bool.not_not], rfl⟩
    case rest =>
      obtain ⟨rfl, rfl⟩ := hcut
      cases OC with
      | false =>
        have HR := Aside0.mk (E2.out rfl)
        go_wp2
        go_ret
        exact ⟨by rw [HR.out]; rfl, HB2.out⟩
      | true =>
        have HCU := Aside0.mk (HCO.out (by
          have he := EC.out
          by_cases d1 : cur = -1
          · exact Or.inl d1
          · rw [if_neg d1] at he
            exact Or.inr ⟨by omega, by simpa using he.symm⟩))
        clear E2 EC
        go_wp2
        go_loopw [4, 63] (fun s i wr => SRl qq ws wc s i wr) (fun s i wr => ws.length - (intOf i).toNat)
        case atStart => exact ⟨0, Nat.zero_le _, rfl, rfl, fun j hj => by omega, Below.refl _ _⟩
        case round =>
          obtain ⟨k, hle, rfl, rfl, hok, hb⟩ := hrel.out
          clear hrel a0 a1 a2 a3 a4 a5 a6
          have HOK := Aside0.mk hok
          have HX3 := Aside0.mk (HX2.out.below hb)
          have HQ3 := Aside0.mk (HQ2.out.below hb)
          have HT3 := Aside0.mk (HT2.out.below hb)
          have HB3 := Aside0.mk (below_step HB2.out hb)
          have HBW := Aside0.mk hb
          clear hok hb
          have a0 := HX3.out.c0
          have a1 := HX3.out.c1
          have a2 := HX3.out.c2
          have a3 := HX3.out.c3
          have a4 := HX3.out.c4
          have a5 := HX3.out.c5
          have a6 := HX3.out.c6
          by_cases hlt : k < ws.length
          · have hki : (k : Int) < (ws.length : Int) := by omega
            obtain ⟨ad, e1, x0⟩ := int_at HQ3.out.wrC k hlt
            replace e1 : B = some ad := e1
            subst e1
            have HST := Aside0.mk (sum_take ws k hlt)
            have HOX := Aside0.mk (HOI.out k)
            have HE3 := Aside0.mk (E3.out k hlt)
            have HKL := Aside0.mk hlt
            have hkn : k < 1000000 := by have := HQ3.out.wl; have e : (⟨⟨ns, rt⟩, cur, v, mn, load, ws⟩ : Q).ws.length = ws.length := rfl; omega
            replace x0 : wr.cell? (ad.add k) = some (.int .i64 (ws.getD k 0)) := x0
            generalize ws.getD k 0 = x at x0 HST HOX
            have HHK := Aside0.mk (fun (W : World) (h : QIn S A c (some ad) d W ⟨⟨ns, rt⟩, cur, v, mn, load, ws⟩) => HH.out W (k : Int) h (Int.natCast_nonneg k) (by have := HL.out; omega))
            have HWX := Aside0.mk (weighed_ x)
            generalize hereA qq (k : Int) = bh at HHK HOX
            generalize weighedA x = wx at HWX HOX
            generalize hsm : sumA (ws.take k) 0 = sm at HST ⊢
            clear hlt hsm
            cases bh with
            | true =>
              cases wx with
              | true =>
                have HOT2 := Aside0.mk (HOX.out.trans rfl)
                go_wp2_with (first
                | (go_at_call 26; refine (HHK.out _ HQ3.out).mono ?_; rintro e w4 ⟨rfl, hb⟩; have HX4 := Aside0.mk (HX3.out.below hb); have HBH := Aside0.mk hb; clear hb)
                | (go_at_call 24; refine (HWX.out _).mono ?_; rintro e w5 ⟨rfl, hb⟩; have HBX := Aside0.mk (below_step HBW.out (below_step HBH.out hb)); have HBY := Aside0.mk (below_step HB3.out (below_step HBH.out hb)); clear hb))
                refine ⟨⟨k + 1, by have := HKL.out; omega, by simp, by rw [HST.out], fun j hj => ?_, HBX.out⟩, ?_⟩
                · by_cases e : j = k
                  · subst e; exact HOT2.out
                  · exact HOK.out j (by omega)
                · show ws.length - ((k : Int) + 1).toNat < ws.length - (k : Int).toNat
                  have := HKL.out
                  omega
              | false =>
                have HR := Aside0.mk (HE3.out (HOX.out.trans rfl))
                go_wp2_with (first
                | (go_at_call 26; refine (HHK.out _ HQ3.out).mono ?_; rintro e w4 ⟨rfl, hb⟩; have HX4 := Aside0.mk (HX3.out.below hb); have HBH := Aside0.mk hb; clear hb)
                | (go_at_call 24; refine (HWX.out _).mono ?_; rintro e w5 ⟨rfl, hb⟩; have HBX := Aside0.mk (below_step HBW.out (below_step HBH.out hb)); have HBY := Aside0.mk (below_step HB3.out (below_step HBH.out hb)); clear hb))
                go_ret
                exact ⟨by rw [HR.out]; rfl, HBY.out⟩
            | false =>
              cases wx with
              | true =>
                have HR := Aside0.mk (HE3.out (HOX.out.trans rfl))
                go_wp2_with (first
                | (go_at_call 26; refine (HHK.out _ HQ3.out).mono ?_; rintro e w4 ⟨rfl, hb⟩; have HX4 := Aside0.mk (HX3.out.below hb); have HBH := Aside0.mk hb; clear hb)
                | (go_at_call 24; refine (HWX.out _).mono ?_; rintro e w5 ⟨rfl, hb⟩; have HBX := Aside0.mk (below_step HBW.out (below_step HBH.out hb)); have HBY := Aside0.mk (below_step HB3.out (below_step HBH.out hb)); clear hb))
                go_ret
                exact ⟨by rw [HR.out]; rfl, HBY.out⟩
              | false =>
                cases hx : x == 0 with
                | false =>
                  rw [hx] at HOX
                  have hx2 : (x != 0) = true := by unfold bne; rw [hx]; rfl
                  have HR := Aside0.mk (HE3.out (HOX.out.trans rfl))
                  clear hx
                  go_wp2_with (first
                | (go_at_call 26; refine (HHK.out _ HQ3.out).mono ?_; rintro e w4 ⟨rfl, hb⟩; have HX4 := Aside0.mk (HX3.out.below hb); have HBH := Aside0.mk hb; clear hb)
                | (go_at_call 24; refine (HWX.out _).mono ?_; rintro e w5 ⟨rfl, hb⟩; have HBX := Aside0.mk (below_step HBW.out (below_step HBH.out hb)); have HBY := Aside0.mk (below_step HB3.out (below_step HBH.out hb)); clear hb))
                  go_ret
                  exact ⟨by rw [HR.out]; rfl, HBY.out⟩
                | true =>
                  rw [hx] at HOX
                  have hx2 : (x != 0) = false := by unfold bne; rw [hx]; rfl
                  have HOT2 := Aside0.mk (HOX.out.trans rfl)
                  clear hx
                  go_wp2_with (first
                | (go_at_call 26; refine (HHK.out _ HQ3.out).mono ?_; rintro e w4 ⟨rfl, hb⟩; have HX4 := Aside0.mk (HX3.out.below hb); have HBH := Aside0.mk hb; clear hb)
                | (go_at_call 24; refine (HWX.out _).mono ?_; rintro e w5 ⟨rfl, hb⟩; have HBX := Aside0.mk (below_step HBW.out (below_step HBH.out hb)); have HBY := Aside0.mk (below_step HB3.out (below_step HBH.out hb)); clear hb))
                  refine ⟨⟨k + 1, by have := HKL.out; omega, by simp, by rw [HST.out], fun j hj => ?_, HBX.out⟩, ?_⟩
                  · by_cases e : j = k
                    · subst e; exact HOT2.out
                    · exact HOK.out j (by omega)
                  · show ws.length - ((k : Int) + 1).toNat < ws.length - (k : Int).toNat
                    have := HKL.out
                    omega
          · obtain rfl : k = ws.length := by omega
            have HE := Aside0.mk (E4.out HOT.out (by first | rfl | trivial) HOK.out)
            rw [List.take_length]
            generalize sumA ws 0 = sm at HE ⊢
            cases hs : sm == load with
            | false =>
              rw [hs] at HE
              go_wp2
              go_ret
              exact ⟨by rw [HE.out]; rfl, HB3.out⟩
            | true =>
              rw [hs] at HE
              have HLK := Aside0.mk (HLN.out HB5.out HCU.out)
              have HFA := Aside0.mk (fun (W : World) (x : K) (h : W.cell? ⟨w.heap.size, 4, none⟩ = some (.int .u64 mn)) => far_ x w.heap.size mn W h)
              generalize keysA qq = KL at HK HE HLK
              generalize farA mn = fa at HFA HE
              go_wp2_with (first
                | (go_at_call 32; refine (HK.out _ HQ3.out HB5.out HCU.out HT3.out).mono ?_; rintro e w5 ⟨v1, rfl, hR, hb⟩; obtain ⟨A5, c5, hv5, hlc5, hC5⟩ := Kd.R_reads hR; subst hv5; have HC5 := Aside0.mk hC5; have HX5 := Aside0.mk (HX3.out.below hb); have HBK := Aside0.mk (below_step HB3.out hb); clear hR hb hC5 hlc5)
                | (go_at_call 49; refine (contains_ fa A5 c5 KL _ w.heap.size HC5.out (by have := HLK.out; omega) (fun W x hW => HFA.out W x (HX5.out.below hW).c4)).mono ?_; rintro e w6 ⟨rfl, hb⟩; have HBF := Aside0.mk (below_step HBK.out hb); clear hb))
              go_ret
              exact ⟨by rw [HE.out]; rfl, HBF.out⟩
end Go.Proofs.YtnkhnnojdlgfjaaDoor.Qw
