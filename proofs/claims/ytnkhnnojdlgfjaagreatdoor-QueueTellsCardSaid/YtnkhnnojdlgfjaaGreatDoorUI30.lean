/- Parts of the proof, joined: R2. -/
import Derived.Test.YtnkhnnojdlgfjaaGreatDoorUI26
import Derived.Test.YtnkhnnojdlgfjaaGreatDoorUI29
set_option linter.unusedVariables false
set_option linter.unusedSimpArgs false
set_option maxHeartbeats 32000000
set_option maxRecDepth 100000
namespace Go.Proofs.YtnkhnnojdlgfjaaGreatDoor.Qw
open RowKit Tr Tk Tm Qu PA PB PC
variable {S : Nat → Prop} {A B : Option Addr} {c d : Nat} {w w' : World} {q : Q}
theorem rhere_ (id:Int) (h:QIn S A c B d w q) (h0:0≤id) (h1:id<q.t.ns.length):Calls Tryz.prog 64 #[.agg (qc A c B d q),.int .i64 id] w fun e w'=>e=.returned (.bool (yV q id))∧Below w.heap.size w w':=by
 obtain⟨⟨ns,rt⟩,cur,v,mn,load,ws⟩:=q;have HB:=Z (zB (Below.refl w.heap.size w) (.cells #[.int .i64 rt,.slice A ns.length c,.int .i64 cur,.int .u64 v,.int .u64 mn,.int .i64 load,.slice B ws.length d] 30));obtain⟨ad,e0,d0,d1,d2,d3,d4,d5⟩:=kV (Kd.zU h.trC HB.o) id h0 h1;clear d1 d2 d3 d4 d5 h;subst e0;replace h1:id<(ns.length:Int):=h1;show Calls Tryz.prog 64 #[.agg #[.int .i64 rt,.slice (some ad) ns.length c,.int .i64 cur,.int .u64 v,.int .u64 mn,.int .i64 load,.slice B ws.length d],.int .i64 id] w fun e w'=>e=.returned (.bool (cur==id || inA ⟨ns,rt⟩ id))∧Below w.heap.size w w'
 replace d0:(w.alloc (.cells #[.int .i64 rt,.slice (some ad) ns.length c,.int .i64 cur,.int .u64 v,.int .u64 mn,.int .i64 load,.slice B ws.length d] 30)).cell? (ad.add (id.toNat*6))=some (.bool (inA ⟨ns,rt⟩ id)):=d0;generalize inA ⟨ns,rt⟩ id=bi at d0⊢;generalize ws.length=n at d0 HB⊢;generalize ns.length=m at d0 HB h1⊢;rw[show(cur==id)=(id==cur)from Bool.beq_comm];cases e1:(id==cur)with
 | true=>
  rw[Bool.true_or];clear d0;go_enter Tryz.func64,Tryz.ntmps64;go_wp2;go_ret;exact⟨rfl,HB.o⟩
 | false=>
  rw[Bool.false_or];go_enter Tryz.func64,Tryz.ntmps64;go_wp2;go_ret;exact⟨rfl,HB.o⟩
theorem rodd_ (id:Int) (h:QIn S A c B d w q):Calls Tryz.prog 91 #[.agg (qc A c B d q),.int .i64 id] w fun e w'=>e=.returned (.bool (!(yG q id)))∧Below w.heap.size w w':=by
 obtain⟨⟨ns,rt⟩,cur,v,mn,load,ws⟩:=q;clear h;show Calls Tryz.prog 91 #[.agg #[.int .i64 rt,.slice A ns.length c,.int .i64 cur,.int .u64 v,.int .u64 mn,.int .i64 load,.slice B ws.length d],.int .i64 id] w fun e w'=>e=.returned (.bool (!(decide (0≤id)&&decide (id<(ws.length:Int)))))∧Below w.heap.size w w'
 generalize ws.length=n;generalize ns.length=m;have HB:=Z (zB (Below.refl w.heap.size w) (.cells #[.int .i64 rt,.slice A m c,.int .i64 cur,.int .u64 v,.int .u64 mn,.int .i64 load,.slice B n d] 30));by_cases h:id<0
 ·have e1:decide (0≤id)=false:=decide_eq_false (by omega);have e2:decide (id<0)=true:=decide_eq_true h;rw[e1,Bool.false_and];clear e1;go_enter Tryz.func91,Tryz.ntmps91;go_wp2;go_ret;exact⟨rfl,HB.o⟩
 have e1:decide (0≤id)=true:=decide_eq_true (by omega);have e2:decide (id<0)=false:=decide_eq_false h;rw[e1,Bool.true_and];have e3:(!(decide (id<(n:Int))))=decide ((n:Int)≤id):=by
  by_cases h2:id<(n:Int)
  ·rw[decide_eq_true h2,decide_eq_false (by omega)];rfl
  rw[decide_eq_false h2,decide_eq_true (by omega)];rfl
 rw[e3];clear e1 e3;go_enter Tryz.func91,Tryz.ntmps91;go_wp2;go_ret;exact⟨rfl,HB.o⟩
theorem ins_last {mn:Int}{x:K}:∀{o:List K},(∀y∈o,¬cvf mn x y<0)→ins mn o x=o++[x]
 | [],_=>zaD _ _
 | y::t,h=>by
  rw[jJ,if_neg (h y List.mem_cons_self),ins_last (fun z hz=>h z (List.mem_cons_of_mem _ hz))]
  rfl
theorem srt_SS {mn:Int}:∀(l o:List K),SS mn (o++l)→l.foldl (ins mn) o=o++l
 | [],o,_=>by simp
 | x::l,o,h=>by
  show l.foldl (ins mn) (ins mn o x)=_;have h2:SS mn ((o++[x])++l):=by simpa using h
  rw[ins_last (fun y hy e=>lt_asymm e ((List.pairwise_append.1 h.pw).2.2 y hy x List.mem_cons_self)),srt_SS l (o++[x]) h2];simp
theorem srt_row {q:Q}(hr:yJ q.t q.mn=true):srtA q.mn (rowK q)=yH q:=by
 obtain⟨a,ha,hS⟩:=wO hr;have hj:J q.mn q.t.ns.length q.t (keysOf q.t a.ids):=⟨⟨a,ha,rfl⟩,hS,rfl⟩;unfold srtA rowK;rw[qO hj,hj.walk];have h1:=srt_SS (mn:=q.mn) (keysOf q.t a.ids) [] (by simpa using hS);split
 ·simpa using h1
 ·rw[List.foldl_append,h1];rfl
theorem rkeys_ (h:QIn S A c B d w q) (hr:yJ q.t q.mn=true) (hc:-1≤q.cur):Calls Tryz.prog 65 #[.agg (qc A c B d q)] w fun e w'=>jU w (yH q) e w':=by
 have HQ:=Z h;have HL:=Z (zcG hr);have HW:=Z (show rowK q=if q.cur=-1 then yA q.t else yA q.t++[(q.v,q.cur)]from rfl);have HSO:=Z (fun(A0:Option Addr) (c0 n:Nat) (w:World) (hn:(rowK q).length=n) (h:kp.C w A0 (rowK q).length (rowK q))=>(show Calls Tryz.prog 111 #[.int .u64 q.mn,.slice A0 n c0] w fun e w'=>jU w (yH q) e w' by
  subst hn;rw[←srt_row hr];exact rsort_ q.mn A0 c0 (rowK q) w h (by have:=(zcG hr).1;omega)))
 generalize yH q=K1 at HSO⊢;generalize rowK q=R1 at HSO HW HL;clear h hr;obtain⟨⟨ns,rt⟩,cur,v,mn,load,ws⟩:=q;replace hc:-1≤cur:=hc;show Calls Tryz.prog 65 #[.agg #[.int .i64 rt,.slice A ns.length c,.int .i64 cur,.int .u64 v,.int .u64 mn,.int .i64 load,.slice B ws.length d]] w _;go_enter Tryz.func65,Tryz.ntmps65;go_upto_region 1 with(fail);have HX:=Z (QB.new w rt A ns.length c cur v mn load B ws.length d);have HB:=Z (zB (Below.refl w.heap.size w) (.cells #[.int .i64 rt,.slice A ns.length c,.int .i64 cur,.int .u64 v,.int .u64 mn,.int .i64 load,.slice B ws.length d] 30));generalize w.alloc (.cells #[.int .i64 rt,.slice A ns.length c,.int .i64 cur,.int .u64 v,.int .u64 mn,.int .i64 load,.slice B ws.length d] 30)=W1 at HX HB⊢;have a0:=HX.o.c0;have a1:=HX.o.c1;have HQ1:=Z (HQ.o.below HB.o);go_upto_region 2 with(go_at_call 110;refine(rWalk_ (t:=⟨ns,rt⟩) A c HQ1.o.trC HQ1.o.tl).mono ?_;rintro e w2 ⟨v1,rfl,hR,hb⟩;obtain⟨A2,c2,hv2,hlc2,hC2⟩:=Kd.yE hR;subst hv2;have HC2:=Z hC2;have HX2:=Z (HX.o.below hb);have HB2:=Z (zD HB.o hb);have HB12:=Z hb;clear hR hb hC2 hlc2);clear a0 a1;have a2:=HX2.o.c2;have a4:=HX2.o.c4;have HWL:=Z HL.o.2;replace HW:zA (R1=if cur=-1 then yA ⟨ns,rt⟩else yA ⟨ns,rt⟩++[(v,cur)]):=HW;replace HWL:zA ((yA ⟨ns,rt⟩).length≤64):=HWL;replace HC2:zA (kp.C w2 A2 (yA ⟨ns,rt⟩).length (yA ⟨ns,rt⟩)):=HC2;generalize yA ⟨ns,rt⟩=L1 at HW HWL HC2⊢;by_cases b:cur=-1
 ·have HE:=Z (HW.o.trans (if_pos b));have b1:decide (0≤cur)=false:=decide_eq_false (by omega);have b2:¬(0≤cur):=by omega
  clear b hc;go_wp2_with (go_at_call 111;refine(HSO.o A2 c2 L1.length _ (by rw[HE.o]) (by rw[HE.o];exact HC2.o)).mono ?_;rintro e w3 ⟨v3,rfl,hR3,hb3⟩;have HR3:=Z hR3;have HB3:=Z (zD HB2.o hb3);have HZ3:=Z (HB2.o.size);clear hR3 hb3);go_ret;exact⟨_,rfl,Kd.qW HR3.o HZ3.o,HB3.o⟩
 have HE:=Z (HW.o.trans (if_neg b));have b1:decide (0≤cur)=true:=decide_eq_true (by omega);have b2:0≤cur:=by omega
 clear b;go_upto_region 3 with(fail);clear a2 a4;replace HX2:=Z (HX2.o.below (Below.drew (Below.refl _ _)));replace HC2:=Z (Kd.zU HC2.o (Below.drew (Below.refl _ _)));replace HB2:=Z (Below.drew HB2.o);refine qK (n:=10) (S:=fun w'=>w'.cell? ⟨w.heap.size,2,none⟩=some (.int .i64 cur)∧w'.cell? ⟨w.heap.size,3,none⟩=some (.int .u64 v)) (ds:=[]) #[false,false,false,false,false,false,false,false,false,false] (by kernel_rfl) rfl rfl ⟨HX2.o.c2,HX2.o.c3⟩ (fun hHeld=>?_);generalize World.drew _=V0 at HX2 HB2 HC2 hHeld⊢;refine pu_ 0 10 ?_;refine pu_ 2 12 ?_;refine ld_ 3 13 hHeld ?_;refine pu_ 4 14 ?_;refine ld_ 5 15 hHeld ?_;refine pu_ 6 16 ?_;refine join_ (σ:=Value × Value) 2 #[true,true,true,true,true,true,true,true,false,false] (fun s_=>[(11,s_.1),(17,s_.2)]) (fun s_ w'=>QB rt A ns.length c cur v mn load B ws.length d w' w.heap.size∧Below V0.heap.size V0 w'∧kp.R 38 w' V0.heap.size (fun k=>some k≠(s_.2:Value).ownBlock) s_.1 L1∧kp.R 38 w' V0.heap.size (fun _=>True) s_.2 [(v,cur)]) (fun s_ w' hF=>?_) (fun hCont=>?_);rotate_left
 ·refine two_ (i:=1) (j:=7) (Ni:=some 11) (Nj:=some 17) #[true,true,true,true,true,true,true,false,false,false] #[true,false,true,true,true,true,true,true,false,false] rfl rfl rfl rfl (by kernel_rfl) (by decide) (by decide) (fun K hK=>?_) (fun K hK=>?_)
  ·refine Kd.xI kp (Rr:=fun p cs=>kp.K V0 p cs) (w0:=V0) V0.heap.size (by rfl) (.const (.slice none 0 0)) (.tmp 10) 32 38 (.agg #[(.int .u64 0),(.int .i64 0)]) 16 rfl Tryz.underlying32 kJ rfl (show 0<kp.sz by show 0<2;omega) (by omega) (.slice none 0 0) ([]:List Tk.K) L1 A2 L1.length c2 (fun _=>True) (fun _=>False) rfl rfl (Kd.jT _ _ _ _ _) HC2.o (fun p cs h=>by rw[vZ h];exact jD _ _ _ _) (fun _ h=>h.elim) (fun _ _=>trivial) (Below.refl _ _) (Nat.le_refl _) (by have:=HWL.o;simp;omega) ?_;intro v1 w1 hR1 hB1 hg1 _;have N1:=HX2.o.below hB1;refine hK.out _ _ ⟨N1.c2,N1.c3⟩ (fun hHeld=>?_);clear hK K;refine xG (a':=?_) ?_ ?_;rotate_left
   ·(show Act.put _ (some 11) _=_;(simp only[Act.put,List.setIfInBounds_toArray,List.set_cons_zero,List.set_cons_succ,yO,yP];rfl))
   refine one_ (i:=7) (N:=some 17) #[true,true,true,true,true,true,true,true,false,false] rfl rfl (by kernel_rfl) (by decide) (fun K hK=>?_);refine Kd.jR kp (w0:=V0) V0.heap.size 38 ?hg (N:=17) ?hd (xs:=([(v,cur)]:List (Int × Int))) (inner:=[.int .u64 v,.int .i64 cur]) (ok:=fun _=>True) (okp:=fun _=>True) ?hr ?hp (fun _ hk=>hk) trivial hB1 hB1.size (by simp) ?_;(case hd=>rfl);(case hg=>rfl);(case hr=>first|(go_simp;done)|(go_simp;rfl));(case hp=>exact(by have h_:=Reps.snoc (Reps.none (kp.M w1 V0.heap.size (fun _=>True)) 2) (jD w1 V0.heap.size (fun _=>True) (v,cur)) rfl;exact h_))
   intro v2 w2 hR2 hB2 hg2 hn2;have N2:=HX2.o.below hB2;refine hK.out _ _ ⟨N2.c2,N2.c3⟩ (fun hHeld=>?_);clear hK K;refine xG (a':=?_) ?_ ?_;rotate_left
   ·(show Act.put _ (some 17) _=_;(simp only[Act.put,List.setIfInBounds_toArray,List.set_cons_zero,List.set_cons_succ,yO,yP];rfl))
   obtain⟨b2,e2,l2⟩:=hn2;have hlt:=Kd.R_lt hR1;exact xG (by simp only[wY,Act.put,List.setIfInBounds_toArray,List.set_cons_zero,List.set_cons_succ]) (hCont (v1,v2) _ ⟨N2,hB2,Kd.zbg rfl (Kd.zcR hR1 hg2 (fun _ _ h=>by cases h)) (fun k hk he=>by have:=hlt k hk;rw[show(v2:Value).ownBlock=some b2 from e2]at he;have:=Option.some.inj he;omega),hR2⟩)
  ·refine Kd.jR kp (w0:=V0) V0.heap.size 38 ?hg (N:=17) ?hd (xs:=([(v,cur)]:List (Int × Int))) (inner:=[.int .u64 v,.int .i64 cur]) (ok:=fun _=>True) (okp:=fun _=>True) ?hr ?hp (fun _ hk=>hk) trivial (Below.refl _ _) (Nat.le_refl _) (by simp) ?_;(case hd=>rfl);(case hg=>rfl);(case hr=>first|(go_simp;done)|(go_simp;rfl));(case hp=>exact(by have h_:=Reps.snoc (Reps.none (kp.M V0 V0.heap.size (fun _=>True)) 2) (jD V0 V0.heap.size (fun _=>True) (v,cur)) rfl;exact h_))
   intro v2 w1 hR2 hB1 hg1 hn2;have N1:=HX2.o.below hB1;refine hK.out _ _ ⟨N1.c2,N1.c3⟩ (fun hHeld=>?_);clear hK K;refine xG (a':=?_) ?_ ?_;rotate_left
   ·(show Act.put _ (some 17) _=_;(simp only[Act.put,List.setIfInBounds_toArray,List.set_cons_zero,List.set_cons_succ,yO,yP];rfl))
   refine one_ (i:=1) (N:=some 11) #[true,true,true,true,true,true,true,true,false,false] rfl rfl (by kernel_rfl) (by decide) (fun K hK=>?_);refine Kd.xI kp (Rr:=fun p cs=>kp.K w1 p cs) (w0:=V0) V0.heap.size (by rfl) (.const (.slice none 0 0)) (.tmp 10) 32 38 (.agg #[(.int .u64 0),(.int .i64 0)]) 16 rfl Tryz.underlying32 kJ rfl (show 0<kp.sz by show 0<2;omega) (by omega) (.slice none 0 0) ([]:List Tk.K) L1 A2 L1.length c2 (fun _=>True) (fun _=>False) rfl rfl (Kd.jT _ _ _ _ _) (Kd.zU HC2.o hB1) (fun p cs h=>by rw[vZ h];exact jD _ _ _ _) (fun _ h=>h.elim) (fun _ _=>trivial) hB1 hB1.size (by have:=HWL.o;simp;omega) ?_;intro v1 w2 hR1 hB2 hg2 hat;have N2:=HX2.o.below hB2;refine hK.out _ _ ⟨N2.c2,N2.c3⟩ (fun hHeld=>?_);clear hK K;refine xG (a':=?_) ?_ ?_;rotate_left
   ·(show Act.put _ (some 11) _=_;(simp only[Act.put,List.setIfInBounds_toArray,List.set_cons_zero,List.set_cons_succ,yO,yP];rfl))
   obtain⟨b2,e2,l2⟩:=hn2;have hlt:=Kd.R_lt hR2;exact xG (by simp only[wY,Act.put,List.setIfInBounds_toArray,List.set_cons_zero,List.set_cons_succ]) (hCont (v1,v2) _ ⟨N2,hB2,Kd.zbg rfl hR1 (fun k hk he=>by
    have h1:=hlt k he.symm;rcases hat with h|⟨b,h,hb⟩
    ·rw[hk]at h;simp[Value.ownBlock]at h
    ·rw[hk]at h;have:=Option.some.inj h;omega),Kd.zcR hR2 hg2 (fun _ _ h=>by simp[Value.ownBlock]at h)⟩)
 obtain⟨s1,s2⟩:=s_;obtain⟨hN,hBV,hR1,hR2⟩:=hF;simp only at hN hBV hR1 hR2;obtain⟨A9,c9,rfl,hl9,hC9⟩:=Kd.yE hR2;refine xG (a':=?_) ?_ ?_;rotate_left
 ·(simp only[wY,Act.put,List.setIfInBounds_toArray,List.set_cons_zero,List.set_cons_succ];rfl)
 refine one_ (i:=8) (N:=some 18) #[true,true,true,true,true,true,true,true,true,false] rfl rfl (by kernel_rfl) (by decide) (fun K hK=>?_);refine Kd.xI kp (Rr:=fun p cs=>kp.K w' p cs) (w0:=V0) V0.heap.size (by rfl) (.tmp 11) (.tmp 17) 32 38 (.agg #[(.int .u64 0),(.int .i64 0)]) 16 rfl Tryz.underlying32 kJ rfl (show 0<kp.sz by show 0<2;omega) (by omega) s1 L1 [(v,cur)] A9 1 c9 (fun k=>some k≠(.slice A9 1 c9:Value).ownBlock) (fun _=>False) rfl rfl hR1 hC9 (fun p cs h=>by rw[vZ h];exact jD _ _ _ _) (fun _ h=>h.elim) (fun k hk he=>by have:=Kd.R_lt hR2 k he.symm;omega) hBV hBV.size (by have:=HWL.o;simp;omega) ?_;intro v3 w3 hR3 hB3 _ _;have N3:=HX2.o.below hB3;refine hK.out _ _ ⟨N3.c2,N3.c3⟩ (fun hHeld=>?_);clear hK K;refine xG (a':=?_) ?_ ?_;rotate_left
 ·(show Act.put _ (some 18) _=_;(simp only[Act.put,List.setIfInBounds_toArray,List.set_cons_zero,List.set_cons_succ,yO,yP];rfl))
 refine pu_ 9 3 ?_;refine qG (by kernel_rfl) ?_;obtain⟨A3,c3,hv3,hlc3,hC3⟩:=Kd.yE hR3;subst hv3;have HC3:=Z hC3;have HB4:=Z (zD HB2.o hB3);have hw4:=HB4.o.size;have a4:=N3.c4;clear hC3 hlc3 hHeld hR3 hB3 hR2 hC9 hl9 hR1 hBV hN N3;obtain⟨n3,hn3⟩:∃n3,n3=(L1++[(v,cur)]).length:=⟨_,rfl⟩;rw[←hn3]at HC3⊢;have HN3:=Z hn3;clear hn3;go_wp2_with (go_at_call 111;refine(HSO.o A3 c3 n3 _ (by rw[HE.o,HN3.o]) (by rw[HE.o,←HN3.o];exact HC3.o)).mono ?_;rintro e w4 ⟨v3,rfl,hR4,hb4⟩;have HR4:=Z hR4;have HB5:=Z (zD HB4.o hb4);clear hR4 hb4);go_ret;exact⟨_,rfl,Kd.qW HR4.o hw4,HB5.o⟩
end Go.Proofs.YtnkhnnojdlgfjaaGreatDoor.Qw
