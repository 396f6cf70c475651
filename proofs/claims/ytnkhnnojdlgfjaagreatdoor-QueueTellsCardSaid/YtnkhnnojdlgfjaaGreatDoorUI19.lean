/- Parts of the proof, joined: Div. -/
import Derived.RangeFuncNested
import Derived.RangeFuncBound
import Derived.RangeFuncCalls
import Derived.RangeFuncLeaves
import Derived.RangeFuncBox
import Derived.RangeFuncFrom
import Derived.Shelf.Abstract
import Derived.Shelf.RegionOpen
import Derived.WalkKit
import Derived.OwnWalkIn
import Derived.TacticsInMore
import Derived.LoopNIn
import Derived.LoopIn
import Derived.Outline
import Derived.Lib.Hide
import Derived.Test.YtnkhnnojdlgfjaaGreatDoorProg
import Derived.Test.YtnkhnnojdlgfjaaGreatDoorUI18
set_option linter.unusedVariables false
set_option linter.unusedSimpArgs false
set_option maxHeartbeats 32000000
set_option maxRecDepth 100000
namespace Go.Proofs.YtnkhnnojdlgfjaaGreatDoor.Wide
open RowKit Shelf WideMath
attribute [local go_sem] Oper.semAt_some
def KB (s:Nat) (W W':World):Prop:=∀v,W.cell? ⟨s,0,none⟩=some v→W'.cell? ⟨s,0,none⟩=some v
theorem KB_t {s:Nat}{A B C:World}(h:KB s A B) (k:KB s B C):KB s A C:=fun v hv=>k v (h v hv)
theorem KB_b {s:Nat}{w:World}(W:World) (l:Nat) (o o':Obj) (_:w.heap.size≤l) (h:W.heap[l]?=some o) (hc:o.isCells=false) (_:o.isWalk=false):KB s W (W.putObj l o'):=
 fun _ hv=>cell_kept hv (grownBy_putObj' _ l _) (fun r e=>by cases e;exact⟨_,h,hc⟩)
theorem zbi {s b:Nat}(hne:b≠s) (W:World) (u:Value):KB s W (W.setCell ⟨b,0,none⟩ u):=fun v hv=>by
 exact(World.cell?_setCell_other W _ _ _ (by intro e;cases e;exact hne rfl)).trans hv
/-- the iterator's closure: 64 rounds, a bit each, the highest one first -/
theorem down1_in (F:Fence) (n:Nat) (h7:F.fn 157) (hro:F.round=none) (hn:1≤n) (l Bs:Nat) (z:Int) (hz0:0≤z) (hz1:z≤18446744073709551615) (J Jx:List B1→World→Prop)
  (hY:∀pre (x:B1) W,J pre W→pre.length<64→YieldAt F (n-1) Tryz.prog l #[.int .u64 x.1] W fun e W'=>
   (e=.returned (.bool true)∧J (pre++[x]) W'∧KB Bs W W')∨(e=.returned (.bool false)∧Jx (pre++[x]) W'))
  (W:World) (hBs:W.cell? ⟨Bs,0,none⟩=some (.int .u64 z)) (h0:J [] W) :
  CallsIn F n Tryz.prog 157 #[.func (.yield l) #[] #[],.pointer (some ⟨Bs,0,none⟩)] W fun e W'=>(∃v,e=.returned v)∧
   ((∃ys,ys=bitsOf z 64∧J ys W')∨(∃pre,True∧Jx pre W')):=by
 refine callsIn_of_wp Tryz.func157 rfl h7 ?_ hro;simp only[Tryz.ntmps157,List.size_toArray,List.length_cons,List.length_nil,Nat.reduceAdd,Nat.reduceSub,Array.replicate_succ,Array.replicate_zero,List.push_toArray,List.append_toArray,List.nil_append,List.cons_append]
 gi_wp2
 gi_loopw [3] (fun i wr=>∃k:Nat,k≤64∧i=.int .i64 (63-(k:Int))∧J (bitsOf z k) wr∧KB Bs W wr)
  (fun i _=>(intOf i+1).toNat)
 case atStart=>exact⟨0,by omega,rfl,h0,fun _ hv=>hv⟩
 case round=>
  obtain⟨k,hk,rfl,hJs,hnx⟩:=hrel;have hcx:wr.cell? ⟨Bs,0,none⟩=some (.int .u64 z):=hnx _ hBs;by_cases hlt:k<64
  ·obtain⟨fn,tmps,assign,body,hy,hR⟩:=hY _ (bit z k) wr hJs (by rw[zat];exact hlt);have hbit:bits BinOp.and IntKind.u64 (z / 2 ^ (63-k)) 1=(bit z k).val:=by
    have hp:(0:Int)<2 ^ (63-k):=Int.pow_pos (by decide);refine and1 _ (Int.ediv_nonneg hz0 (Int.le_of_lt hp)) ?_;exact Int.lt_of_le_of_lt (Int.ediv_le_self _ hz0) (by omega)
   gi_wp2
   refine hR.mono ?_;rintro e W3 (⟨rfl,hJ3,hk3⟩|⟨rfl,hJx3⟩)
   ·-- the round goes on
    gi_wp2
    go_roundw
    case rel=>exact⟨k+1,by omega,by go_num,by rw[zaX];exact hJ3,KB_t hnx hk3⟩
    case measure=>simp[intOf];omega
   ·gi_wp2
    refine bodyPost_ret (results_none rfl _ _ _) rfl ?_;exact⟨⟨_,rfl⟩,.inr ⟨_,trivial,hJx3⟩⟩
  ·obtain rfl:k=64:=by omega
   gi_wp2
   go_end0
   exact⟨⟨_,rfl⟩,.inl ⟨_,rfl,hJs⟩⟩
/-- wide.down: the number is boxed; the function value captures the box. -/
theorem down_in (F:Fence) (n:Nat) (h5:F.fn 148) (hro:F.round=none) (z:Int) (w:World) :
  CallsIn F n Tryz.prog 148 #[.int .u64 z] w fun e w'=>e=.returned (.func (.func 157) #[] #[.pointer (some ⟨w.heap.size,0,none⟩)])∧w'=w.alloc (.cells #[.int .u64 z] 22):=by
 refine callsIn_of_wp Tryz.func148 rfl h5 ?_ hro;simp only[Tryz.ntmps148,List.size_toArray,List.length_cons,List.length_nil,Nat.reduceAdd,Nat.reduceSub,Array.replicate_succ,Array.replicate_zero,List.push_toArray,List.append_toArray,List.nil_append,List.cons_append]
 gi_wp2
 go_ret;exact⟨rfl,rfl⟩
theorem down_stops (F:Fence) (n:Nat) (h7:F.fn 157) (hro:F.round=none) (hn:1≤n) (Bs:Nat) (z:Int) (hz0:0≤z) (hz1:z≤18446744073709551615) (w:World) (hBs:Bs<w.heap.size)
  (hc:w.cell? ⟨Bs,0,none⟩=some (.int .u64 z)) :
  SeqStopsK F n Tryz.prog 157 #[.pointer (some ⟨Bs,0,none⟩)] (fun x:B1=>#[Value.int .u64 x.1]) (KB Bs) (fun ys=>ys=bitsOf z 64) (fun _=>True) 64 w:=fun l J Jx W hW _ _ hY h0=>
 down1_in F n h7 hro hn l Bs z hz0 hz1 J Jx hY W ((hW.cell (p:=⟨Bs,0,none⟩) hBs).trans hc) h0
theorem below_drew_l {B:Nat}{w W:World}(h:Below B w W):Below B w W.drew:=⟨h.os,h.tape,h.output,h.size,h.block⟩
def Inv (w:World) (h d:Int) (pre:List B1) (W:World):Prop:=
 ((Boxed W w.heap.size 22 (.int .u64 d)∧Boxed W (w.heap.size+1) 22 (.int .u64 (num h pre / d)))∧Boxed W (w.heap.size+1+1) 22 (.int .u64 (num h pre%d)))∧Below w.heap.size w W
theorem end_yes {w W:World}{h d q r q1 q2 r1 r2:Int}{ys:List B1}(hD:Boxed W w.heap.size 22 (.int .u64 d)) (hQ:Boxed W (w.heap.size+1) 22 (.int .u64 q)) (hR:Boxed W (w.heap.size+1+1) 22 (.int .u64 r)) (hB:Below w.heap.size w W)
  (eq:num h ys / d=q2) (er:num h ys%d=r2) {W':World}
  (hW:(((W.setCell ⟨w.heap.size+1+1,0,none⟩ (.int .u64 r1)).setCell ⟨w.heap.size+1,0,none⟩ (.int .u64 q1)).setCell ⟨w.heap.size+1+1,0,none⟩ (.int .u64 r2)).setCell ⟨w.heap.size+1,0,none⟩ (.int .u64 q2)=W') :
  KeepsOthers W W'∧KB (w.heap.size+1+1+1) W W'∧Inv w h d ys W':=by
 subst hW;refine⟨(((KeepsOthers.setCell _ _ _).trans (KeepsOthers.setCell _ _ _)).trans (KeepsOthers.setCell _ _ _)).trans (KeepsOthers.setCell _ _ _),
  KB_t (KB_t (KB_t (zbi (by omega) _ _) (zbi (by omega) _ _)) (zbi (by omega) _ _)) (zbi (by omega) _ _),⟨⟨?_,?_⟩,?_⟩,?_⟩
 ·exact(((hD.other (by omega) _).other (by omega) _).other (by omega) _).other (by omega) _
 ·rw[eq];exact(((hQ.other (by omega) _).set (.int .u64 q1)).other (by omega) _).set _
 ·rw[er];exact(((hR.set (.int .u64 r1)).other (by omega) _).set (.int .u64 r2)).other (by omega) _
 ·exact((((hB.setCell (p:=⟨w.heap.size+1+1,0,none⟩) (by simp;omega) _).setCell (p:=⟨w.heap.size+1,0,none⟩) (by simp) _).setCell (p:=⟨w.heap.size+1+1,0,none⟩) (by simp;omega) _).setCell (p:=⟨w.heap.size+1,0,none⟩) (by simp) _)
theorem end_no {w W:World}{h d q r q1 r1:Int}{ys:List B1}(hD:Boxed W w.heap.size 22 (.int .u64 d)) (hQ:Boxed W (w.heap.size+1) 22 (.int .u64 q)) (hR:Boxed W (w.heap.size+1+1) 22 (.int .u64 r)) (hB:Below w.heap.size w W)
  (eq:num h ys / d=q1) (er:num h ys%d=r1) {W':World}
  (hW:(W.setCell ⟨w.heap.size+1+1,0,none⟩ (.int .u64 r1)).setCell ⟨w.heap.size+1,0,none⟩ (.int .u64 q1)=W') :
  KeepsOthers W W'∧KB (w.heap.size+1+1+1) W W'∧Inv w h d ys W':=by
 subst hW;refine⟨(KeepsOthers.setCell _ _ _).trans (KeepsOthers.setCell _ _ _),KB_t (zbi (by omega) _ _) (zbi (by omega) _ _),⟨⟨?_,?_⟩,?_⟩,?_⟩
 ·exact(hD.other (by omega) _).other (by omega) _
 ·rw[eq];exact(hQ.other (by omega) _).set _
 ·rw[er];exact(hR.set (.int .u64 r1)).other (by omega) _
 ·exact(hB.setCell (p:=⟨w.heap.size+1+1,0,none⟩) (by simp;omega) _).setCell (p:=⟨w.heap.size+1,0,none⟩) (by simp) _
/-- wide.Div, where it can be told -/
theorem div_in (F:Fence) (n:Nat) (h14:F.fn 136) (h5:F.fn 148) (h7:F.fn 157) (hro:F.round=none) (hn:3≤n) (h l d:Int) (hh0:0≤h) (hl0:0≤l) (hl1:l≤18446744073709551615) (hd0:0<d) (hd1:d≤18446744073709551615) (hlt:h<d) (w:World) :
  CallsIn F n Tryz.prog 136 #[.int .u64 h,.int .u64 l,.int .u64 d] w fun e W'=>
   e=.returned (.tuple #[.int .u64 ((h*18446744073709551616+l) / d),.int .u64 ((h*18446744073709551616+l)%d),.bool true])∧Below w.heap.size w W':=by
 have h1:1≤n:=by omega
 refine callsIn_of_wp_marks Tryz.func136 rfl h14 ?_ hro;simp only[Tryz.ntmps136,List.size_toArray,List.length_cons,List.length_nil,Nat.reduceAdd,Nat.reduceSub,Array.replicate_succ,Array.replicate_zero,List.push_toArray,List.append_toArray,List.nil_append,List.cons_append]
 gi_wp2_with (gi_at_call 148;refine(down_in F (n-1) h5 hro _ _).mono ?_;rintro e w' ⟨rfl,rfl⟩)
 obtain⟨s,hs⟩:∃s,s=w.heap.size:=⟨_,rfl⟩;have bD0:=Boxed.new w 22 (.int .u64 d);have bQ0:=Boxed.new (w.alloc (.cells #[.int .u64 d] 22)) 22 (.int .u64 0);have bR0:=Boxed.new ((w.alloc (.cells #[.int .u64 d] 22)).alloc (.cells #[.int .u64 0] 22)) 22 (.int .u64 h);have bN0:=Boxed.new (((w.alloc (.cells #[.int .u64 d] 22)).alloc (.cells #[.int .u64 0] 22)).alloc (.cells #[.int .u64 h] 22)) 22 (.int .u64 l);have bD:=((bD0.alloc (.cells #[.int .u64 0] 22)).alloc (.cells #[.int .u64 h] 22)).alloc (.cells #[.int .u64 l] 22);have bQ:=(bQ0.alloc (.cells #[.int .u64 h] 22)).alloc (.cells #[.int .u64 l] 22);have bR:=bR0.alloc (.cells #[.int .u64 l] 22);simp only[World.size_alloc]at bD bQ bR bN0;have hB0:Below w.heap.size w ((((w.alloc (.cells #[.int .u64 d] 22)).alloc (.cells #[.int .u64 0] 22)).alloc (.cells #[.int .u64 h] 22)).alloc (.cells #[.int .u64 l] 22)):=
  ((((Below.refl _ w).alloc (Nat.le_refl _) _).alloc (by simp) _).alloc (by simp;omega) _).alloc (by simp;omega) _
 refine wpIn_rangeFunc_ownF hro h1 (gf:=157) (lb:=#[.pointer (some ⟨w.heap.size+1+1+1,0,none⟩)]) rfl h7 (enters_of Tryz.func157 (by kernel_rfl) rfl)
  (down_stops F (n-1) h7 hro (by omega) (w.heap.size+1+1+1) l hl0 hl1 _ (by simp) bN0.cell) KB_t KB_b (Below.refl _ _) (fun _=>rfl)
  (Inv w h d)
  (fun _ _ _=>False)
  (OwnFrom.and (OwnFrom.and (OwnFrom.and (Own.from (boxed_own _ _ (fun _=>.int .u64 d)) _) (Own.from (boxed_own _ _ (fun pre=>.int .u64 (num h pre / d))) _)) (Own.from (boxed_own _ _ (fun pre=>.int .u64 (num h pre%d))) _)) (ownFrom_below (Nat.le_refl _) (by simp;omega)))
  (fun _ _ _ _ _ hs _ _=>hs)
  ⟨⟨⟨bD,by rw[show num h [] / d=0 from Int.ediv_eq_zero_of_lt hh0 hlt];exact bQ⟩,by rw[show num h []%d=h from Int.emod_eq_of_lt hh0 hlt];exact bR⟩,hB0⟩
  (fun x=>{ tmps:=#[.int .u64 h,.int .u64 l,.int .u64 d,undef,undef,.pointer (some ⟨w.heap.size,0,none⟩),.pointer (some ⟨w.heap.size+1,0,none⟩),.pointer (some ⟨w.heap.size+1+1,0,none⟩),.bool false,.int .u64 x.1,undef,.int .u64 d,.int .u64 h,.bool (decide (d≤h)),.int .u64 h,.int .u64 l,.func (.func 157) #[] #[.pointer (some ⟨w.heap.size+1+1+1,0,none⟩)],.int .u64 x.1,undef,undef,undef,undef,undef,undef,undef,undef,undef,undef,undef,undef,undef,undef,undef,undef,undef,undef,undef,undef,undef,undef],defers:=[] }) ?assign ?body ?done ?stop
 case assign=>
  intro l x W K hK
  gi_wp2
  exact hK
 case body=>
  rintro l pre x W ⟨⟨⟨hD,hQ⟩,hR⟩,hB⟩ hpl;have hq0:0≤num h pre / d:=Int.ediv_nonneg (num_lo h hh0 pre) (by omega);have hq1:=quot_hi hd0 hlt pre hpl;have hr0:0≤num h pre%d:=Int.emod_nonneg _ (by omega);have hr1:num h pre%d<d:=Int.emod_lt_of_pos _ hd0;have HY:=Lib.hid (fun b0 b1 hh=>@step_yes (num h pre) x.1 d hd0 b0 b1 hh);have HN:=Lib.hid (fun b0 hh=>@step_no (num h pre) x.1 d hd0 b0 hh);have HS:=Lib.hid (num_snoc h pre x);have hx0:=x.2.1;have hx1:=x.2.2;have hcD:=hD.cell;have hfD:=hD.frozen;have hcQ:=hQ.cell;have hfQ:=hQ.frozen;have hcR:=hR.cell;have hfR:=hR.frozen;generalize num h pre / d=q at *
  generalize num h pre%d=r at *
  have ho1:bits .or .u64 (q*2) 1=q*2+1:=or1 _ _ (by omega) (by omega) (by omega) (by omega) (by omega);by_cases hA:9223372036854775808≤r
  ·obtain⟨r2,hr2⟩:∃r2,IntKind.u64.wrap (r*2)=r2:=⟨_,rfl⟩;have hr2v:r2=2*r-18446744073709551616:=by rw[←hr2,wu];omega
   obtain⟨r3,hr3⟩:∃r3,bits .or .u64 r2 x.1=r3:=⟨_,rfl⟩;have hr3v:r3=2*r+x.1-18446744073709551616:=by rw[←hr3,or1 _ _ (by omega) (by omega) (by omega) hx0 hx1,hr2v];omega
   obtain⟨r4,hr4⟩:∃r4,IntKind.u64.wrap (r3-d)=r4:=⟨_,rfl⟩;have hr4v:r4=2*r+x.1-d:=by rw[←hr4,wu,hr3v];omega
   have hov:(r / 9223372036854775808==1)=true:=by simp;omega
   obtain⟨e1,e2⟩:=HY.out hx0 hx1 (by omega);have E1:=Lib.hid e1;have E2:=Lib.hid (e2.trans hr4v.symm);clear hr2v hr3v hr4v e1 e2 HY HN
   gi_wp2
   exact end_yes hD hQ hR hB (by rw[HS.out];exact E1.out.trans (by omega)) (by rw[HS.out];exact E2.out) rfl
  ·have hov:(r / 9223372036854775808==1)=false:=by simp;omega
   obtain⟨r3,hr3⟩:∃r3,bits .or .u64 (r*2) x.1=r3:=⟨_,rfl⟩;have hr3v:r3=2*r+x.1:=by rw[←hr3,or1 _ _ (by omega) (by omega) (by omega) hx0 hx1];omega
   have hr30:0≤r3:=by omega
   have hr31:r3≤18446744073709551615:=by omega
   by_cases hC:d≤r3
   ·obtain⟨e1,e2⟩:=HY.out hx0 hx1 (by omega);have E1:=Lib.hid e1;have E2:=Lib.hid (show(2*num h pre+x.1)%d=r3-d by omega);clear hr3v e1 e2 HY HN
    gi_wp2
    exact end_yes hD hQ hR hB (by rw[HS.out];exact E1.out.trans (by omega)) (by rw[HS.out];exact E2.out) rfl
   ·obtain⟨e1,e2⟩:=HN.out hx0 (by omega);have E1:=Lib.hid e1;have E2:=Lib.hid (show(2*num h pre+x.1)%d=r3 by omega);clear hr3v e1 e2 HY HN
    gi_wp2
    exact end_no hD hQ hR hB (by rw[HS.out];exact E1.out.trans (by omega)) (by rw[HS.out];exact E2.out) rfl
 case done=>
  rintro D ys W hDD rfl ⟨⟨⟨_,hQ⟩,hR⟩,hB⟩ hK;rw[num_all h l hl0 (by omega)]at hQ hR;obtain⟨q,hq⟩:∃q,(h*18446744073709551616+l) / d=q:=⟨_,rfl⟩;obtain⟨r,hr⟩:∃r,(h*18446744073709551616+l)%d=r:=⟨_,rfl⟩;rw[hq]at hQ;rw[hr]at hR;have HQ:=Lib.hid hq;have HR:=Lib.hid hr;clear hq hr;have hcQ:=hQ.cell;have hfQ:=hQ.frozen;have hcR:=hR.cell;have hfR:=hR.frozen
  gi_wp2
  gi_region
  all_goals
   gi_wp2
   have hK':=((KeepsOthers.setCell W ⟨w.heap.size+1,0,none⟩ (.int .u64 q)).trans (KeepsOthers.setCell _ ⟨w.heap.size+1+1,0,none⟩ (.int .u64 r))).same D _ hK rfl;have bQ1:=(hQ.set (.int .u64 q)).other (B':=w.heap.size+1+1) (by omega) (.int .u64 r);have bR1:=(hR.other (B':=w.heap.size+1) (by omega) (.int .u64 q)).set (.int .u64 r);have hB1:=(hB.setCell (p:=⟨w.heap.size+1,0,none⟩) (by simp) (.int .u64 q)).setCell (p:=⟨w.heap.size+1+1,0,none⟩) (by simp;omega) (.int .u64 r);refine⟨by simp,.inl ⟨_,_,rfl,run_takeDeferred hK',?_⟩⟩;have c6:(((W.setCell ⟨w.heap.size+1,0,none⟩ (.int .u64 q)).setCell ⟨w.heap.size+1+1,0,none⟩ (.int .u64 r)).drew.putObj D (.deferred none)).cell? ⟨w.heap.size+1,0,none⟩=some (.int .u64 q):=
    cell_kept (W:=((W.setCell ⟨w.heap.size+1,0,none⟩ (.int .u64 q)).setCell ⟨w.heap.size+1+1,0,none⟩ (.int .u64 r)).drew) bQ1.cell (grownBy_putObj' _ D (.deferred none)) (fun r e=>by cases e;exact⟨_,hK',rfl⟩)
   have c7:(((W.setCell ⟨w.heap.size+1,0,none⟩ (.int .u64 q)).setCell ⟨w.heap.size+1+1,0,none⟩ (.int .u64 r)).drew.putObj D (.deferred none)).cell? ⟨w.heap.size+1+1,0,none⟩=some (.int .u64 r):=
    cell_kept (W:=((W.setCell ⟨w.heap.size+1,0,none⟩ (.int .u64 q)).setCell ⟨w.heap.size+1+1,0,none⟩ (.int .u64 r)).drew) bR1.cell (grownBy_putObj' _ D (.deferred none)) (fun r e=>by cases e;exact⟨_,hK',rfl⟩)
   rw[HQ.out,HR.out];refine⟨.tuple #[.int .u64 q,.int .u64 r,.bool true],?_,rfl,?_⟩
   ·simp[results,Tryz.f136,go_sem,c6,c7]
   ·exact(below_drew_l hB1).trans (belowK_b (w:=w) (Nat.le_refl _) _ D _ _ (by simp at hDD;omega) hK' rfl rfl)
 case stop=>
  rintro D c pre W _ _ h _;exact h.elim
/-- wide.Div, where it can't be told -/
theorem div_no (h l d:Int) (hlt:d≤h) (w:World) :
  Calls Tryz.prog 136 #[.int .u64 h,.int .u64 l,.int .u64 d] w fun e W'=>
   e=.returned (.tuple #[.int .u64 0,.int .u64 0,.bool false])∧Below w.heap.size w W':=by
 have c6:=((Boxed.new (w.alloc (.cells #[.int .u64 d] 22)) 22 (.int .u64 0)).alloc (.cells #[.int .u64 0] 22)).cell;have c7:=(Boxed.new ((w.alloc (.cells #[.int .u64 d] 22)).alloc (.cells #[.int .u64 0] 22)) 22 (.int .u64 0)).cell;simp only[World.size_alloc]at c6 c7;go_enter Tryz.func136,Tryz.ntmps136;go_wp2;refine bodyPost_ret (v:=.tuple #[.int .u64 0,.int .u64 0,.bool false]) (by simp[results,Tryz.f136,go_sem,c6,c7]) rfl ⟨rfl,?_⟩;exact(((Below.refl _ w).alloc (Nat.le_refl _) _).alloc (by simp) _).alloc (by simp;omega) _
def wide_Div.f (a0 a1 a2:Int):Option (Int × Int × Bool):=
 if a2≤a0 then some (0,0,false)else some ((a0*18446744073709551616+a1) / a2,(a0*18446744073709551616+a1)%a2,true)
theorem wide_Div.any (h l d:Int) (hh0:0≤h) (hl0:0≤l) (hl1:l≤18446744073709551615) (hd1:d≤18446744073709551615) (r:Int × Int × Bool) (w:World) (hr:wide_Div.f h l d=some r) :
  Calls Tryz.prog 136 #[.int .u64 h,.int .u64 l,.int .u64 d] w fun e W'=>
   e=.returned (.tuple #[.int .u64 r.1,.int .u64 r.2.1,.bool r.2.2])∧Below w.heap.size w W':=by
 unfold wide_Div.f at hr;by_cases hlt:d≤h
 ·rw[if_pos hlt]at hr;obtain rfl:=Option.some.inj hr;exact div_no h l d hlt w
 ·rw[if_neg hlt]at hr;obtain rfl:=Option.some.inj hr;exact callsIn_wide.1 (div_in Fence.wide 3 trivial trivial trivial rfl (Nat.le_refl _) h l d hh0 hl0 hl1 (by omega) hd1 (by omega) w)
end Go.Proofs.YtnkhnnojdlgfjaaGreatDoor.Wide
