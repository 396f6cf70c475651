/- Parts of the proof, joined: Tk, Tm10, Tm11. -/
import Derived.Test.YtnkhnnojdlgfjaaGreatDoorUI9
import Derived.WalkKit
import Derived.KernelRfl
import Derived.Below
import Derived.Test.YtnkhnnojdlgfjaaGreatDoorProg
import Derived.Lib.Hide
import Derived.Outline
import Derived.WalkSpells
import Derived.RegionTactic
import Derived.ChangeAlike
import Derived.BigRegion
import Derived.Deep.QuietTactic
import Derived.BigQuiet
import Derived.StillTailTactics
import Derived.IntWalk
import Derived.DeepKeys4
import Derived.Maps.OwnSet
import Derived.Maps.OwnOps
import Derived.Deep.DeepCutAuto
import Derived.Deep.RegionHeld3
set_option linter.unusedVariables false
set_option linter.unusedSimpArgs false
set_option maxHeartbeats 32000000
set_option maxRecDepth 100000
section
namespace Go.Proofs.YtnkhnnojdlgfjaaGreatDoor.Tk
open RowKit PA PB PC
abbrev K:=Int × Int
def gt (l:List K) (t:Nat):K:=l.getD t (0,0)
theorem qV (l:List K) (t:Nat) (h:t<l.length):gt l t=l[t]:=by
 simp only[gt,List.getD_eq_getElem?_getD,List.getElem?_eq_getElem h,Option.getD_some]
theorem gt_mem (l:List K) (t:Nat) (h:t<l.length):gt l t∈l:=by rw[qV l t h];exact List.getElem_mem h
structure Ord (cv:K→K→Int):Prop where
 asym:∀x y,cv x y<0→¬cv y x<0
 trans:∀x y z,¬cv y x<0→¬cv z y<0→¬cv z x<0
structure Sl1 (P:Nat→World→Prop) (u:Value) (w:World):Prop where mk::
 o:∃k:Nat,u=.int .i64 k∧P k w
theorem kJ:(Tryz.prog.info? 38).map (fun i=>(i.zero,i.size,i.bytes))=some (some (.agg #[(.int .u64 0),(.int .i64 0)]),2,16):=by kernel_rfl
def kp:Kd K:=Kd.pair (Kd.int .u64) (Kd.int .i64)
theorem vZ {w:World}{x:K}{cs:List Value}(h:kp.K w x cs):cs=[.int .u64 x.1,.int .i64 x.2]:=by
 obtain⟨_,_,rfl,rfl,rfl⟩:=h;exact rfl
theorem kp_openM {w:World}{base:Nat}{ok:Nat→Prop}{x:K}{cs:List Value}(h:kp.M w base ok x cs):cs=[.int .u64 x.1,.int .i64 x.2]:=by
 obtain⟨_,_,rfl,rfl,rfl⟩:=h;exact rfl
theorem jD (w:World) (base:Nat) (ok:Nat→Prop) (x:K):kp.M w base ok x [.int .u64 x.1,.int .i64 x.2]:=⟨[.int .u64 x.1],[.int .i64 x.2],rfl,rfl,rfl⟩
theorem C_at {w:World}{A:Option Addr}{n:Nat}{l:List K}(h:kp.C w A n l) (i:Nat) (h1:i<n):∃ad,A=some ad∧w.cell? (ad.add (i*2))=some (.int .u64 (gt l i).1)∧w.cell? ⟨(ad.add (i*2)).block,(ad.add (i*2)).off+1,none⟩=some (.int .i64 (gt l i).2):=by
 obtain⟨ad,c,e,_,hK,hc0⟩:=Kd.C_get h (0,0) (i:Int) (by omega) (by omega);have hc:∀j u,c[j]?=some u→w.cell? (ad.add (((i:Int)).toNat*2+j))=some u:=hc0;obtain rfl:=vZ hK;rw[Int.toNat_natCast]at hc;refine⟨ad,e,hc 0 _ rfl,?_⟩;rw[←kL ad (i*2) 1 (by omega)];exact hc 1 _ rfl
structure Cmp26 (mn:Int) (cv:K→K→Int):Prop where mk::
 o:∀(W:World) (x y:K),Calls Tryz.prog 106 #[.int .u64 mn,.agg #[.int .u64 x.1,.int .i64 x.2],.agg #[.int .u64 y.1,.int .i64 y.2]] W fun e w'=>e=.returned (.int .i64 (cv x y))∧Below W.heap.size W w'
theorem yC {w w1:World}{ad:Addr}{v:Value}(h:w.cell? ad=some v) (hb:Below w.heap.size w w1):w1.cell? ad=some v:=by
 rw[hb.cell (World.block_lt_of_cell? w _ h)];exact h
section
variable {mn : Int} {cv : K → K → Int} (hc : Cmp26 mn cv)
include hc
theorem zaa (x y:K) (w:World):Calls Tryz.prog 60 #[.int .u64 mn,.agg #[.int .u64 x.1,.int .i64 x.2],.agg #[.int .u64 y.1,.int .i64 y.2]] w fun e w'=>e=.returned (.bool (decide (cv x y<0)))∧Below w.heap.size w w':=by
 have H:=Z hc;have HB0:=Z (zB (zB (Below.refl w.heap.size w) (.cells #[.int .u64 x.1,.int .i64 x.2] 38)) (.cells #[.int .u64 y.1,.int .i64 y.2] 38));clear hc;go_enter Tryz.func60,Tryz.ntmps60;go_wp2_with (go_at_call 106;(with_reducible refine(H.o.o _ x y).mono ?_);rintro e w3 ⟨rfl,hb⟩;have HB1:=Z (zD HB0.o hb);clear hb);go_ret;exact⟨rfl,HB1.o⟩
end
def inI (x:Int):Prop:=-9223372036854775808≤x∧x≤9223372036854775807
theorem wf_of {x:Int}(h:inI x):(Lit.int .i64 x).wf=true:=by
 obtain⟨h1,h2⟩:=h;simp[Lit.wf,IntKind.min,IntKind.max,IntKind.signed,IntKind.bits];omega
theorem laidOut:laidOutB Tryz.prog=true:=by kernel_rfl
theorem row53:(152:TypeId)<Tryz.prog.types.size:=of_decide_eq_true (by kernel_rfl)
theorem wide53:(match Tryz.prog.underlying 152 with|some (.array _ _)|some (.struct _)=>true|_=>false)=true:=by rw[Tryz.underlying152]
theorem zcL:Maps.Keyed Tryz.prog 152:=Maps.Keyed.of_law (deep_law_laid laidOut (m:=2) (by omega) row53 (by kernel_rfl) wide53)
theorem key53 {x:Int}(h:inI x):∃l,keyOf Tryz.prog 152 (.agg #[.int .i64 x])=some l:=by
 have hw:=wf_of h;have h2:Tryz.prog.cellsOf 3=1:=by kernel_rfl
 have h53:Tryz.prog.cellsOf 152=1:=by kernel_rfl
 have hk:Tryz.prog.keyType 152=true:=by kernel_rfl
 have hf:(Value.agg #[.int .i64 x]).formed Tryz.prog 152=true:=by simp[Value.formed,Tryz.underlying152,h53]
 have e1:∀d,Tryz.prog.keyLits (d+1) 3 [.int .i64 x]=some [.int .i64 x]:=fun d=>by
  unfold Program.keyLits;rw[Tryz.underlying3];simp[hw]
 have e2:∀d,∃l,Tryz.prog.keyLits (d+2) 152 [.int .i64 x]=some l:=fun d=>by
  unfold Program.keyLits;rw[Tryz.underlying152];simp[h53,h2,e1 d]
 obtain⟨m,hm⟩:∃m,Tryz.prog.types.size=m+1:=⟨Tryz.prog.types.size-1,(Nat.sub_add_cancel (Nat.lt_of_le_of_lt (Nat.zero_le 152) row53)).symm⟩;obtain⟨l,hl⟩:=e2 m;unfold keyOf;rw[Tryz.underlying152];simp only[hk,hf,Bool.and_self,if_true];rw[hm,show(Value.agg #[Value.int .i64 x]).cells.toList=[.int .i64 x]from rfl,show m+1+1=m+2 from rfl,hl];exact⟨_,rfl⟩
theorem zero4 (w:World):(zeroValue 4).run Tryz.prog w=.ok (.bool false) w:=by kernel_rfl
structure SetM (w:World) (b:Nat) (ids:List Int):Prop where mk::
 o:∃es clock,w.heap[b]?=some (.map es clock)∧es.toList.map (fun e=>e.key)=ids.map (fun x=>Value.agg #[.int .i64 x])∧(∀e∈es.toList,e.val=.bool true)∧∀x∈ids,inI x
theorem SetM.made (w:World):SetM (w.alloc (.map #[] 0)) w.heap.size []:=⟨_,_,heap_alloc_new w _,rfl,fun e h=>by simp at h,fun x h=>by cases h⟩
theorem SetM.lt {w:World}{b:Nat}{ids:List Int}(h:SetM w b ids):b<w.heap.size:=by
 obtain⟨es,clock,h1,_⟩:=h.o;exact(Array.getElem?_eq_some_iff.1 h1).1
theorem SetM.moved {w w':World}{b:Nat}{ids:List Int}(h:SetM w b ids) (hb:w'.heap[b]?=w.heap[b]?):SetM w' b ids:=by
 obtain⟨es,clock,h1,h2⟩:=h.o;exact⟨es,clock,hb.trans h1,h2⟩
theorem SetM.below {w w':World}{b:Nat}{ids:List Int}(h:SetM w b ids) (hb:Below w.heap.size w w'):SetM w' b ids:=h.moved (hb.block b h.lt)
theorem SetM.find {w:World}{b:Nat}{ids:List Int}(h:SetM w b ids) (x:Int) (hx:inI x):∃es clock,w.heap[b]?=some (.map es clock)∧es.toList.map (fun e=>e.key)=ids.map (fun x=>Value.agg #[.int .i64 x])∧(∀e∈es.toList,e.val=.bool true)∧
  (((Instr.findKey 152 (.agg #[.int .i64 x]) es.toList).run Tryz.prog w=.ok none w∧x∉ids)∨∃j,(Instr.findKey 152 (.agg #[.int .i64 x]) es.toList).run Tryz.prog w=.ok (some (j,.bool true)) w∧x∈ids):=by
 obtain⟨es,clock,h1,h2,h3,h4⟩:=h.o;obtain⟨l,hl⟩:=key53 hx;refine⟨es,clock,h1,h2,h3,?_⟩;rcases zcL.find w hl es.toList (fun e he=>by
  have hm:e.key∈es.toList.map (fun e=>e.key):=List.mem_map.2 ⟨e,he,rfl⟩;rw[h2]at hm;obtain⟨y,hy,he2⟩:=List.mem_map.1 hm;rw[←he2];exact key53 (h4 y hy))with⟨f1,f2⟩|⟨j,e,f1,f2,f3⟩
 ·refine Or.inl ⟨f1,fun hm=>?_⟩;have hm2:Value.agg #[.int .i64 x]∈es.toList.map (fun e=>e.key):=by rw[h2];exact List.mem_map.2 ⟨x,hm,rfl⟩
  obtain⟨e,he,hk⟩:=List.mem_map.1 hm2;exact f2 e he hk
 ·have hm0:e∈es.toList:=List.mem_of_getElem? f2;rw[h3 e hm0]at f1;refine Or.inr ⟨j,f1,?_⟩;have hm:e.key∈es.toList.map (fun e=>e.key):=List.mem_map.2 ⟨e,hm0,rfl⟩;rw[h2,f3]at hm;obtain⟨y,hy,he2⟩:=List.mem_map.1 hm;injection he2 with he2;have:y=x:=by
   have:=congrArg (fun a=>a.toList) he2;simp at this;exact this
  rw[←this];exact hy
theorem SetM.lookup {w:World}{b:Nat}{ids:List Int}(h:SetM w b ids) (x:Int) (hx:inI x):(Instr.lookup 150 (.map (some b)) (.agg #[.int .i64 x]) false).run Tryz.prog w=.ok (.bool (decide (x∈ids))) w:=by
 obtain⟨l,hl⟩:=key53 hx;obtain⟨es,clock,h1,h2,h3,hf⟩:=h.find x hx;rcases hf with⟨f1,f2⟩|⟨j,f1,f2⟩
 ·simp[Instr.lookup,run_underlying Tryz.underlying150,MapKept.run_getObj_map h1,zcL.check w _ hl,f1,zero4,Result.andThen,f2]
 ·simp[Instr.lookup,run_underlying Tryz.underlying150,MapKept.run_getObj_map h1,zcL.check w _ hl,f1,Result.andThen,f2]
theorem SetM.store {w:World}{b:Nat}{ids:List Int}(h:SetM w b ids) (x:Int) (hx:inI x) (hn:x∉ids):∃w',(Instr.mapUpdate 150 (.map (some b)) (.agg #[.int .i64 x]) (.bool true)).run Tryz.prog w=.ok () w'∧SetM w' b (ids++[x])∧w.grownBy w' (some b):=by
 obtain⟨l,hl⟩:=key53 hx;obtain⟨es,clock,h1,h2,h3,hf⟩:=h.find x hx;rcases hf with⟨f1,f2⟩|⟨j,f1,f2⟩
 ·refine⟨ChangeMaps.setBlock w b (.map (es.push { key:=.agg #[.int .i64 x],val:=.bool true,born:=clock }) (clock+1)),?_,?_,?_⟩
  ·simp[Instr.mapUpdate,run_underlying Tryz.underlying150,MapKept.run_getObj_map h1,zcL.check w false hl,f1,MapKept.run_setObj_map _ h1,Result.andThen,ChangeMaps.setBlock]
  ·refine⟨_,_,ChangeMaps.heap_setBlock_same h1 _,?_,?_,?_⟩
   ·simp[h2]
   ·intro e he;rw[Array.toList_push]at he;rcases List.mem_append.1 he with he|he
    ·exact h3 e he
    ·rw[List.mem_singleton.1 he]
   ·intro y hy;rcases List.mem_append.1 hy with hy|hy
    ·obtain⟨_,_,_,_,_,h4⟩:=h.o;exact h4 y hy
    ·rw[List.mem_singleton.1 hy];exact hx
  ·exact⟨rfl,rfl,rfl,by simp[ChangeMaps.setBlock],fun k hk hne=>by
    show(w.heap.setIfInBounds b _)[k]?=_;rw[Array.getElem?_setIfInBounds_ne (fun e=>hne (by rw[e]))]⟩
 ·exact absurd f2 hn
def okAt (cv:K→K→Int) (l:List K) (i:Nat):Prop:=(i=0∨cv (gt l (i-1)) (gt l i)<0)∧∀j,j<i→(gt l j).2≠(gt l i).2
instance (cv:K→K→Int) (l:List K) (i:Nat):Decidable (okAt cv l i):=by unfold okAt;infer_instance
def qE (cv:K→K→Int) (l:List K):Bool:=decide (∀i,i<l.length→okAt cv l i)
theorem zbG (l:List K) (i:Nat) (hi:i≤l.length) (x:Int):x∈(l.take i).map (fun k=>k.2)↔∃j,j<i∧(gt l j).2=x:=by
 rw[List.mem_map];constructor
 ·rintro⟨k,hk,rfl⟩;obtain⟨j,hj,rfl⟩:=List.mem_iff_getElem.1 hk;rw[List.length_take]at hj;exact⟨j,by omega,by rw[qV l j (by omega),List.getElem_take]⟩
 ·rintro⟨j,hj,rfl⟩;refine⟨gt l j,?_,rfl⟩;rw[qV l j (by omega)];exact List.mem_iff_getElem.2 ⟨j,by rw[List.length_take];omega,by rw[List.getElem_take]⟩
section
variable {mn : Int} {cv : K → K → Int} (hc : Cmp26 mn cv)
include hc
theorem keySorted (A0:Option Addr) (c0:Nat) (l:List K) (w:World) (hr:kp.C w A0 l.length l) (hl:l.length≤1000000) (hid:∀k∈l,inI k.2) :
  Calls Tryz.prog 114 #[.int .u64 mn,.slice A0 l.length c0] w fun e w'=>e=.returned (.bool (qE cv l))∧Below w.heap.size w w':=by
 have HR:=Z hr;have H:=Z hc;have HID:=Z hid;have hmk:∀W:World,(Instr.makeMap 150 none).run Tryz.prog W=.ok (.map (some W.heap.size)) (W.alloc (.map #[] 0)):=fun W=>by simp[Instr.makeMap,run_underlying Tryz.underlying150,Result.andThen]
 have HM0:=Z (SetM.made w);have HB0:=Z (zB (Below.refl w.heap.size w) (.map #[] 0));clear hr hc hid;go_enter Tryz.func114,Tryz.ntmps114;go_wp2
 go_loopw [11] (fun i wr=>Sl1 (fun i wr=>i≤l.length∧zA (Below w.heap.size w wr)∧zA (SetM wr w.heap.size ((l.take i).map (fun k=>k.2)))∧zA (∀t,t<i→okAt cv l t)) i wr) (fun i _=>l.length-(intOf i).toNat)
 case atStart=>exact⟨0,by simp,Nat.zero_le _,HB0,HM0,⟨fun t ht=>by omega⟩⟩
 case round=>
  clear HM0 HB0;obtain⟨i,rfl,h1,HB,HM,HN⟩:=hrel.o;by_cases hlt:i<l.length;rotate_left
  ·obtain rfl:i=l.length:=by omega
   have hr:qE cv l=true:=decide_eq_true (fun t ht=>HN.o t ht);have HRR:=Z hr;clear hr;go_wp2;go_ret;exact⟨by rw[HRR.o];rfl,HB.o⟩
  obtain⟨ad,e2,c1,c2⟩:=C_at (Kd.zU HR.o HB.o) i hlt;subst e2;generalize hx:gt l i=x at c1 c2;have HX:=Z hx;have HIX:zA (inI x.2):=⟨by rw[←hx];exact HID.o _ (gt_mem l i hlt)⟩;have n1:(i:Int)<(l.length:Int):=by omega
  clear hx;go_upto_region 5 with(fail);have HB1:=Z (zB HB.o (.cells #[.int .u64 x.1,.int .i64 x.2] 38));have HM1:=Z (HM.o.below (zB (Below.refl wr.heap.size wr) (.cells #[.int .u64 x.1,.int .i64 x.2] 38)));have HK1:=Z (zQ wr (.cells #[.int .u64 x.1,.int .i64 x.2] 38));clear c1 c2 HB HM;generalize wr.alloc (.cells #[.int .u64 x.1,.int .i64 x.2] 38)=w2 at HB1 HM1 HK1⊢;generalize wr.heap.size=kb at HK1⊢;go_cut [35] (fun c wx=>∃bb:Bool,c=.bool bb∧zA (bb=decide (¬okAt cv l i))∧zA (Below w.heap.size w wx)∧zA (SetM wx w.heap.size ((l.take i).map (fun k=>k.2)))∧zA (wx.heap[kb]?=some (.cells #[.int .u64 x.1,.int .i64 x.2] 38 (0,0))))
  case first=>
   rcases Nat.eq_zero_or_pos i with h0|h0
   ·have hok:decide (¬okAt cv l i)=false:=decide_eq_false (fun h=>h ⟨Or.inl h0,fun j hj=>by omega⟩);have hlk:=HM1.o.lookup x.2 HIX.o;rw[show decide (x.2∈(l.take i).map (fun k=>k.2))=false from decide_eq_false (fun h=>by obtain⟨j,hj,_⟩:=(zbG l i h1 _).1 h;omega)]at hlk;have c3:=(zC HK1.o 1).trans rfl;have g1:decide ((0:Int)<(i:Int))=false:=decide_eq_false (by omega);have hlkN:=fun n=>show(Instr.lookup 150 (.map (some w.heap.size)) (.agg #[.int .i64 x.2]) false).run Tryz.prog (w2.drewN n)=.ok (.bool false) (w2.drewN n)from by
     have h:=(show SetM (w2.drewN n) w.heap.size ((l.take i).map (fun k=>k.2))from HM1.o.moved rfl).lookup x.2 HIX.o;rw[show decide (x.2∈(l.take i).map (fun k=>k.2))=false from decide_eq_false (fun h=>by obtain⟨j,hj,_⟩:=(zbG l i h1 _).1 h;omega)]at h;exact h
    go_quiet (fail)
    go_wp2_with fail
    go_meet
    exact⟨false,rfl,⟨hok.symm⟩,⟨zL HB1.o _⟩,⟨HM1.o.moved rfl⟩,⟨qU HK1.o _⟩⟩
   ·obtain⟨ad2,e2,c1,c2⟩:=C_at (Kd.zU HR.o HB1.o) (i-1) (by omega);obtain rfl:=Option.some.inj e2;have c3:=(zC HK1.o 0).trans rfl;have c4:=(zC HK1.o 1).trans rfl;generalize hy:gt l (i-1)=y at c1 c2;have HY:=Z hy;have g1:decide ((0:Int)<(i:Int))=true:=decide_eq_true (by omega);have g2:(0:Int)<(i:Int):=by omega
    have n2:(i:Int)-1<(l.length:Int):=by omega
    have n3:((i:Int)-1).toNat=i-1:=by omega
    have n5:(0:Int)≤(i:Int)-1:=by omega
    have n6:(1:Int)≤(i:Int):=by omega
    have n7:IntKind.i64.wrap ((i:Int)-1)=(i:Int)-1:=IntWalk.i64_in _ (by omega);clear hy e2;by_cases hcv:cv y x<0;rotate_left
    ·have hok:decide (¬okAt cv l i)=true:=decide_eq_true (fun h=>by
      rcases h.1 with h|h
      ·omega
      ·rw[HX.o,HY.o]at h;exact hcv h)
     have HOK:=Z hok;have k1:decide (cv y x<0)=false:=decide_eq_false hcv;have k3:0≤cv y x:=by omega
     clear hcv hok
     first|(go_region_with ((go_at_call 60;(with_reducible refine(zaa H.o y x _).mono ?_);rintro e w3 ⟨rfl,hb0⟩;have hb:Below w2.heap.size w2 w3:=(Below.drew (Below.refl _ _)).trans hb0;have HB2:=Z (zD HB1.o hb);have HM2:=Z (HM1.o.below hb);have HK2:=Z (zH HK1.o hb);clear hb0;have c5:=(zC HK2.o 1).trans rfl;clear hb c1 c2 c3 c4)))|fail
     all_goals (go_wp2_with fail;go_meet;exact⟨_,rfl,⟨HOK.o.symm⟩,HB2,HM2,HK2⟩)
    have HCV:=Z hcv;have k1:decide (cv y x<0)=true:=decide_eq_true hcv;clear hcv;cases hmem:decide (x.2∈(l.take i).map (fun k=>k.2))with
    | false=>
     have hok:decide (¬okAt cv l i)=false:=decide_eq_false (fun h=>h ⟨Or.inr (by rw[HX.o,HY.o];exact HCV.o),fun j hj hje=>by
      have:=of_decide_eq_false hmem;exact this ((zbG l i h1 _).2 ⟨j,hj,by rw[hje,HX.o]⟩)⟩)
     have HOK:=Z hok;have HMEM:=Z hmem;clear hmem hok;have lk1:(Instr.lookup 150 (.map (some w.heap.size)) (.agg #[.int .i64 x.2]) false).run Tryz.prog w2.drew=.ok (.bool false) w2.drew:=by
      have h:=(show SetM w2.drew w.heap.size ((l.take i).map (fun k=>k.2))from HM1.o.moved rfl).lookup x.2 HIX.o
      rwa [HMEM.o]at h
     go_region_held3 (fun w'=>w'.cell? (ad.add ((i-1)*2))=some (.int .u64 y.1)∧w'.cell? ⟨(ad.add ((i-1)*2)).block,(ad.add ((i-1)*2)).off+1,none⟩=some (.int .i64 y.2)∧w'.cell? ⟨kb,0,none⟩=some (.int .u64 x.1)∧w'.cell? ⟨kb,1,none⟩=some (.int .i64 x.2)∧(Instr.lookup 150 (.map (some w.heap.size)) (.agg #[.int .i64 x.2]) false).run Tryz.prog w'=.ok (.bool false) w') (first|exact⟨c1,c2,c3,c4,lk1⟩|exact⟨yC c1 hb,yC c2 hb,yC c3 hb,yC c4 hb,(HM2.o.lookup x.2 HIX.o).trans (by rw[HMEM.o])⟩) (first|(go_at_call 60;(with_reducible refine(zaa H.o y x _).mono ?_);rintro e w3 ⟨rfl,hb0⟩;have hb:Below w2.heap.size w2 w3:=(Below.drew (Below.refl _ _)).trans hb0;have HB2:=Z (zD HB1.o hb);have HM2:=Z (HM1.o.below hb);have HK2:=Z (zH HK1.o hb);clear hb0))
     all_goals (go_wp2_with fail;go_meet;exact⟨_,rfl,⟨HOK.o.symm⟩,HB2,HM2,HK2⟩)
    | true=>
     have hok:decide (¬okAt cv l i)=true:=decide_eq_true (fun h=>by
      obtain⟨j,hj,hje⟩:=(zbG l i h1 _).1 (of_decide_eq_true hmem);exact h.2 j hj (by rw[hje,HX.o]))
     have HOK:=Z hok;have HMEM:=Z hmem;clear hmem hok;have lk1:(Instr.lookup 150 (.map (some w.heap.size)) (.agg #[.int .i64 x.2]) false).run Tryz.prog w2.drew=.ok (.bool true) w2.drew:=by
      have h:=(show SetM w2.drew w.heap.size ((l.take i).map (fun k=>k.2))from HM1.o.moved rfl).lookup x.2 HIX.o
      rwa [HMEM.o]at h
     go_region_held3 (fun w'=>w'.cell? (ad.add ((i-1)*2))=some (.int .u64 y.1)∧w'.cell? ⟨(ad.add ((i-1)*2)).block,(ad.add ((i-1)*2)).off+1,none⟩=some (.int .i64 y.2)∧w'.cell? ⟨kb,0,none⟩=some (.int .u64 x.1)∧w'.cell? ⟨kb,1,none⟩=some (.int .i64 x.2)∧(Instr.lookup 150 (.map (some w.heap.size)) (.agg #[.int .i64 x.2]) false).run Tryz.prog w'=.ok (.bool true) w') (first|exact⟨c1,c2,c3,c4,lk1⟩|exact⟨yC c1 hb,yC c2 hb,yC c3 hb,yC c4 hb,(HM2.o.lookup x.2 HIX.o).trans (by rw[HMEM.o])⟩) (first|(go_at_call 60;(with_reducible refine(zaa H.o y x _).mono ?_);rintro e w3 ⟨rfl,hb0⟩;have hb:Below w2.heap.size w2 w3:=(Below.drew (Below.refl _ _)).trans hb0;have HB2:=Z (zD HB1.o hb);have HM2:=Z (HM1.o.below hb);have HK2:=Z (zH HK1.o hb);clear hb0))
     all_goals (go_wp2_with fail;go_meet;exact⟨_,rfl,⟨HOK.o.symm⟩,HB2,HM2,HK2⟩)
  case rest=>
   obtain⟨bb,rfl,HBB,HB2,HM2,HK2⟩:=hcut;by_cases hok:okAt cv l i;rotate_left
   ·obtain rfl:bb=true:=by rw[HBB.o];exact decide_eq_true hok
    have hr:qE cv l=false:=decide_eq_false (fun h=>hok (h i hlt));have HRR:=Z hr;clear hok hr;go_wp2;go_ret;exact⟨by rw[HRR.o];rfl,HB2.o⟩
   have HOK:=Z hok;obtain rfl:bb=false:=by rw[HBB.o];exact decide_eq_false (fun h=>h hok)
   have c5:=(zC HK2.o 1).trans rfl;have hnm:x.2∉(l.take i).map (fun k=>k.2):=fun h=>by
    obtain⟨j,hj,hje⟩:=(zbG l i h1 _).1 h;exact hok.2 j hj (by rw[hje,HX.o])
   obtain⟨w4,hrun,hS,hG⟩:=HM2.o.store x.2 HIX.o hnm;have HS4:=Z hS;have HG4:=Z hG;clear hok hnm hS hG;go_wp2;refine⟨⟨i+1,by simp,by omega,⟨HB2.o.grown HG4.o HB2.o.size (fun k hk=>by injection hk with hk;omega)⟩,⟨?_⟩,⟨fun t ht=>?_⟩⟩,?_⟩
   ·rw[List.take_succ_eq_append_getElem hlt,List.map_append];have h:=HS4.o;rw[←HX.o,qV l i hlt]at h;exact h
   ·by_cases e:t=i
    ·subst e;exact HOK.o
    ·exact HN.o t (by omega)
   ·show l.length-((i:Int)+1).toNat<l.length-(i:Int).toNat;omega
end
open TC in
section
open TC
def lagf (mn v:Int):Int:=wrap64 (IntKind.u64.wrap (v-mn))
def cvf (mn:Int) (x y:K):Int:=if lagf mn x.1<lagf mn y.1 then -1 else if lagf mn x.1 > lagf mn y.1 then 1 else if x.2<y.2 then -1 else if x.2 > y.2 then 1 else 0
def cmpf (a b:Int):Int:=if a<b then -1 else if a > b then 1 else 0
theorem compare_f (a b:Int):cmp_Compare_int.f a b=some (cmpf a b):=by
 unfold cmp_Compare_int.f cmp_isNaN_int.f cmpf;simp only[Option.bind_some,bne_self_eq_false,Bool.false_eq_true,if_false];split
 ·rfl
 ·split<;>rfl
theorem or_f (a b:Int):cmp_Or_int.f 3 [a,b]=some (if a=0 then (if b=0 then 0 else b)else a):=by
 by_cases h:a=0;rotate_left
 ·rw[if_neg h];simp[cmp_Or_int.f,cmp_Or_int.l0,rd,h]
 subst h;by_cases h2:b=0
 ·subst h2;rw[if_pos rfl,if_pos rfl]
  kernel_rfl
 rw[if_pos rfl,if_neg h2];simp[cmp_Or_int.f,cmp_Or_int.l0,rd,wrap64,h2]
theorem cmp26 (mn:Int):Cmp26 mn (cvf mn):=⟨fun W x y=>by
 refine key_compare.calls 3 mn x.1 x.2 y.1 y.2 (cvf mn x y) W ?_;unfold key_compare.f turn_Lag.f;simp only[Option.bind_some,compare_f,or_f]
 congr 1
 unfold cmpf cvf lagf
 repeat' split
 all_goals first|rfl|omega⟩
theorem ord (mn:Int):Ord (cvf mn):=⟨fun x y h=>by
 unfold cvf at h⊢
 repeat' split at h
 all_goals (repeat' split)<;>omega,fun x y z h k=>by
 unfold cvf at h k⊢
 repeat' split at h
 all_goals (repeat' split at k)<;>(repeat' split)<;>omega⟩
end
end Go.Proofs.YtnkhnnojdlgfjaaGreatDoor.Tk
end
section
namespace Go.Proofs.YtnkhnnojdlgfjaaGreatDoor.Tm
open RowKit Tr Tk PA PB PC
def keysOf (t:St) (l:List Nat):List K:=l.map fun z=>((gn t z).v,(z:Int))
def yA (t:St):List K:=match ordA t with
 | some a=>keysOf t a.ids
 | none=>[]
def yJ (t:St) (mn:Int):Bool:=match ordA t with
 | some a=>if a.red=true then false else if (blA a).2=false then false else qE (cvf mn) (keysOf t a.ids)
 | none=>false
structure jU (w:World) (l:List K) (e:Ending) (w':World):Prop where mk::
 o:∃v,e=.returned v∧kp.R 38 w' w.heap.size (fun _=>True) v l∧Below w.heap.size w w'
variable {w : World} {t : St}
theorem walkA_none (h:ordA t=none):yA t=[]:=by unfold yA;rw[h]
theorem kM {a:T}(h:ordA t=some a):yA t=keysOf t a.ids:=by unfold yA;rw[h]
theorem kV {w:World}{A:Option Addr}{n:Nat}{l:List Nd}(h:kn.C w A n l) (i:Int) (h0:0≤i) (h1:i<n):∃ad,A=some ad∧w.cell? (ad.add (i.toNat*6))=some (.bool (l.getD i.toNat emp).inn)∧w.cell? ⟨(ad.add (i.toNat*6)).block,(ad.add (i.toNat*6)).off+1,none⟩=some (.bool (l.getD i.toNat emp).red)∧w.cell? ⟨(ad.add (i.toNat*6)).block,(ad.add (i.toNat*6)).off+2,none⟩=some (.int .u64 (l.getD i.toNat emp).v)∧w.cell? ⟨(ad.add (i.toNat*6)).block,(ad.add (i.toNat*6)).off+3,none⟩=some (.int .i64 (l.getD i.toNat emp).l)∧w.cell? ⟨(ad.add (i.toNat*6)).block,(ad.add (i.toNat*6)).off+4,none⟩=some (.int .i64 (l.getD i.toNat emp).r)∧w.cell? ⟨(ad.add (i.toNat*6)).block,(ad.add (i.toNat*6)).off+5,none⟩=some (.int .i64 (l.getD i.toNat emp).u):=by
 obtain⟨ad,c,e,_,hK,hc0⟩:=Kd.C_get h emp i h0 h1;have hc:∀j u,c[j]?=some u→w.cell? (ad.add (i.toNat*6+j))=some u:=hc0;obtain rfl:=kn_open hK;exact⟨ad,e,hc 0 _ rfl,by rw[←kL _ _ 1 (by omega)];exact hc 1 _ rfl,by rw[←kL _ _ 2 (by omega)];exact hc 2 _ rfl,by rw[←kL _ _ 3 (by omega)];exact hc 3 _ rfl,by rw[←kL _ _ 4 (by omega)];exact hc 4 _ rfl,by rw[←kL _ _ 5 (by omega)];exact hc 5 _ rfl⟩
theorem wK {w:World}{A:Option Addr}{n:Nat}{l:List Int}(h:(Kd.int .i64).C w A n l) (i:Nat) (h1:i<n):∃ad,A=some ad∧w.cell? (ad.add i)=some (.int .i64 (l.getD i 0)):=by
 obtain⟨ad,c,e,_,hK,hc⟩:=Kd.C_get h 0 (i:Int) (by omega) (by omega);refine⟨ad,e,?_⟩;have hq:=hc 0 (.int .i64 (l.getD ((i:Int)).toNat 0)) (by rw[show c=[.int .i64 (l.getD ((i:Int)).toNat 0)]from hK];rfl);rw[Int.toNat_natCast]at hq;have h1:(Kd.int .i64).sz=1:=rfl;rw[h1,Nat.mul_one,Nat.add_zero]at hq;exact hq
theorem iz_at (l:List Nat) (i:Nat) (h:i<l.length):(iz l).getD i 0=(l[i]:Int):=by
 unfold iz;rw[List.getD_eq_getElem?_getD,List.getElem?_map,List.getElem?_eq_getElem h]
 rfl
theorem wJ (l:List Nat):(iz l).length=l.length:=List.length_map _
theorem keys_take (t:St) (l:List Nat) (k:Nat) (h:k<l.length):keysOf t (l.take (k+1))=keysOf t (l.take k)++[((gn t l[k]).v,(l[k]:Int))]:=by
 unfold keysOf;rw[List.take_succ_eq_append_getElem h,List.map_append]
 rfl
theorem Walk_ (A0:Option Addr) (c0:Nat) (hr:kn.C w A0 t.ns.length t.ns) (hl:t.ns.length≤1000000) (hT:Emp w) :
  Calls Tryz.prog 72 #[.agg #[.int .i64 t.rt,.slice A0 t.ns.length c0]] w fun e w'=>jU w (yA t) e w':=by
 have HR:=Z hr;have HL:=Z hl;have HT:=Z hT;clear hr hl hT;go_enter Tryz.func72,Tryz.ntmps72;go_upto_region 1 with(fail);have HB1:=Z (zB (Below.refl w.heap.size w) (.cells #[.int .i64 t.rt,.slice A0 t.ns.length c0] 27));have HX1:=Z (show(w.alloc (.cells #[.int .i64 t.rt,.slice A0 t.ns.length c0] 27)).heap[w.heap.size]?=some (.cells #[.int .i64 t.rt,.slice A0 t.ns.length c0] 27 (0,0))from zQ w _);generalize w.alloc (.cells #[.int .i64 t.rt,.slice A0 t.ns.length c0] 27)=W1 at HB1 HX1⊢;have a0:=(show W1.cell? ⟨w.heap.size,0,none⟩=some (.int .i64 t.rt)from(zC HX1.o 0).trans rfl);have a1:=(show W1.cell? ⟨w.heap.size,1,none⟩=some (.slice A0 t.ns.length c0)from(zC HX1.o 1).trans rfl);have HT1:=Z (HT.o.below HB1.o);cases hO:ordA t with
 | none=>
  have HO:=Z hO;clear hO;go_wp2_with (first
   | (go_at_call 75;refine(zbe A0 c0 t _ (Kd.zU HR.o HB1.o) HL.o).mono ?_;rintro e wq ⟨A,c,g,b,rfl,hW,hg,hb,hB,hc,hn⟩;have HW2:=Z hW;have HB2:=Z (zD HB1.o hB);have HT2:=Z (HT1.o.below hB);clear hW hg hb hB hc hn)
   | (go_at_call 112;refine(order_ HW2.o HT2.o).mono ?_;rintro e wr ⟨hB,hno,hyes⟩;have HB3:=Z (zD HB2.o hB);obtain rfl:=hno HO.o;clear hB hno hyes))
  go_loopw [5,16] (fun v i wr=>v=.slice none 0 0∧i=.int .i64 0∧zA (Below w.heap.size w wr)) (fun v i wr=>0)
  case atStart=>exact⟨rfl,rfl,HB3⟩
  case round=>
   clear HB3;obtain⟨rfl,rfl,HB4⟩:=hrel;go_wp2;go_ret;exact⟨_,rfl,by rw[walkA_none HO.o];exact Kd.jT _ _ _ _ _,HB4.o⟩
 | some a=>
  have HO:=Z hO;have HKE:=Z (kM hO);have hwh:=(xS.1 hO).2;have hwn:=(xS.1 hO).1;have HID:=Z (show ∀z∈a.ids,z<t.ns.length from fun z hz=>hwh.lay.lt z hz);have HLI:=Z (show a.ids.length≤t.ns.length from xC hwh.nd HID.o);clear hO hwh;go_upto_region 3 with(first
   | (go_at_call 75;refine(zbe A0 c0 t _ (Kd.zU HR.o HB1.o) HL.o).mono ?_;rintro e wq ⟨A,c,g,b,rfl,hW,hg,hb,hB,hc,hn⟩;have HW2:=Z hW;have HX2:=Z (zH HX1.o hB);have HB2:=Z (zD HB1.o hB);have HT2:=Z (HT1.o.below hB);clear hW hg hb hB hc hn)
   | (go_at_call 112;refine(order_ HW2.o HT2.o).mono ?_;rintro e w9 ⟨hB,hno,hyes⟩;have HB3:=Z (zD HB2.o hB);obtain⟨v,rfl,hv⟩:=hyes a HO.o;obtain⟨A3,c3,hv3,hlc,_⟩:=Kd.yE hv;subst hv3;have HV:=Z hv;have HX3:=Z (zH HX2.o hB);clear hB hno hyes hv hlc))
  have HVC:=Z (Kd.vC HV.o).2.2;rw[wJ]at HVC⊢;have HWL:=Z (Below.refl w9.heap.size w9);clear HV HW2 HT2 HB2 HX2 HT1 HX1 a0 a1;go_wp2
  go_loopw [5,16] (fun v i wr=>∃k:Nat,k≤a.ids.length∧i=.int .i64 k∧zA (Below w9.heap.size w9 wr)∧zA (kp.R 38 wr w9.heap.size (fun _=>True) v (keysOf t (a.ids.take k)))) (fun v i wr=>a.ids.length-(intOf i).toNat)
  case atStart=>exact⟨0,Nat.zero_le _,rfl,HWL,⟨Kd.jT _ _ _ _ _⟩⟩
  case round=>
   clear HWL;obtain⟨k,hk,rfl,HB4,HR4⟩:=hrel;by_cases hlt:k<a.ids.length;rotate_left
   ·obtain rfl:k=a.ids.length:=by omega
    go_wp2;go_ret;refine⟨_,rfl,?_,HB3.o.trans (HB4.o.mono HB3.o.size)⟩;rw[HKE.o,←List.take_length (l:=a.ids)];exact Kd.qW HR4.o HB3.o.size
   have hn1:(k:Int)<(a.ids.length:Int):=by omega
   obtain⟨ad,e1,c1⟩:=wK (Kd.zU HVC.o HB4.o) k hlt;subst e1;rw[iz_at _ _ hlt]at c1;have HKT:=Z (keys_take t a.ids k hlt);have HXI:=Z (HID.o a.ids[k] (List.getElem_mem hlt));generalize a.ids[k]=x at c1 HKT HXI;have hxn:=HXI.o;have hxi:(x:Int)<(t.ns.length:Int):=by omega
   obtain⟨ad2,e2,d0,d1,d2,d3,d4,d5⟩:=kV (Kd.zU HR.o (HB3.o.trans (HB4.o.mono HB3.o.size))) (x:Int) (by omega) hxi;subst e2;rw[Int.toNat_natCast]at d2;have d6:wr.cell? ⟨(ad2.add (x*6)).block,(ad2.add (x*6)).off+2,none⟩=some (.int .u64 (gn t x).v):=d2;have a1:=(show wr.cell? ⟨w.heap.size,1,none⟩=some (.slice (some ad2) t.ns.length c0)from(zC (zH HX3.o HB4.o) 1).trans rfl);clear d0 d1 d2 d3 d4 d5;generalize(gn t x).v=vx at d6 HKT;have HR5:=Z HR4.o;obtain⟨A6,c6,hv6,_,_⟩:=Kd.yE HR4.o;have HLK:=Z (show(keysOf t (a.ids.take k)).length=k by unfold keysOf;rw[List.length_map,List.length_take];omega);have HKN:=Z (show k<1000000 by have:=HLI.o;have:=HL.o;omega);subst hv6;have hkn:=HKN.o;have hbd:w9.heap.size≤wr.heap.size:=HB4.o.size;go_wp2_with (at_builtin;refine Kd.kE kp (w0:=w9) w9.heap.size rfl (.tmp 20) (.tmp 29) 32 38 (.agg #[(.int .u64 0),(.int .i64 0)]) 16 rfl Tryz.underlying32 kJ rfl (show 0<kp.sz by show 0<2;omega) (by omega) _ (keysOf t (a.ids.take k)) (vx,(x:Int)) [.int .u64 vx,.int .i64 (x:Int)] (fun _=>True) (fun _=>False) rfl rfl (jD _ _ _ _) (fun _ hk=>hk.elim) (fun _ _=>trivial) HR5.o HB4.o hbd (by rw[HLK.o];have:=HKN.o;omega) ?_;intro v2 w2 hR2 hB2 hg2 hat2;have HR6:=Z hR2;have HB6:=Z hB2;clear hR2 hB2 hg2 hat2);refine⟨⟨k+1,by omega,by simp,HB6,⟨by rw[HKT.o];exact HR6.o⟩⟩,?_⟩;show a.ids.length-((k:Int)+1).toNat<a.ids.length-(k:Int).toNat;omega
end Go.Proofs.YtnkhnnojdlgfjaaGreatDoor.Tm
end
section
namespace Go.Proofs.YtnkhnnojdlgfjaaGreatDoor.Tm
open RowKit Tr Tk PA PB PC
variable {w : World} {t : St}
theorem size_le {a:T}(h:ordA t=some a):a.size≤1000000:=by
 obtain⟨h1,h2⟩:=xS.1 h;rw[←wN];have:=xC h2.nd (fun z hz=>h2.lay.lt z hz);omega
theorem zaV (mn:Int) (h:ordA t=none):yJ t mn=false:=by unfold yJ;rw[h]
theorem zbw (mn:Int) {a:T}(h:ordA t=some a):yJ t mn=if a.red=true then false else if (blA a).2=false then false else qE (cvf mn) (yA t):=by
 rw[kM h];unfold yJ;rw[h]
theorem keys_ids {l:List Nat}(h:∀z∈l,z<1000000):∀k∈keysOf t l,inI k.2:=fun k hk=>by
 obtain⟨z,hz,rfl⟩:=List.mem_map.1 hk;have:=h z hz;exact⟨by show -9223372036854775808≤(z:Int);omega,by show(z:Int)≤9223372036854775807;omega⟩
theorem zbf (A0:Option Addr) (c0:Nat) (mn:Int) (hr:kn.C w A0 t.ns.length t.ns) (hl:t.ns.length≤1000000) (hT:Emp w) :
  Calls Tryz.prog 67 #[.agg #[.int .i64 t.rt,.slice A0 t.ns.length c0],.int .u64 mn] w fun e w'=>e=.returned (.bool (yJ t mn))∧Below w.heap.size w w':=by
 have HR:=Z hr;have HL:=Z hl;have HT:=Z hT;clear hr hl hT;go_enter Tryz.func67,Tryz.ntmps67;go_upto_region 1 with(fail);have HB1:=Z (zB (Below.refl w.heap.size w) (.cells #[.int .i64 t.rt,.slice A0 t.ns.length c0] 27));have HX1:=Z (show(w.alloc (.cells #[.int .i64 t.rt,.slice A0 t.ns.length c0] 27)).heap[w.heap.size]?=some (.cells #[.int .i64 t.rt,.slice A0 t.ns.length c0] 27 (0,0))from zQ w _);generalize w.alloc (.cells #[.int .i64 t.rt,.slice A0 t.ns.length c0] 27)=W1 at HB1 HX1⊢;have a0:=(show W1.cell? ⟨w.heap.size,0,none⟩=some (.int .i64 t.rt)from(zC HX1.o 0).trans rfl);have a1:=(show W1.cell? ⟨w.heap.size,1,none⟩=some (.slice A0 t.ns.length c0)from(zC HX1.o 1).trans rfl);have HT1:=Z (HT.o.below HB1.o);cases hO:ordA t with
 | none=>
  have HO:=Z hO;have HE:=Z (zaV mn hO);clear hO;go_wp2_with (first
   | (go_at_call 75;refine(zbe A0 c0 t _ (Kd.zU HR.o HB1.o) HL.o).mono ?_;rintro e wq ⟨A,c,g,b,rfl,hW,hg,hb,hB,hc,hn⟩;have HW2:=Z hW;have HB2:=Z (zD HB1.o hB);have HT2:=Z (HT1.o.below hB);clear hW hg hb hB hc hn)
   | (go_at_call 112;refine(order_ HW2.o HT2.o).mono ?_;rintro e w9 ⟨hB,hno,hyes⟩;have HB3:=Z (zD HB2.o hB);obtain rfl:=hno HO.o;clear hB hno hyes))
  go_quiet (fail)
  go_wp2;go_ret;exact⟨by rw[HE.o];rfl,zL HB3.o _⟩
 | some a=>
  have HO:=Z hO;have HSZ:=Z (size_le hO);have HWH:=Z (xS.1 hO).2;have HKI:=Z (show ∀k∈yA t,inI k.2 by rw[kM hO];exact keys_ids (fun z hz=>by have:=HWH.o.lay.lt z hz;have:=HL.o;omega));have HKL:=Z (show(yA t).length≤1000000 by rw[kM hO];unfold keysOf;rw[List.length_map];have:=xC HWH.o.nd (fun z hz=>HWH.o.lay.lt z hz);have:=HL.o;omega);have HE:=Z (zbw mn hO);clear hO;go_upto_region 3 with(first
   | (go_at_call 75;refine(zbe A0 c0 t _ (Kd.zU HR.o HB1.o) HL.o).mono ?_;rintro e wq ⟨A,c,g,b,rfl,hW,hg,hb,hB,hc,hn⟩;have HW2:=Z hW;have HX2:=Z (zH HX1.o hB);have HB2:=Z (zD HB1.o hB);have HT2:=Z (HT1.o.below hB);clear hW hg hb hB hc hn)
   | (go_at_call 112;refine(order_ HW2.o HT2.o).mono ?_;rintro e w9 ⟨hB,hno,hyes⟩;have HB3:=Z (zD HB2.o hB);obtain⟨v,rfl,hv⟩:=hyes a HO.o;obtain⟨A3,c3,hv3,hlc,_⟩:=Kd.yE hv;subst hv3;have HW3:=Z (HW2.o.below hB);have HX3:=Z (zH HX2.o hB);have HT3:=Z (HT2.o.below hB);clear hB hno hyes hv hlc))
  have c1:=HW3.o.c1;rw[HWH.o.rt]at c1;have HRL:=Z (show a.rt<(t.ns.length:Int)from wX HWH.o.lay.loose);have HRE:=Z (jP HWH.o.lay);cases hr:a.red with
  | true=>
   rw[hr]at HRE HE;have HE2:=Z (HE.o.trans (if_pos rfl));clear hr HE
   go_quiet ((go_at_call 79;exact Calls.quiet_of_same (yD (by first|exact HW3.o|exact HW3.o.drewN _) a.rt HRL.o true HRE.o)))
   go_wp2;go_ret;exact⟨by rw[HE2.o];rfl,zL HB3.o _⟩
  | false=>
   rw[hr]at HRE HE;have HE2:=Z (HE.o.trans (if_neg (by simp)));clear hr HE
   go_quiet ((go_at_call 79;exact Calls.quiet_of_same (yD (by first|exact HW3.o|exact HW3.o.drewN _) a.rt HRL.o false HRE.o)))
   have HB4:=Z (zL HB3.o nq);have HW4:=Z (HW3.o.drewN nq);have HX4:=Z (qU HX3.o nq);have HT4:=Z (HT3.o.drewN nq);clear c1;generalize w9.drewN nq=w4 at HB4 HW4 HX4 HT4⊢;have c1:=HW4.o.c1;rw[HWH.o.rt]at c1;go_upto_region 6 with(go_at_call 113;refine(blacks_ a _ _ HW4.o HWH.o.lay HSZ.o).mono ?_;rintro e w8 ⟨rfl,m,rfl⟩;have HB5:=Z (zL HB4.o m);have HX5:=Z (qU HX4.o m);have HT5:=Z (HT4.o.drewN m));generalize w4.drewN m=w5 at HB5 HX5 HT5⊢;cases hb:(blA a).2 with
   | false=>
    rw[hb]at HE2;have HE3:=Z (HE2.o.trans (if_pos rfl));clear hb HE2;go_wp2;go_ret;exact⟨by rw[HE3.o];rfl,HB5.o⟩
   | true=>
    rw[hb]at HE2;have HE3:=Z (HE2.o.trans (if_neg (by simp)));clear hb HE2;have b0:=(show w5.cell? ⟨w.heap.size,0,none⟩=some (.int .i64 t.rt)from(zC HX5.o 0).trans rfl);have b1:=(show w5.cell? ⟨w.heap.size,1,none⟩=some (.slice A0 t.ns.length c0)from(zC HX5.o 1).trans rfl);go_wp2_with (first
     | (go_at_call 72;refine(Walk_ A0 c0 (Kd.zU HR.o HB5.o) HL.o HT5.o).mono ?_;rintro e w6 ⟨v,rfl,hR6,hB6⟩;obtain⟨A6,c6,hv6,hlc6,hC6⟩:=Kd.yE hR6;subst hv6;have HC6:=Z hC6;have HB6:=Z (zD HB5.o hB6);clear hR6 hB6 hC6 hlc6)
     | (go_at_call 114;refine(keySorted (cmp26 mn) A6 c6 (yA t) _ HC6.o HKL.o HKI.o).mono ?_;rintro e w7 ⟨rfl,hB7⟩;have HB7:=Z (zD HB6.o hB7);clear hB7))
    go_ret;exact⟨by rw[HE3.o];rfl,HB7.o⟩
end Go.Proofs.YtnkhnnojdlgfjaaGreatDoor.Tm
end
