/- Parts of the proof, joined: Tm14, TmP, Qm. -/
import Derived.Laws.MakeOwn
import Derived.Test.YtnkhnnojdlgfjaaGreatDoorUI13
set_option linter.unusedVariables false
set_option linter.unusedSimpArgs false
set_option maxHeartbeats 32000000
set_option maxRecDepth 100000
section
namespace Go.Proofs.YtnkhnnojdlgfjaaGreatDoor.Tm
open RowKit Tr PA PB PC
theorem run_copy_sz {P:Program}(w:World) (dT sT ty elem:TypeId) (sz:Nat) (g o dLen dCap:Nat) (a:Addr) (sLen sCap:Nat) (cur:Array Value) (t:TypeId) (cs:List Value)
  (hu:P.underlying dT=some (.slice elem)) (hs:(P.info? elem).map (·.size)=some sz)
  (hg:w.heap[g]?=some (.cells cur t (0,0))) (hn:cs.length=Nat.min sLen dLen*sz)
  (hsrc:∀j v,cs[j]?=some v→w.cell? (a.add j)=some v) (hfit:o+cs.length≤cur.size) (h1:∀v∈cs,v.oneCell'=true) :
  (Builtin.copy_ #[dT,sT] ty #[.slice (some ⟨g,o,none⟩) dLen dCap,.slice (some a) sLen sCap]).run P w =
   .ok (goInt (Nat.min sLen dLen)) (w.setRow g (cur.toList.take o++cs++cur.toList.drop (o+cs.length)).toArray):=by
 have hl:=run_loadCells_list (P:=P) w a cs hsrc;have hst:=run_storeCells_at P g o t cs 0 cur w hg (by simpa using hfit) h1;cases hq:P.info? elem with
 | none=>simp[hq]at hs
 | some i=>
  have hi:i.size=sz:=by simpa [hq]using hs
  simp[Builtin.copy_,run_underlying hu,Builtin.lenOf,Builtin.firstCells,sizeOf,typeInfo,hq,hi,←hn,hl,hst]
theorem add_at (g o j:Nat):(⟨g,o,none⟩:Addr).add j=⟨g,o+j,none⟩:=by unfold Addr.add;split<;>simp_all
theorem size57:(Tryz.prog.info? 72).map (·.size)=some 6:=by kernel_rfl
def zN:Nd:=⟨false,false,0,0,0,0⟩
theorem made_flat (n:Nat):(madeCells #[.bool false,.bool false,.int .u64 0,.int .i64 0,.int .i64 0,.int .i64 0] (n*6)).toList=flat (List.replicate n zN):=
 vN (Kd.zbj (R:=fun(x:Nd) c=>c=nv x) (z:=Value.agg #[(.bool false),(.bool false),(.int .u64 0),(.int .i64 0),(.int .i64 0),(.int .i64 0)]) (size:=6) (z0:=zN) rfl (by omega) rfl n)
theorem run_make57 (n:Nat) (hn:n≤64) (w:World):(Instr.makeSlice 25 (.int .i64 (n:Int)) (.int .i64 (n:Int))).run Tryz.prog w=.ok (.slice (some ⟨w.heap.size,0,none⟩) n n) (w.alloc (.cells (madeCells (Value.agg #[(.bool false),(.bool false),(.int .u64 0),(.int .i64 0),(.int .i64 0),(.int .i64 0)]).cells (n*6)) 72)):=by
 obtain⟨i,hi,hzz⟩:=Option.map_eq_some_iff.1 infoN;simp only[Prod.mk.injEq]at hzz;obtain⟨hz,hs,hb⟩:=hzz;have h:=run_make (P:=Tryz.prog) (w:=w) 25 72 i _ Tryz.underlying25 hi hz .i64 .i64 (n:Int) (n:Int) (by omega) (Int.le_refl _) (by rw[hb];omega) (by omega);rw[hs]at h
 simpa using h
theorem mul_f:∀n:Nat,n≤64→TC.bits_Mul.f 1 (n:Int)=some (0,(n:Int)):=by
 have h:∀n:Fin 65,TC.bits_Mul.f 1 (n.1:Int)=some (0,(n.1:Int)):=by decide
 intro n hn;exact h ⟨n,by omega⟩
theorem nv_one (x:Nd):∀v∈nv x,v.oneCell'=true:=fun v hv=>by
 simp only[nv,List.mem_cons,List.not_mem_nil,or_false]at hv;rcases hv with rfl|rfl|rfl|rfl|rfl|rfl<;>rfl
theorem flat_one:∀(l:List Nd),∀v∈flat l,v.oneCell'=true
 | [],v,h=>by cases h
 | x::t,v,h=>by
  rcases List.mem_append.1 h with h|h
  ·exact nv_one x v h
  ·exact flat_one t v h
structure Rw (w:World) (g n k:Nat):Prop where mk::
 o:∃cur:Array Value,w.heap[g]?=some (.cells cur 72 (0,0))∧cur.toList=flat (List.replicate k emp++List.replicate (n-k) zN)
theorem copy_list (n k m:Nat) (h:k+m≤n):(flat (List.replicate k emp++List.replicate (n-k) zN)).take (k*6)++flat (List.replicate m emp)++(flat (List.replicate k emp++List.replicate (n-k) zN)).drop (k*6+(flat (List.replicate m emp)).length)=flat (List.replicate (k+m) emp++List.replicate (n-(k+m)) zN):=by
 have e1:(flat (List.replicate k emp)).length=k*6:=by rw[zY,List.length_replicate]
 have e2:List.replicate (n-k) zN=List.replicate m zN++List.replicate (n-(k+m)) zN:=by rw[List.replicate_append_replicate];congr 1;omega
 have e3:(flat (List.replicate m emp)).length=(flat (List.replicate m zN)).length:=by rw[zY,zY,List.length_replicate,List.length_replicate]
 rw[jH,List.take_append_of_le_length (by omega),←e1,List.take_length,List.drop_length_add_append,e2,jH,e3,List.drop_left,←List.replicate_append_replicate,jH,jH]
theorem Repeat_ (V:Nat) (n:Nat) (hn:n≤64) (w:World) (hV:w.heap[V]?=some (.cells (nv emp).toArray 72 (0,0))) :
  Calls Tryz.prog 116 #[.slice (some ⟨V,0,none⟩) 1 1,.int .i64 n] w fun e w'=>∃g,e=.returned (.slice (some ⟨g,0,none⟩) n n)∧Rw w' g n n∧w.heap.size≤g∧Below w.heap.size w w':=by
 have HV:=Z hV;have hmul:=mul_f n hn;have HM:=Z hmul;have HN:=Z hn;have hmk:=run_make57 n hn;have hd1:¬(n:Int)<0:=by omega
 clear hV hmul;go_enter Tryz.func116,Tryz.ntmps116;go_upto_region 7 with(go_at_call 142;refine(TC.bits_Mul.calls 1 (n:Int) 0 (n:Int) _ HM.o).mono ?_;rintro e w2 ⟨rfl,hb⟩;have HB2:=Z (show Below w.heap.size w w2 from hb.below);clear hb);have HG3:=Z (show w.heap.size≤w2.heap.size from HB2.o.size);have HB3:=Z (zB HB2.o (.cells (madeCells #[.bool false,.bool false,.int .u64 0,.int .i64 0,.int .i64 0,.int .i64 0] (n*6)) 72));have HR3:zA (Rw (w2.alloc (.cells (madeCells #[.bool false,.bool false,.int .u64 0,.int .i64 0,.int .i64 0,.int .i64 0] (n*6)) 72)) w2.heap.size n 0):=⟨⟨_,zQ w2 _,by have:=made_flat n;simpa using this⟩⟩;have HV3:=Z (zH (zH HV.o HB2.o) (zB (Below.refl _ _) (.cells (madeCells #[.bool false,.bool false,.int .u64 0,.int .i64 0,.int .i64 0,.int .i64 0] (n*6)) 72)));clear hmk;generalize w2.alloc (.cells (madeCells #[.bool false,.bool false,.int .u64 0,.int .i64 0,.int .i64 0,.int .i64 0] (n*6)) 72)=w3 at HB3 HR3 HV3⊢;generalize w2.heap.size=g at HG3 HR3⊢;have step:∀(W:World) (k m:Nat),Rw W g n k→k+m≤n→Below w.heap.size w W→∀(a:Addr) (sLen sCap dCap:Nat),(∀j v,(flat (List.replicate m emp))[j]?=some v→W.cell? (a.add j)=some v)→m=Nat.min sLen (n-k)→
   ∃W2,(Builtin.copy_ #[25,25] 3 #[.slice (some ⟨g,k*6,none⟩) (n-k) dCap,.slice (some a) sLen sCap]).run Tryz.prog W=.ok (goInt m) W2∧Rw W2 g n (k+m)∧Below w.heap.size w W2:=by
  intro W k m hR hkm hB a sLen sCap dCap hsrc hm;obtain⟨cur,h1,h2⟩:=hR.o;have hsz:cur.size=n*6:=by
   rw[←Array.length_toList,h2,zY,List.length_append,List.length_replicate,List.length_replicate]
   congr 1;omega
  have hrun:=run_copy_sz (P:=Tryz.prog) W 25 25 3 72 6 g (k*6) (n-k) dCap a sLen sCap cur 72 (flat (List.replicate m emp)) Tryz.underlying25 size57 h1 (by rw[zY,List.length_replicate,←hm]) hsrc (by rw[zY,List.length_replicate,hsz];omega) (flat_one _);rw[←hm]at hrun;refine⟨_,hrun,⟨_,setRow_heap W g cur _ 72 _ h1,?_⟩,?_⟩
  ·rw[h2];exact copy_list n k m hkm
  ·refine hB.trans ⟨rfl,rfl,rfl,by simp[World.setRow],fun q hq=>setRow_other W g q _ (fun e=>?_)⟩;have:=HG3.o;omega
 have STEP:=Z step;clear step;obtain⟨m,hm1,hm0,w4,hrun,hR4,hB4⟩:∃m,m≤n∧(m=0→n=0)∧∃w4,(Builtin.copy_ #[25,25] 3 #[.slice (some ⟨g,0,none⟩) n n,.slice (some ⟨V,0,none⟩) 1 1]).run Tryz.prog w3=.ok (goInt m) w4∧Rw w4 g n m∧Below w.heap.size w w4:=by
  rcases Nat.eq_zero_or_pos n with h0|h0
  ·obtain⟨w4,hrun,hR4,hB4⟩:=STEP.o w3 0 0 HR3.o (by omega) HB3.o ⟨V,0,none⟩ 1 1 n (fun j v hj=>by simp[flat]at hj) (by rw[show Nat.min 1 (n-0)=min 1 (n-0)from rfl];omega);rw[Nat.zero_mul,Nat.sub_zero]at hrun;exact⟨0,by omega,fun _=>h0,w4,hrun,hR4,hB4⟩
  ·obtain⟨w4,hrun,hR4,hB4⟩:=STEP.o w3 0 1 HR3.o (by omega) HB3.o ⟨V,0,none⟩ 1 1 n (fun j v hj=>by
    rw[add_at,Nat.zero_add,zC HV3.o,←Array.getElem?_toList]
    simpa [flat]using hj) (by rw[show Nat.min 1 (n-0)=min 1 (n-0)from rfl];omega)
   rw[Nat.zero_mul,Nat.sub_zero]at hrun;exact⟨1,by omega,fun h=>by omega,w4,hrun,hR4,hB4⟩
 have HR4:=Z hR4;have HB4:=Z hB4;have HM0:=Z hm0;clear hR4 hB4 hm0;go_upto_region 8 with(fail);clear hrun
 go_loopw [8] (fun i wr=>∃k:Nat,k≤n∧i=.int .i64 k∧zA (k=0→n=0)∧zA (Rw wr g n k)∧zA (Below w.heap.size w wr)) (fun i _=>n-(intOf i).toNat)
 case atStart=>exact⟨m,hm1,rfl,HM0,HR4,HB4⟩
 case round=>
  clear HM0 HR4 HB4 hm1;obtain⟨k,hk,rfl,HK0,HR5,HB5⟩:=hrel;by_cases hlt:k<n;rotate_left
  ·obtain rfl:k=n:=by omega
   go_wp2;go_ret;exact⟨g,rfl,HR5.o,HG3.o,HB5.o⟩
  have hk1:1≤k:=by
   rcases Nat.eq_zero_or_pos k with h|h
   ·have:=HK0.o h;omega
   ·exact h
  obtain⟨q,hq⟩:∃q,q=Nat.min k (n-k):=⟨_,rfl⟩;have hq2:q=min k (n-k):=hq;obtain⟨w6,hrun,hR6,hB6⟩:=STEP.o wr.drew k q ⟨HR5.o.o⟩ (by omega) (Below.drew HB5.o) ⟨g,0,none⟩ k n (n-k) (fun j v hj=>by
   obtain⟨cur,h1,h2⟩:=HR5.o.o;have hjl:j<q*6:=by
    have:=(List.getElem?_eq_some_iff.1 hj).1
    rwa [zY,List.length_replicate]at this
   show wr.cell? _=_;rw[add_at,Nat.zero_add,zC h1,←Array.getElem?_toList,h2,jH,List.getElem?_append_left (by rw[zY,List.length_replicate];omega)];have e:List.replicate k emp=List.replicate q emp++List.replicate (k-q) emp:=by rw[List.replicate_append_replicate];congr 1;omega
   rw[e,jH,List.getElem?_append_left (by rw[zY,List.length_replicate];exact hjl)];exact hj) hq
  have HR6:=Z hR6;have HB6:=Z hB6;have HQ:=Z hq2;have n1:(k:Int)<(n:Int):=by omega
  have n2:(k:Int)≤(n:Int):=by omega
  have n3:(0:Int)≤(k:Int):=by omega
  have n4:¬n=k:=by omega
  clear hR6 hB6 hq hq2;have HN4:=Z n4;have HLT:=Z hlt;have hq3:(q:Int)≤(n:Int):=by have:=HQ.o;omega
  go_upto_region 9 with(fail)
  go_region
  go_wp2;refine⟨⟨k+q,by have:=HQ.o;omega,by simp,⟨fun h=>by omega⟩,HR6,HB6⟩,?_⟩;have h1:=HQ.o;have h2:=HLT.o;show n-((k:Int)+(q:Int)).toNat<n-(k:Int).toNat;omega
def newA (n:Int):St × Int:=if n<0∨64<n then (⟨[],0⟩,1)else (⟨List.replicate n.toNat emp,-1⟩,0)
theorem New_ (n:Int) (w:World) (hT:Emp w):Calls Tryz.prog 70 #[.int .i64 n] w fun e w'=>jI w (newA n) e w':=by
 have HT:=Z hT;have HB1:=Z (zB (Below.refl w.heap.size w) (.cells #[.int .i64 0,.slice none 0 0] 27));have HZ1:=Z (zQ w (.cells #[.int .i64 0,.slice none 0 0] 27));clear hT;go_enter Tryz.func70,Tryz.ntmps70;go_upto_region 1 with(fail);have HS1:=Z (show w.heap.size<(w.alloc (.cells #[.int .i64 0,.slice none 0 0] 27)).heap.size by simp);generalize w.alloc (.cells #[.int .i64 0,.slice none 0 0] 27)=W1 at HB1 HZ1 HS1⊢;have f0:=zK HZ1.o 0;have f1:=zK HZ1.o 1;have c3:=(show W1.cell? ⟨w.heap.size,0,none⟩=some (.int .i64 0)from(zC HZ1.o 0).trans rfl);have c4:=(show W1.cell? ⟨w.heap.size,1,none⟩=some (.slice none 0 0)from(zC HZ1.o 1).trans rfl);by_cases b1:n<0
 ·have HE:=Z (show newA n=(⟨[],0⟩,1)from if_pos (Or.inl b1));go_wp2;refine bodyPost_ret (zO (cs:=#[.int .i64 0,.slice none 0 0]) rfl _ _ w.heap.size 27 (0,0) _ rfl (set2 HZ1.o rfl _ _) Tryz.underlying27 rfl (by kernel_rfl)) rfl ?_;rw[HE.o];exact jI.nil (Below.setCell (Below.setCell HB1.o (p:=⟨w.heap.size,0,none⟩) (Nat.le_refl _) _) (p:=⟨w.heap.size,1,none⟩) (Nat.le_refl _) _)
 by_cases b2:64<n
 ·have HE:=Z (show newA n=(⟨[],0⟩,1)from if_pos (Or.inr b2));have b11:decide (n<0)=false:=decide_eq_false b1;go_wp2;refine bodyPost_ret (zO (cs:=#[.int .i64 0,.slice none 0 0]) rfl _ _ w.heap.size 27 (0,0) _ rfl (set2 HZ1.o rfl _ _) Tryz.underlying27 rfl (by kernel_rfl)) rfl ?_;rw[HE.o];exact jI.nil (Below.setCell (Below.setCell HB1.o (p:=⟨w.heap.size,0,none⟩) (Nat.le_refl _) _) (p:=⟨w.heap.size,1,none⟩) (Nat.le_refl _) _)
 have HE:=Z (show newA n=(⟨List.replicate n.toNat emp,-1⟩,0)from if_neg (by omega));have b11:decide (n<0)=false:=decide_eq_false b1;have b12:decide (64<n)=false:=decide_eq_false b2;obtain⟨m,rfl⟩:∃m:Nat,n=(m:Int):=⟨n.toNat,by omega⟩;rw[Int.toNat_natCast]at HE;have HM:=Z (show m≤64 by omega);have HT1:=Z (HT.o.below HB1.o);have e0:=HT1.o.c0;have e1:=HT1.o.c1;have e2:=HT1.o.c2;have e3:=HT1.o.c3;have e4:=HT1.o.c4;have e5:=HT1.o.c5;clear f0 f1 c3 c4;go_upto_region 3 with(fail);have HV:=Z (show(W1.alloc (.cells #[.bool false,.bool false,.int .u64 0,.int .i64 (-1),.int .i64 (-1),.int .i64 (-1)] 72)).heap[W1.heap.size]?=some (.cells (nv emp).toArray 72 (0,0))from zQ W1 _);have HBV:=Z (zB (Below.refl W1.heap.size W1) (.cells #[.bool false,.bool false,.int .u64 0,.int .i64 (-1),.int .i64 (-1),.int .i64 (-1)] 72));go_wp2_with (go_at_call 116;refine(Repeat_ W1.heap.size m HM.o _ HV.o).mono ?_;rintro e w3 ⟨g,rfl,hR,hg,hb⟩;have HR3:=Z hR;have HG3:=Z hg;have hb2:=zD HBV.o hb;have HB3:=Z (zD HB1.o hb2);have HZ3:=Z (zH HZ1.o hb2);have HN3:=Z (show w.heap.size<g by have h1:=HS1.o;have h2:=HBV.o.size;omega);clear hR hg hb hb2;have f0:=zK HZ3.o 0;have f1:=zK HZ3.o 1;have c3:=(show w3.cell? ⟨w.heap.size,0,none⟩=some (.int .i64 0)from(zC HZ3.o 0).trans rfl);have c4:=(show w3.cell? ⟨w.heap.size,1,none⟩=some (.slice none 0 0)from(zC HZ3.o 1).trans rfl));refine bodyPost_ret (zO (cs:=#[.int .i64 (-1),.slice (some ⟨g,0,none⟩) m m]) rfl _ _ w.heap.size 27 (0,0) _ rfl (set2 HZ3.o rfl _ _) Tryz.underlying27 rfl (by kernel_rfl)) rfl ?_;rw[HE.o];obtain⟨cur,h1,h2⟩:=HR3.o.o;have hn:=HN3.o;have h3:((w3.setCell ⟨w.heap.size,0,none⟩ (.int .i64 (-1))).setCell ⟨w.heap.size,1,none⟩ (.slice (some ⟨g,0,none⟩) m m)).heap[g]?=some (.cells cur 72 (0,0)):=by
  rw[Below.heap_setCell _ _ _ _ (by show g≠w.heap.size;omega),Below.heap_setCell _ _ _ _ (by show g≠w.heap.size;omega)];exact h1
 have h4:cur.toList=flat (List.replicate m emp)++[]:=by rw[h2];simp
 have h5:=arr_R (base:=w.heap.size) (cap:=m) (ok:=fun _=>True) h3 h4 (by omega) trivial (by rw[List.length_replicate];exact Nat.le_refl _) (by have:=HM.o;show m≤maxLen;unfold maxLen;omega) (by rw[List.length_replicate];rfl);rw[List.length_replicate]at h5;exact⟨_,rfl,h5,Below.setCell (Below.setCell HB3.o (p:=⟨w.heap.size,0,none⟩) (Nat.le_refl _) _) (p:=⟨w.heap.size,1,none⟩) (Nat.le_refl _) _⟩
end Go.Proofs.YtnkhnnojdlgfjaaGreatDoor.Tm
end
section
namespace Go.Proofs.YtnkhnnojdlgfjaaGreatDoor.Tm
open RowKit Tr Tk PA PB PC
theorem w64 (x:Int):IntKind.u64.wrap x=x%18446744073709551616:=by unfold IntKind.wrap;simp[IntKind.signed,IntKind.bits]
theorem cv_lt {mn:Int}{x y:K}:cvf mn x y<0↔lagf mn x.1<lagf mn y.1∨lagf mn x.1=lagf mn y.1∧x.2<y.2:=by
 unfold cvf
 repeat' split
 all_goals omega
theorem lt_trans {mn:Int}{x y z:K}(h:cvf mn x y<0) (k:cvf mn y z<0):cvf mn x z<0:=by
 rw[cv_lt]at *
 omega
theorem lt_asymm {mn:Int}{x y:K}(h:cvf mn x y<0):¬cvf mn y x<0:=by
 rw[cv_lt]at *
 omega
structure SS (mn:Int) (l:List K):Prop where
 pw:l.Pairwise (fun x y=>cvf mn x y<0)
 nd:l.Pairwise (fun x y=>x.2≠y.2)
theorem zbu {mn:Int}{l:List K}:qE (cvf mn) l=true↔SS mn l:=by
 unfold qE;rw[decide_eq_true_iff];constructor
 ·intro h;have hlt:∀j i,i<j→j<l.length→cvf mn (gt l i) (gt l j)<0:=by
   intro j
   induction j with
   | zero=>intro i hi;omega
   | succ j ih=>
    intro i hi hj;have h1:=(h (j+1) hj).1;rcases h1 with h1|h1
    ·omega
    ·rw[show j+1-1=j by omega]at h1;by_cases e:i=j
     ·subst e;exact h1
     exact lt_trans (ih i (by omega) (by omega)) h1
  refine⟨List.pairwise_iff_getElem.2 fun i j hi hj hij=>?_,List.pairwise_iff_getElem.2 fun i j hi hj hij=>?_⟩
  ·have:=hlt j i hij hj
   rwa [qV l i hi,qV l j hj]at this
  ·have:=(h j hj).2 i hij
   rwa [qV l i hi,qV l j hj]at this
 ·intro h i hi;refine⟨?_,fun j hj=>?_⟩
  ·by_cases e:i=0
   ·exact Or.inl e
   ·refine Or.inr ?_;have:=List.pairwise_iff_getElem.1 h.pw (i-1) i (by omega) hi (by omega)
    rwa [qV l (i-1) (by omega),qV l i hi]
  ·have:=List.pairwise_iff_getElem.1 h.nd j i (by omega) hi hj
   rwa [qV l j (by omega),qV l i hi]
theorem pw_strict {mn:Int}:∀{l:List K},l.Pairwise (fun x y=>¬cvf mn y x<0)→l.Pairwise (fun x y=>x.2≠y.2)→l.Pairwise (fun x y=>cvf mn x y<0)
 | [],_,_=>.nil
 | x::t,h,k=>by
  rw[List.pairwise_cons]at h k⊢;refine⟨fun y hy=>?_,pw_strict h.2 k.2⟩;have h1:=h.1 y hy;have h2:=k.1 y hy;rw[cv_lt]at *
  omega
theorem nd_perm {a b:List K}(h:a.Perm b) (k:a.Pairwise (fun x y=>x.2≠y.2)):b.Pairwise (fun x y=>x.2≠y.2):=(h.pairwise_iff (fun h=>fun e=>h e.symm)).1 k
theorem blA_rb:∀{a:T},(blA a).2=true→RB a (blA a).1.toNat
 | .E,_=>rfl
 | .B c l x r,h=>by
  have p1:=(zaC l).1;unfold blA at h⊢;split at h
  ·cases h
  ·rename_i h1
   split at h
   ·cases h
   ·rename_i h2
    split at h
    ·cases h
    ·rename_i h3
     split at h
     ·cases h
     ·rename_i h4
      rw[if_neg h1,if_neg h2,if_neg h3,if_neg h4];have e1:=blA_rb (a:=l) (by simpa using h1);have e2:=blA_rb (a:=r) (by simpa using h2);have h3':(blA l).1=(blA r).1:=by simpa using h3
      rw[←h3']at e2;refine⟨fun hc=>⟨?_,?_⟩,(blA l).1.toNat,e1,e2,?_⟩
      ·cases hl:l.red with
       | false=>rfl
       | true=>exact absurd ⟨hc,Or.inl hl⟩ h4
      ·cases hl:r.red with
       | false=>rfl
       | true=>exact absurd ⟨hc,Or.inr hl⟩ h4
      ·cases c<;>simp<;>omega
theorem rb_blA:∀{a:T}{n:Nat},RB a n→blA a=((n:Int),true)
 | .E,n,h=>by
  have h:n=0:=h;subst h;rfl
 | .B c l x r,n,⟨h1,m,h2,h3,h4⟩=>by
  unfold blA;rw[rb_blA h2,rb_blA h3,if_neg (by simp),if_neg (by simp),if_neg (by simp)];cases c with
  | true=>
   obtain⟨a1,a2⟩:=h1 rfl;rw[if_neg (by rw[a1,a2];simp),if_pos rfl];subst h4;rfl
  | false=>
   rw[if_neg (by simp),if_neg (by simp)];subst h4;rfl
structure RT (t:St) (a:T):Prop where
 whole:Whole t a
 red:a.red=false
 rb:∃m,RB a m
 len:t.ns.length≤64
variable {t : St}
theorem RT.ord {a:T}(h:RT t a):ordA t=some a:=xS.2 ⟨h.len,h.whole⟩
theorem RT.walk {a:T}(h:RT t a):yA t=keysOf t a.ids:=by unfold yA;rw[h.ord]
theorem RT.right {a:T}{mn:Int}(h:RT t a) (k:SS mn (keysOf t a.ids)):yJ t mn=true:=by
 obtain⟨m,hm⟩:=h.rb;unfold yJ;rw[h.ord];show(if a.red=true then false else if (blA a).2=false then false else qE (cvf mn) (keysOf t a.ids))=true;rw[if_neg (by rw[h.red];simp),rb_blA hm,if_neg (by simp)];exact zbu.2 k
theorem wO {mn:Int}(h:yJ t mn=true):∃a,RT t a∧SS mn (keysOf t a.ids):=by
 obtain⟨a,h1,h2,h3⟩:=zbv h;unfold yJ at h;rw[h1]at h;change (if a.red=true then false else if (blA a).2=false then false else qE (cvf mn) (keysOf t a.ids))=true at h;split at h
 ·cases h
 ·rename_i r1
  split at h
  ·cases h
  ·rename_i r2
   exact⟨a,⟨h2,by simpa using r1,⟨_,blA_rb (by simpa using r2)⟩,h3⟩,zbu.1 h⟩
theorem lay_inn {a:T}:∀{u:Option Int},Lay t a u→∀z∈a.ids,(gn t z).inn=true:=by
 induction a with
 | E=>intro u _ z hz;cases hz
 | B c l x r il ir=>
  intro u ⟨h1,h2,h3,h4,h5,h6,h7,h8⟩ z hz;rcases List.mem_append.1 hz with h|h
  ·exact il h7 z h
  ·rcases List.mem_cons.1 h with rfl|h
   ·exact h2
   ·exact ir h8 z h
theorem Whole.mem {a:T}(h:Whole t a) (z:Nat):z∈a.ids↔(gn t z).inn=true:=by
 refine⟨lay_inn h.lay z,fun hz=>?_⟩;by_cases hm:z∈a.ids
 ·exact hm
 exfalso;by_cases hl:z<t.ns.length
 ·rw[h.o z hl hm]at hz;cases hz
 unfold gn at hz;rw[List.getD_eq_getElem?_getD,List.getElem?_eq_none (by omega)]at hz;cases hz
theorem zaI {t':St}{l:List Nat}(h:∀z∈l,(gn t' z).v=(gn t z).v):keysOf t' l=keysOf t l:=by
 unfold keysOf;exact List.map_congr_left fun z hz=>by rw[h z hz]
theorem zaH (l m:List Nat):keysOf t (l++m)=keysOf t l++keysOf t m:=List.map_append
theorem ins_ok {a:T}{mn:Int}{k:K}(h:RT t a) (hS:SS mn (keysOf t a.ids)) (h0:0≤k.2) (h1:k.2<t.ns.length) (hi:(gn t k.2.toNat).inn=false) :
  ∃t' a' lf rg,insA t mn k=some (t',0)∧RT t' a'∧a.ids=lf++rg∧a'.ids=lf++k.2.toNat::rg∧(∀x∈lf,ltA t mn k x=false)∧(∀x∈rg,ltA t mn k x=true)∧t'.ns.length=t.ns.length∧(∀z,z≠k.2.toNat→(gn t' z).v=(gn t z).v)∧(gn t' k.2.toNat).v=k.1:=by
 obtain⟨m,hm⟩:=h.rb;obtain⟨id,v,rfl⟩:∃(id:Nat) (v:Int),k=(v,(id:Int)):=⟨k.2.toNat,k.1,by rw[show((k.2.toNat:Nat):Int)=k.2 from by omega]⟩;simp only[Int.toNat_natCast]at *
 have hni:id∉a.ids:=fun e=>by rw[(h.whole.mem id).1 e]at hi;cases hi
 have hid:id<t.ns.length:=by omega
 have hlt:a.ids.Pairwise (fun x y=>ltA t mn (v,(id:Int)) x=true→ltA t mn (v,(id:Int)) y=true):=by
  have:=hS.pw;unfold keysOf at this;rw[List.pairwise_map]at this;refine this.imp fun{x y} hxy hx=>?_
  unfold ltA at hx⊢;rw[decide_eq_true_iff]at hx⊢;exact lt_trans hx hxy
 obtain⟨t',lf,rg,e1,e2,e3,e4,e5,e6⟩:=put_lay (v:=v) (ltA t mn (v,(id:Int))) h.whole.lay h.whole.rt h.whole.nd hm h.red hid hni hlt;obtain⟨A,g1,g2,g3,g4,g5⟩:=e6.ex;have hsz:a.size<t.ns.length+2:=by
  rw[←wN];have:=xC h.whole.nd (fun x hx=>h.whole.lay.lt x hx);omega
 have hp:=zaj (ltA t mn (v,(id:Int))) a [];change plug _ T.E=a at hp;have hpi:=kD (down (ltA t mn (v,(id:Int))) a []) T.E;rw[hp]at hpi;change a.ids.Perm (idsC (down (ltA t mn (v,(id:Int))) a []))at hpi;have hup:∀z:Nat,(z:Int)=upC (down (ltA t mn (v,(id:Int))) a [])→z∈a.ids:=fun z hz=>by
  refine hpi.mem_iff.2 ?_;cases hC:down (ltA t mn (v,(id:Int))) a []with
  | nil=>rw[hC]at hz;exact absurd hz (by show ¬(z:Int)=-1;omega)
  | cons f C=>
   rw[hC]at hz;have hz:(z:Int)=(f.x:Int):=hz;have:z=f.x:=by omega
   subst this;simp[idsC]
 have hx:0≤upC (down (ltA t mn (v,(id:Int))) a [])→(upC (down (ltA t mn (v,(id:Int))) a [])).toNat<(sn t id (newN v)).ns.length:=fun hu=>by
  rw[xQ];exact h.whole.lay.lt _ (hup _ (by omega))
 have hy:0≤(id:Int)→(id:Int).toNat<(sn t id (newN v)).ns.length:=fun _=>by rw[xQ];omega
 have hgs:∀z,gn (sn t id (newN v)) z=if z=id then newN v else gn t z:=fun z=>wM _ _ _ _ hid
 have hv:∀z,(gn t' z).v=if z=id then v else (gn t z).v:=fun z=>by
  rw[(e6.keeps.at_ z).1];change (gn (zM (sn t id (newN v)) _ _ _) z).v=_;rw[hang_v _ hx hy,hgs];split<;>rfl
 have hlen:t'.ns.length=t.ns.length:=by
  rw[e6.keeps.len,zX];exact xQ _ _ _
 have hk:=kQ (s:=yN (down (ltA t mn (v,(id:Int))) a [])) (S:=fun z=>z∈id::a.ids) hx hy (fun z hz=>List.mem_cons_of_mem _ (hup z hz)) (fun z hz=>by rw[show z=id by omega];exact List.mem_cons_self);have hids:∀z,z∈A.ids↔z∈id::a.ids:=fun z=>by
  rw[g3,e1];simp only[List.mem_append,List.mem_cons];exact or_left_comm
 refine⟨t',A,lf,rg,?_,⟨⟨g1,g2,?_,fun z hz hzn=>?_⟩,g5,g4,by rw[hlen];exact h.len⟩,e1,g3,e2,e3,hlen,fun z hz=>by rw[hv,if_neg hz],by rw[hv,if_pos rfl]⟩
 ·unfold insA;rw[if_neg (by rw[h.right hS];simp),if_neg (by show ¬((id:Int)<0∨(t.ns.length:Int)≤(id:Int)∨(gn t (id:Int).toNat).inn=true);rw[Int.toNat_natCast,hi];simp;omega),e4 _ hsz];have:=e5 (t.ns.length+2) (by omega);change xZ (t.ns.length+2) (zM (sn t id (newN v)) _ _ _) _=_ at this;simp only[Int.toNat_natCast];rw[this]
 ·rw[g3];refine List.perm_middle.nodup_iff.2 (List.nodup_cons.2 ⟨?_,?_⟩)
  ·rw[←e1];exact hni
  ·rw[←e1];exact h.whole.nd
 ·have hzn2:¬(z∈id::a.ids):=fun e=>hzn ((hids z).2 e)
  rw[(e6.keeps.at_ z).2 hzn2];change gn (zM (sn t id (newN v)) _ _ _) z=emp;rw[(hk.at_ z).2 hzn2,hgs,if_neg (fun e=>hzn2 (by rw[e];exact List.mem_cons_self))];exact h.whole.o z (by rw[←hlen];exact hz) (fun e=>hzn2 (List.mem_cons_of_mem _ e))
theorem del_ok {a:T}{id:Nat}(h:RT t a) (hid:id∈a.ids) :
  ∃t' a' lf rg,delA (t.ns.length+2) t id=some t'∧RT t' a'∧a.ids=lf++id::rg∧a'.ids=lf++rg∧t'.ns.length=t.ns.length∧∀z,z≠id→(gn t' z).v=(gn t z).v:=by
 obtain⟨m,hm⟩:=h.rb;obtain⟨t',e1,e2⟩:=del_lay h.whole.lay h.whole.rt h.whole.nd hm h.red hid;obtain⟨lf,rg,A,g1,g2,g3,g4,g5,g6⟩:=e2.ex;refine⟨t',A,lf,rg,e1 _ (by omega),⟨⟨g2,g3,?_,fun z hz hzn=>?_⟩,g6,g5,by rw[e2.len];exact h.len⟩,g1,g4,e2.len,fun z hz=>(e2.keeps z hz).1⟩
 ·have:=h.whole.nd;rw[g1]at this;rw[g4];exact(List.nodup_cons.1 (List.perm_middle.nodup_iff.1 this)).2
 ·by_cases e:z=id
  ·rw[e];exact e2.gone
  ·have hn:z∉a.ids:=fun hm=>hzn (by
    rw[g1]at hm;rw[g4];simp only[List.mem_append,List.mem_cons]at hm⊢;rcases hm with hm|hm|hm
    ·exact Or.inl hm
    ·exact absurd hm e
    ·exact Or.inr hm)
   rw[(e2.keeps z e).2 hn];exact h.whole.o z (by rw[←e2.len];exact hz) hn
theorem new_RT {n:Int}(h:0≤n∧n≤64):RT (newA n).1 .E∧(newA n).1.ns.length=n.toNat∧newA n=((newA n).1,0):=by
 have e:newA n=(⟨List.replicate n.toNat emp,-1⟩,0):=if_neg (by omega);rw[e];refine⟨⟨⟨trivial,rfl,List.nodup_nil,fun z hz _=>?_⟩,rfl,⟨0,rfl⟩,by simp;omega⟩,by simp,rfl⟩;unfold gn;simp only[List.length_replicate]at hz;simp[hz]
def ins (mn:Int) (l:List K) (k:K):List K:=l.take (l.findIdx (fun x=>decide (cvf mn k x<0)))++k::l.drop (l.findIdx (fun x=>decide (cvf mn k x<0)))
theorem jJ (mn:Int) (x:K) (t:List K) (k:K):ins mn (x::t) k=if cvf mn k x<0 then k::x::t else x::ins mn t k:=by
 unfold ins;by_cases h:cvf mn k x<0
 ·rw[if_pos h,List.findIdx_cons];simp[h]
 rw[if_neg h,List.findIdx_cons];simp[h]
theorem zaD (mn:Int) (k:K):ins mn [] k=[k]:=rfl
theorem kZ (mn:Int) (k:K):∀l:List K,(ins mn l k).Perm (k::l)
 | []=>List.Perm.refl _
 | x::t=>by
  rw[jJ];split
  ·exact List.Perm.refl _
  ·exact((kZ mn k t).cons x).trans (List.Perm.swap k x t)
theorem ins_SS {mn:Int}{k:K}:∀{l:List K},SS mn l→(∀x∈l,x.2≠k.2)→SS mn (ins mn l k)
 | [],_,_=>by rw[zaD];exact⟨List.pairwise_singleton _ _,List.pairwise_singleton _ _⟩
 | x::t,h,hk=>by
  have h1:=List.pairwise_cons.1 h.pw;have h2:=List.pairwise_cons.1 h.nd;rw[jJ];split
  ·rename_i c
   refine⟨List.pairwise_cons.2 ⟨fun y hy=>?_,h.pw⟩,List.pairwise_cons.2 ⟨fun y hy e=>hk y hy e.symm,h.nd⟩⟩;rcases List.mem_cons.1 hy with rfl|hy
   ·exact c
   ·exact lt_trans c (h1.1 y hy)
  ·rename_i c
   have ih:=ins_SS (mn:=mn) (k:=k) (l:=t) ⟨h1.2,h2.2⟩ (fun y hy=>hk y (List.mem_cons_of_mem _ hy));have hx:=hk x (List.mem_cons_self);refine⟨List.pairwise_cons.2 ⟨fun y hy=>?_,ih.pw⟩,List.pairwise_cons.2 ⟨fun y hy=>?_,ih.nd⟩⟩
   ·rcases List.mem_cons.1 ((kZ mn k t).mem_iff.1 hy)with rfl|hy
    ·rw[cv_lt]at *
     omega
    ·exact h1.1 y hy
   ·rcases List.mem_cons.1 ((kZ mn k t).mem_iff.1 hy)with rfl|hy
    ·exact hx
    ·exact h2.1 y hy
def del (l:List K) (id:Int):List K:=l.take (l.findIdx (fun x=>x.2==id))++l.drop (l.findIdx (fun x=>x.2==id)+1)
theorem zbY (x:K) (t:List K) (id:Int):del (x::t) id=if x.2=id then t else x::del t id:=by
 unfold del;by_cases h:x.2=id
 ·rw[if_pos h,List.findIdx_cons];simp[h]
 rw[if_neg h,List.findIdx_cons];have hb:(x.2==id)=false:=beq_eq_false_iff_ne.2 h;simp[hb]
theorem del_filter:∀{l:List K}{id:Int},l.Pairwise (fun x y=>x.2≠y.2)→del l id=l.filter (fun x=>x.2 != id)
 | [],id,_=>rfl
 | x::t,id,h=>by
  obtain⟨h1,h2⟩:=List.pairwise_cons.1 h;rw[zbY,List.filter_cons];by_cases e:x.2=id
  ·rw[if_pos e,if_neg (by simp[e])]
   symm
   rw[List.filter_eq_self];intro y hy;have:=h1 y hy;rw[e]at this
   simpa using this.symm
  ·rw[if_neg e,if_pos (by simpa using e),del_filter h2]
theorem SS.sub {mn:Int}{a b:List K}(h:SS mn b) (k:a.Sublist b):SS mn a:=⟨h.pw.sublist k,h.nd.sublist k⟩
theorem del_SS {mn:Int}{l:List K}{id:Int}(h:SS mn l):SS mn (del l id):=by
 rw[del_filter h.nd];exact h.sub List.filter_sublist
theorem ins_split {mn:Int}{k:K}{rg:List K}(hr:∀x∈rg,cvf mn k x<0):∀{lf:List K},(∀x∈lf,¬cvf mn k x<0)→ins mn (lf++rg) k=lf++k::rg
 | [],_=>by
  cases rg with
  | nil=>exact zaD mn k
  | cons x t=>rw[List.nil_append,jJ,if_pos (hr x List.mem_cons_self),List.nil_append]
 | x::t,h=>by
  rw[List.cons_append,jJ,if_neg (h x List.mem_cons_self),ins_split hr (fun y hy=>h y (List.mem_cons_of_mem _ hy)),List.cons_append]
theorem del_split {id:Int}{x:K}{rg:List K}(hx:x.2=id):∀{lf:List K},(∀y∈lf,y.2≠id)→del (lf++x::rg) id=lf++rg
 | [],_=>by rw[List.nil_append,zbY,if_pos hx,List.nil_append]
 | y::t,h=>by
  rw[List.cons_append,zbY,if_neg (h y List.mem_cons_self),del_split hx (fun z hz=>h z (List.mem_cons_of_mem _ hz)),List.cons_append]
structure J (mn:Int) (n:Nat) (t:St) (L:List K):Prop where
 ex:∃a,RT t a∧L=keysOf t a.ids
 ss:SS mn L
 len:t.ns.length=n
theorem J.right {mn:Int}{n:Nat}{t:St}{L:List K}(h:J mn n t L):yJ t mn=true:=by
 obtain⟨a,h1,h2⟩:=h.ex;exact h1.right (by rw[←h2];exact h.ss)
theorem J.walk {mn:Int}{n:Nat}{t:St}{L:List K}(h:J mn n t L):yA t=L:=by
 obtain⟨a,h1,h2⟩:=h.ex;rw[h1.walk,h2]
theorem J.small {mn:Int}{n:Nat}{t:St}{L:List K}(h:J mn n t L):L.length≤n:=by
 obtain⟨a,h1,h2⟩:=h.ex;rw[h2,←h.len];unfold keysOf;rw[List.length_map];exact xC h1.whole.nd (fun x hx=>h1.whole.lay.lt x hx)
theorem J.le {mn:Int}{n:Nat}{t:St}{L:List K}(h:J mn n t L):t.ns.length≤64:=by
 obtain⟨a,h1,h2⟩:=h.ex;exact h1.len
theorem mem_keys {t:St}{a:T}(h:Whole t a) {id:Int}(h0:0≤id):(∃x∈keysOf t a.ids,x.2=id)↔(gn t id.toNat).inn=true:=by
 rw[←h.mem];unfold keysOf;constructor
 ·rintro⟨x,hx,rfl⟩;obtain⟨z,hz,rfl⟩:=List.mem_map.1 hx;exact hz
 ·intro hz;exact⟨_,List.mem_map.2 ⟨_,hz,rfl⟩,by show((id.toNat:Nat):Int)=id;omega⟩
theorem del_J {mn:Int}{n:Nat}{t:St}{L:List K}{id:Int}(h:J mn n t L) (h0:0≤id) (h1:id<n) :
  (∃t',delF t mn id=some (t',0)∧J mn n t' (del L id)∧∃x∈L,x.2=id)∨(∃r:St × Int,delF t mn id=some r∧r.2=8∧∀x∈L,x.2≠id):=by
 have hr:=h.right;obtain⟨a,g1,g2⟩:=h.ex;have hl:=h.len;have hc:¬(id<0∨(t.ns.length:Int)≤id):=by omega
 have hm:=mem_keys g1.whole h0;rw[←g2]at hm;by_cases hi:(gn t id.toNat).inn=true;rotate_left
 ·right
  have hi':(gn t id.toNat).inn=false:=by simpa using hi
  refine⟨(⟨[],0⟩,8),?_,rfl,fun x hx e=>hi (hm.1 ⟨x,hx,e⟩)⟩;unfold delF;rw[if_neg (by rw[hr];simp),if_neg hc,if_pos hi']
 left
 obtain⟨t',a',lf,rg,e1,e2,e3,e4,e5,e6⟩:=del_ok g1 ((g1.whole.mem id.toNat).2 hi);have hnd:=g1.whole.nd;rw[e3]at hnd;have hno:∀z∈lf++rg,z≠id.toNat:=fun z hz e=>(List.nodup_cons.1 (List.perm_middle.nodup_iff.1 hnd)).1 (by rw[←e];exact hz)
 have hL:del L id=keysOf t' a'.ids:=by
  rw[g2,e3,e4,zaI (t:=t) (fun z hz=>e6 z (hno z hz)),zaH,zaH];show del (keysOf t lf++((gn t id.toNat).v,((id.toNat:Nat):Int))::keysOf t rg) id=_;refine del_split (by show((id.toNat:Nat):Int)=id;omega) fun y hy=>?_
  obtain⟨z,hz,rfl⟩:=List.mem_map.1 hy;have:=hno z (List.mem_append_left _ hz);show(z:Int)≠id;omega
 refine⟨t',?_,⟨⟨a',e2,hL⟩,del_SS h.ss,by rw[e5,hl]⟩,hm.2 hi⟩;unfold delF;rw[if_neg (by rw[hr];simp),if_neg hc,if_neg (by rw[hi];simp),e1]
theorem ins_J {mn:Int}{n:Nat}{t:St}{L:List K}{k:K}(h:J mn n t L) (h0:0≤k.2) (h1:k.2<n) :
  (∃t',insA t mn k=some (t',0)∧J mn n t' (ins mn L k)∧∀x∈L,x.2≠k.2)∨(∃r:St × Int,insA t mn k=some r∧r.2=1∧∃x∈L,x.2=k.2):=by
 have hr:=h.right;obtain⟨a,g1,g2⟩:=h.ex;have hl:=h.len;have hm:=mem_keys g1.whole h0;rw[←g2]at hm;by_cases hi:(gn t k.2.toNat).inn=true
 ·right
  refine⟨(⟨[],0⟩,1),?_,rfl,hm.2 hi⟩;unfold insA;rw[if_neg (by rw[hr];simp),if_pos (Or.inr (Or.inr hi))]
 left
 have hi':(gn t k.2.toNat).inn=false:=by simpa using hi
 have hno:∀x∈L,x.2≠k.2:=fun x hx e=>hi (hm.1 ⟨x,hx,e⟩)
 obtain⟨t',a',lf,rg,e1,e2,e3,e4,e5,e6,e7,e8,e9⟩:=ins_ok g1 (by rw[←g2];exact h.ss) h0 (by omega) hi';have hni:∀z∈lf++rg,z≠k.2.toNat:=fun z hz e=>hi ((g1.whole.mem _).1 (by rw[e3,←e];exact hz))
 refine⟨t',e1,⟨⟨a',e2,?_⟩,ins_SS h.ss hno,by rw[e7,hl]⟩,hno⟩;rw[g2,e3,e4,zaH,zaH];rw[ins_split (fun x hx=>?_) (fun x hx=>?_)]
 ·rw[zaI (t:=t) (l:=lf) (fun z hz=>e8 z (hni z (List.mem_append_left _ hz)))]
  congr 1
  show k::keysOf t rg=((gn t' k.2.toNat).v,((k.2.toNat:Nat):Int))::keysOf t' rg;rw[zaI (t:=t) (l:=rg) (fun z hz=>e8 z (hni z (List.mem_append_right _ hz))),e9,show((k.2.toNat:Nat):Int)=k.2 from by omega]
 ·obtain⟨z,hz,rfl⟩:=List.mem_map.1 hx;have:=e6 z hz;unfold ltA at this;exact of_decide_eq_true this
 ·obtain⟨z,hz,rfl⟩:=List.mem_map.1 hx;have:=e5 z hz;unfold ltA at this;exact of_decide_eq_false this
end Go.Proofs.YtnkhnnojdlgfjaaGreatDoor.Tm
end
section
namespace Go.Proofs.YtnkhnnojdlgfjaaGreatDoor.Qu
open RowKit Tr Tk Tm
structure Q where
 t:St
 cur:Int
 v:Int
 mn:Int
 load:Int
 ws:List Int
def q0:Q:=⟨⟨[],0⟩,0,0,0,0,[]⟩
def inA (t:St) (x:Int):Bool:=(gn t x.toNat).inn
def yV (q:Q) (id:Int):Bool:=q.cur==id || inA q.t id
def yF (w:Int):Bool:=decide (1≤w)&&decide (w≤88761)
def yG (q:Q) (id:Int):Bool:=decide (0≤id)&&decide (id<(q.ws.length:Int))
def yH (q:Q):List K:=if q.cur=-1 then yA q.t else ins q.mn (yA q.t) (q.v,q.cur)
def farA (mn:Int) (k:K):Bool:=decide (lagf mn k.1 < -1125899906842624) || decide (1125899906842624<lagf mn k.1)
def sumA:List Int→Int→Int
 | [],s=>s
 | w::l,s=>sumA l (wrap64 (s+w))
def okI (q:Q) (i:Nat):Bool:=(yV q (i:Int)==yF (q.ws.getD i 0))&&(yV q (i:Int) || q.ws.getD i 0==0)
def okW (q:Q):Bool:=(List.range q.ws.length).all (okI q)
def okT (q:Q):Bool:=decide (q.ws.length=q.t.ns.length)&&(decide (-1≤q.cur)&&(decide (q.cur<(q.t.ns.length:Int))&&yJ q.t q.mn))
def okC (q:Q):Bool:=if q.cur=-1 then q.v==0 else !(inA q.t q.cur)
def zP (q:Q):Bool:=okT q&&(okC q&&(okW q&&(sumA q.ws 0==q.load&&!((yH q).any (farA q.mn)))))
def zao (q:Q):List K:=if zP q=true then yH q else []
def newQ (n mn:Int):Q × Int:=if n<0∨64<n then (q0,1)else (⟨(newA n).1,-1,0,mn,0,List.replicate n.toNat 0⟩,0)
def qZ (q:Q) (id w:Int):Q:={ q with load:=wrap64 (q.load+wrap64 (w-q.ws.getD id.toNat 0)),ws:=q.ws.set id.toNat w }
def q9 (x lo hi:Int):Int:=if x<lo then lo else if hi<x then hi else x
def atA (mn lag:Int):Int:=IntKind.u64.wrap (mn+IntKind.u64.wrap lag)
def zcO (a b:Int):Bool:=IntKind.u64.wrap (b-a) != 0&&decide (IntKind.u64.wrap (b-a)<9223372036854775808)
def xB (a b:Int):Int:=if zcO a b=true then b else a
def vX (v mn d:Int):Int:=if d<1∨1125899906842624≤lagf mn v then v else IntKind.u64.wrap (v+(if IntKind.u64.wrap (1125899906842624-IntKind.u64.wrap (lagf mn v))<d then IntKind.u64.wrap (1125899906842624-IntKind.u64.wrap (lagf mn v))else d))
def jE (d w:Int):Int:=if 281474976710656<d*1024 / w then 281474976710656 else d*1024 / w
def upA (q:Q):Q:=match yH q with
 | []=>q
 | k::_=>{ q with mn:=xB q.mn k.1 }
def jZ (q:Q) (id w lag:Int):Option (Q × Int):=
 if zP q=false then some (q0,4)else if (yG q id&&yF w)=false then some (q0,1)else if yV q id=true then some (q0,9)
 else (insA q.t q.mn (atA q.mn (q9 lag (-1048576) 1125899906842624),id)).map fun r=>(qZ { q with t:=r.1 } id w,r.2)
def vG (q:Q) (id:Int):Option (Q × Int × Int):=
 if zP q=false then some (q0,0,4)else if yG q id=false then some (q0,0,1)else if yV q id=false then some (q0,0,8)
 else if id=q.cur then some (qZ { q with cur:=-1,v:=0 } id 0,lagf q.mn q.v,0)
 else (delF q.t q.mn id).map fun r=>(qZ { q with t:=r.1 } id 0,lagf q.mn (gn q.t id.toNat).v,r.2)
def kX (q:Q):Option Q:=if q.cur=-1 then some q else (insA q.t q.mn (q.v,q.cur)).map fun r=>{ q with t:=r.1,cur:=-1,v:=0 }
def putA (q:Q):Option (Q × Int × Int):=
 if zP q=false then some (q0,0,4)else if q.cur=-1 then some (q0,0,8)else (kX q).map fun x=>(x,q.cur,0)
def vR (l:List K):K:=l.getD 0 (0,0)
def vJ (q:Q):Option (Q × Int × Int):=
 if zP q=false then some (q0,0,4)else if yH q=[]then some (q0,0,8)
 else (kX q).bind fun x=>(delF x.t x.mn (vR (yA x.t)).2).map fun r=>(upA { x with t:=r.1,cur:=(vR (yA x.t)).2,v:=(vR (yA x.t)).1 },(vR (yA x.t)).2,r.2)
def jW (q:Q) (d:Int):Q × Bool × Int:=
 if zP q=false then (q0,false,4)else if d<0∨1099511627776<d then (q0,false,1)else if q.cur=-1 then (q0,false,8)
 else
  let x:=upA { q with v:=vX q.v q.mn (jE d (q.ws.getD q.cur.toNat 0)) }
  (x,decide (0<(yA x.t).length)&&decide (cvf x.mn (vR (yA x.t)) (x.v,x.cur)<0),0)
def wW (q:Q) (id w:Int):Q × Int:=
 if zP q=false then (q0,4)else if (yG q id&&yF w)=false then (q0,1)else if yV q id=false then (q0,8)else (qZ q id w,0)
end Go.Proofs.YtnkhnnojdlgfjaaGreatDoor.Qu
end
