/- Parts of the proof, joined: Tm12. -/
import Derived.Test.YtnkhnnojdlgfjaaGreatDoorUI10
set_option linter.unusedVariables false
set_option linter.unusedSimpArgs false
set_option maxHeartbeats 32000000
set_option maxRecDepth 100000
namespace Go.Proofs.YtnkhnnojdlgfjaaGreatDoor.Tm
open RowKit Tr Tk PA PB PC
theorem zO {P:Program}{fn:Func}{p q:Tmp}{ty:TypeId}(h:fn.results=#[.cell p ty,.tmp q]) (tmps:Array Value) (w:World) (g:Nat) (t:TypeId) (cs:Array Value) (fr:Nat × Nat) (d:TypeDesc)
  (hp:tmps.getD p undef=.pointer (some ⟨g,0,none⟩)) (hg:w.heap[g]?=some (.cells cs t fr))
  (hu:P.underlying ty=some d) (hd:(match d with | .struct _ | .array _ _=>true|_=>false)=true) (hi:(P.info? ty).map (·.size)=some cs.size) :
  (results fn tmps).run P w=.ok (.tuple #[.agg cs,tmps.getD q undef]) w:=by
 have hp':tmps[p]?.getD undef=.pointer (some ⟨g,0,none⟩):=by simpa using hp
 simp[results,h,hp',asAddr,run_loadVar_row w g t ty cs fr d hg hu hd hi]
theorem lay_ok {t:St}:∀{a:T}{u:Int},Lay t a (some u)→u<t.ns.length→∀z∈a.ids,(gn t z).l<t.ns.length∧(gn t z).r<t.ns.length∧(gn t z).u<t.ns.length
 | .E,_,_,_,z,hz=>by cases hz
 | .B c l x r,u,⟨h1,h2,h3,h4,h5,h6,h7,h8⟩,hu,z,hz=>by
  have hx:(x:Int)<(t.ns.length:Int):=by omega
  rcases List.mem_append.1 hz with h|h
  ·exact lay_ok h7 hx z h
  ·rcases List.mem_cons.1 h with rfl|h
   ·exact⟨by rw[h4];exact wX h7.loose,by rw[h5];exact wX h8.loose,by rw[h6 u rfl];exact hu⟩
   ·exact lay_ok h8 hx z h
theorem Whole.ok {t:St}{a:T}(h:Whole t a):Ok t:=by
 refine⟨fun z=>?_,by rw[h.rt];exact wX h.lay.loose⟩;by_cases hz:z∈a.ids
 ·exact lay_ok h.lay (by omega) z hz
 have he:gn t z=emp:=by
  by_cases hl:z<t.ns.length
  ·exact h.o z hl hz
  unfold gn;rw[List.getD_eq_getElem?_getD,List.getElem?_eq_none (by omega)];rfl
 rw[he];show(-1:Int)<_∧(-1:Int)<_∧(-1:Int)<_;omega
variable {w : World} {t : St}
theorem zbv {mn:Int}(h:yJ t mn=true):∃a,ordA t=some a∧Whole t a∧t.ns.length≤64:=by
 cases hO:ordA t with
 | none=>rw[zaV mn hO]at h;cases h
 | some a=>exact⟨a,rfl,(xS.1 hO).2,(xS.1 hO).1⟩
theorem zbP {mn:Int}(h:yJ t mn=true):Ok t:=by
 obtain⟨a,_,h2,_⟩:=zbv h;exact h2.ok
def newN (v:Int):Nd:=⟨true,true,v,-1,-1,-1⟩
def ltA (t:St) (mn:Int) (k:K) (x:Nat):Bool:=decide (cvf mn k ((gn t x).v,(x:Int))<0)
def insA (t:St) (mn:Int) (k:K):Option (St × Int):=
 if yJ t mn=false then some (⟨[],0⟩,4)
 else if k.2<0∨(t.ns.length:Int)≤k.2∨(gn t k.2.toNat).inn=true then some (⟨[],0⟩,1)
 else match kW (t.ns.length+2) t (ltA t mn k) t.rt (-1) false with
  | none=>none
  | some (up,s)=>match xZ (t.ns.length+2) (zM (sn t k.2.toNat (newN k.1)) up s k.2) k.2 with
   | none=>none
   | some t'=>some (t',0)
structure jI (w:World) (r:St × Int) (e:Ending) (w':World):Prop where mk::
 o:∃v,e=.returned (.tuple #[.agg #[.int .i64 r.1.rt,v],.int .i64 r.2])∧kn.R 72 w' w.heap.size (fun _=>True) v r.1.ns∧Below w.heap.size w w'
theorem jI.nil {w w':World}{n:Int}(hb:Below w.heap.size w w'):jI w (⟨[],0⟩,n) (.returned (.tuple #[.agg #[.int .i64 0,.slice none 0 0],.int .i64 n])) w':=⟨_,rfl,Kd.jT _ _ _ _ _,hb⟩
theorem Wk.toR {A:Option Addr}{c g b N:Nat}(h:Wk A c w g b t) (h0:0<t.ns.length) (hb:N≤b):kn.R 72 w N (fun _=>True) (.slice A t.ns.length c) t.ns:=by
 obtain⟨rfl,cur,rs,h1,h2⟩:=h.nodes h0;obtain⟨c1,c2,c3⟩:=h.cap h0;have hs:=c3 cur h1;refine arr_R h1 h2 hb trivial c1 c2 ?_;rw[←Array.length_toList,h2,List.length_append,zY]at hs;exact hs
theorem set2 {w:World}{g:Nat}{cs:Array Value}{ty:TypeId}(h:w.heap[g]?=some (.cells cs ty (0,0))) (hs:cs.size=2) (u v:Value):((w.setCell ⟨g,0,none⟩ u).setCell ⟨g,1,none⟩ v).heap[g]?=some (.cells #[u,v] ty (0,0)):=by
 rw[yR (yR h 0 u) 1 v];obtain⟨l⟩:=cs
 match l,hs with
 | [a,b],_=>rfl
theorem First_ (A0:Option Addr) (c0:Nat) (hr:kn.C w A0 t.ns.length t.ns) (hl:t.ns.length≤1000000) (hT:Emp w) :
  Calls Tryz.prog 31 #[.agg #[.int .i64 t.rt,.slice A0 t.ns.length c0]] w fun e w'=>e=.returned (.tuple #[.agg #[.int .u64 ((yA t).getD 0 (0,0)).1,.int .i64 ((yA t).getD 0 (0,0)).2],.bool (decide (0<(yA t).length))])∧Below w.heap.size w w':=by
 have HB1:=Z (zB (zB (Below.refl w.heap.size w) (.cells #[.int .i64 t.rt,.slice A0 t.ns.length c0] 27)) (.cells #[.int .u64 0,.int .i64 0] 38));have HZ:zA (((w.alloc (.cells #[.int .i64 t.rt,.slice A0 t.ns.length c0] 27)).alloc (.cells #[.int .u64 0,.int .i64 0] 38)).heap[w.heap.size+1]?=some (.cells #[.int .u64 0,.int .i64 0] 38 (0,0))):=⟨by have:=zQ (w.alloc (.cells #[.int .i64 t.rt,.slice A0 t.ns.length c0] 27)) (.cells #[.int .u64 0,.int .i64 0] 38);simpa using this⟩;have HR:=Z hr;have HL:=Z hl;have HT1:=Z (hT.below HB1.o);clear hr hl hT;go_enter Tryz.func31,Tryz.ntmps31;go_upto_region 2 with(go_at_call 72;refine(Walk_ A0 c0 (Kd.zU HR.o HB1.o) HL.o HT1.o).mono ?_;rintro e w6 ⟨v,rfl,hR6,hB6⟩;obtain⟨A6,c6,hv6,hlc6,hC6⟩:=Kd.yE hR6;subst hv6;have HC6:=Z hC6;have HB6:=Z (zD HB1.o hB6);have HZ6:=Z (zH HZ.o hB6);clear hR6 hB6 hC6 hlc6);have f0:=zK HZ6.o 0;have f1:=zK HZ6.o 1;have c3:=(show w6.cell? ⟨w.heap.size+1,0,none⟩=some (.int .u64 0)from(zC HZ6.o 0).trans rfl);have c4:=(show w6.cell? ⟨w.heap.size+1,1,none⟩=some (.int .i64 0)from(zC HZ6.o 1).trans rfl);obtain⟨x,hx⟩:∃x,x=(yA t).getD 0 (0,0):=⟨_,rfl⟩;obtain⟨n,hn⟩:∃n,n=(yA t).length:=⟨_,rfl⟩;have HX:=Z hx.symm;have HNL:=Z hn.symm;have HBX:=Z (show Below w.heap.size w ((w6.setCell ⟨w.heap.size+1,0,none⟩ (.int .u64 x.1)).setCell ⟨w.heap.size+1,1,none⟩ (.int .i64 x.2))from Below.setCell (Below.setCell HB6.o (p:=⟨w.heap.size+1,0,none⟩) (by simp) _) (p:=⟨w.heap.size+1,1,none⟩) (by simp) _);rcases Nat.eq_zero_or_pos n with h0|h0
 ·have hd:decide ((0:Int)<((yA t).length:Int))=false:=decide_eq_false (by omega);have hd2:¬(0:Int)<((yA t).length:Int):=by omega
  have hd3:(yA t).length=0:=by omega
  rw[hd3];have hx0:x=(0,0):=by rw[hx,List.eq_nil_of_length_eq_zero (hn.symm.trans h0)];rfl
  have HX0:=Z hx0;clear hx hn hx0;go_wp2;refine bodyPost_ret (zO (cs:=#[.int .u64 0,.int .i64 0]) rfl _ _ (w.heap.size+1) 38 (0,0) _ rfl (set2 HZ6.o rfl _ _) Tryz.underlying38 rfl (by kernel_rfl)) rfl ?_;refine⟨?_,by have:=HBX.o;rw[HX0.o]at this;exact this⟩
  rfl
 ·have hd:(0:Int)<((yA t).length:Int):=by omega
  obtain⟨ad,e1,d0,d1⟩:=Tk.C_at HC6.o 0 (by omega);subst e1;have ex:Tk.gt (yA t) 0=x:=hx.symm;rw[ex]at d0 d1;simp only[Nat.zero_mul,Addr.add_zero']at d0 d1;clear hx hn ex;go_wp2;refine bodyPost_ret (zO (cs:=#[.int .u64 x.1,.int .i64 x.2]) rfl _ _ (w.heap.size+1) 38 (0,0) _ rfl (set2 HZ6.o rfl _ _) Tryz.underlying38 rfl (by kernel_rfl)) rfl ?_;refine⟨?_,HBX.o⟩;rw[HX.o,HNL.o,decide_eq_true h0]
  rfl
theorem Wk.zaO {A:Option Addr}{c g b:Nat}(h:Wk A c w g b t) (x:Nat) (hx:x<t.ns.length) (y:Nd) :
  Wk A c ((((((w.setCell ⟨b,x*6,none⟩ (.bool y.inn)).setCell ⟨b,x*6+1,none⟩ (.bool y.red)).setCell ⟨b,x*6+2,none⟩ (.int .u64 y.v)).setCell ⟨b,x*6+3,none⟩ (.int .i64 y.l)).setCell ⟨b,x*6+4,none⟩ (.int .i64 y.r)).setCell ⟨b,x*6+5,none⟩ (.int .i64 y.u)) g b (sn t x y):=by
 have e:∀n:Nd,gn (sn t x n) x=n:=fun n=>by rw[wM _ _ _ _ hx,if_pos rfl]
 have ss:∀n m:Nd,sn (sn t x n) x m=sn t x m:=fun n m=>by unfold sn;rw[List.set_set]
 have k0:=h.set x 0 { gn t x with inn:=y.inn } (.bool y.inn) hx (by omega) rfl;have k1:=k0.set x 1 { gn t x with inn:=y.inn,red:=y.red } (.bool y.red) (by rw[xQ];exact hx) (by omega) (by rw[e];rfl);rw[ss]at k1;have k2:=k1.set x 2 { gn t x with inn:=y.inn,red:=y.red,v:=y.v } (.int .u64 y.v) (by rw[xQ];exact hx) (by omega) (by rw[e];rfl);rw[ss]at k2;have k3:=k2.set x 3 { gn t x with inn:=y.inn,red:=y.red,v:=y.v,l:=y.l } (.int .i64 y.l) (by rw[xQ];exact hx) (by omega) (by rw[e];rfl);rw[ss]at k3;have k4:=k3.set x 4 { gn t x with inn:=y.inn,red:=y.red,v:=y.v,l:=y.l,r:=y.r } (.int .i64 y.r) (by rw[xQ];exact hx) (by omega) (by rw[e];rfl);rw[ss]at k4;have k5:=k4.set x 5 y (.int .i64 y.u) (by rw[xQ];exact hx) (by omega) (by rw[e];rfl);rw[ss]at k5;exact k5
theorem zbT:∀(k:Nat) {t t':St}{x:Int},xZ k t x=some t'→t'.ns.length=t.ns.length
 | 0,t,t',x,h=>by cases h
 | k+1,t,t',x,h=>by
  rw[xZ]at h;split at h
  ·split at h
   ·split at h
    ·rw[zbT k h,zF,zF,zF]
    ·split at h
     ·unfold vO at h;split at h
      ·rw[zbT k h,xD,zF,zF]
      ·cases h
     ·split at h
      ·unfold vO at h;split at h
       ·rw[zbT k h,xD,zF,zF,xD]
       ·cases h
      ·cases h
   ·cases h
  ·rw[←Option.some.inj h,zF]
structure DRel (A:Option Addr) (c g b:Nat) (t:St) (wq:World) (lt:Nat→Bool) (res:Int × Bool) (vu vs vx:Value) (wr:World) (k:Nat):Prop where mk::
 o:∃(up:Int) (s:Bool) (x:Int),vu=.int .i64 up∧vs=.int .i64 (sd s)∧vx=.int .i64 x∧up<t.ns.length∧x<t.ns.length∧kW k t lt x up s=some res∧Below wq.heap.size wq wr
structure DRl (A:Option Addr) (c g b:Nat) (t:St) (wq:World) (lt:Nat→Bool) (res:Int × Bool) (vu vs vx:Value) (wr:World):Prop where mk::
 o:∃k,DRel A c g b t wq lt res vu vs vx wr k
theorem Insert_ (A0:Option Addr) (c0:Nat) (mn:Int) (kk:K) (r:St × Int) (hr:kn.C w A0 t.ns.length t.ns) (hl:t.ns.length≤1000000) (hT:Emp w) (hf:insA t mn kk=some r) :
  Calls Tryz.prog 45 #[.agg #[.int .i64 t.rt,.slice A0 t.ns.length c0],.int .u64 mn,.agg #[.int .u64 kk.1,.int .i64 kk.2]] w fun e w'=>jI w r e w':=by
 have HR:=Z hr;have HL:=Z hl;have HT:=Z hT;have HF:=Z hf;clear hr hl hT hf;obtain⟨kv,ki⟩:=kk;simp only at HF⊢;go_enter Tryz.func45,Tryz.ntmps45;go_upto_region 1 with(fail);have HB1:=Z (zB (zB (zB (Below.refl w.heap.size w) (.cells #[.int .i64 t.rt,.slice A0 t.ns.length c0] 27)) (.cells #[.int .u64 kv,.int .i64 ki] 38)) (.cells #[.int .i64 0,.slice none 0 0] 27));have H1:=zQ w (.cells #[.int .i64 t.rt,.slice A0 t.ns.length c0] 27);have H2:=zQ (w.alloc (.cells #[.int .i64 t.rt,.slice A0 t.ns.length c0] 27)) (.cells #[.int .u64 kv,.int .i64 ki] 38);have H3:=zQ ((w.alloc (.cells #[.int .i64 t.rt,.slice A0 t.ns.length c0] 27)).alloc (.cells #[.int .u64 kv,.int .i64 ki] 38)) (.cells #[.int .i64 0,.slice none 0 0] 27);have HX1:=Z (zH (zH H1 (zB (Below.refl _ _) (.cells #[.int .u64 kv,.int .i64 ki] 38))) (zB (Below.refl _ _) (.cells #[.int .i64 0,.slice none 0 0] 27)));have HY1:=Z (zH H2 (zB (Below.refl _ _) (.cells #[.int .i64 0,.slice none 0 0] 27)));have HZ1:=Z H3;clear H1 H2 H3;simp only[World.size_alloc]at HY1 HZ1;have HS1:=Z (show(((w.alloc (.cells #[.int .i64 t.rt,.slice A0 t.ns.length c0] 27)).alloc (.cells #[.int .u64 kv,.int .i64 ki] 38)).alloc (.cells #[.int .i64 0,.slice none 0 0] 27)).heap.size=w.heap.size+1+1+1 by simp);generalize((w.alloc (.cells #[.int .i64 t.rt,.slice A0 t.ns.length c0] 27)).alloc (.cells #[.int .u64 kv,.int .i64 ki] 38)).alloc (.cells #[.int .i64 0,.slice none 0 0] 27)=W1 at HB1 HX1 HY1 HZ1 HS1⊢;have HT1:=Z (HT.o.below HB1.o);have a0:=(show W1.cell? ⟨w.heap.size,0,none⟩=some (.int .i64 t.rt)from(zC HX1.o 0).trans rfl);have a1:=(show W1.cell? ⟨w.heap.size,1,none⟩=some (.slice A0 t.ns.length c0)from(zC HX1.o 1).trans rfl)
 -- the boxes behind a step
 have stepBox:=fun(w2:World) (hb:Below W1.heap.size W1 w2)=>And.intro (zH HX1.o hb) (And.intro (zH HY1.o hb) (And.intro (zH HZ1.o hb) (And.intro (zD HB1.o hb) (HT1.o.below hb))))
 have SB:=Z stepBox;clear stepBox;have nilEnd:=fun(w2:World) (hz:w2.heap[w.heap.size+1+1]?=some (.cells #[.int .i64 0,.slice none 0 0] 27 (0,0))) (hb:Below w.heap.size w w2) (n:Int)=>(show jI w (⟨[],0⟩,n) (.returned (.tuple #[.agg #[.int .i64 0,.slice none 0 0],.int .i64 n])) ((w2.setCell ⟨w.heap.size+1+1,0,none⟩ (.int .i64 0)).setCell ⟨w.heap.size+1+1,1,none⟩ (.slice none 0 0))from
  jI.nil (Below.setCell (Below.setCell hb (p:=⟨w.heap.size+1+1,0,none⟩) (by show w.heap.size≤w.heap.size+1+1;omega) _) (p:=⟨w.heap.size+1+1,1,none⟩) (by show w.heap.size≤w.heap.size+1+1;omega) _))
 have NE:=Z nilEnd;clear nilEnd;cases hri:yJ t mn with
 | false=>
  have hF:=HF.o;rw[insA,hri,if_pos rfl]at hF;obtain rfl:=Option.some.inj hF;have HRI:=Z hri;clear hF hri HF;go_upto_region 2 with(go_at_call 67;refine(zbf A0 c0 mn (Kd.zU HR.o HB1.o) HL.o HT1.o).mono ?_;rintro e w2 ⟨rfl,hB⟩;have HB2:=Z hB;clear hB;rw[HRI.o]);obtain⟨x2,y2,z2,b2,t2⟩:=SB.o _ HB2.o;have HZ2:=Z z2;have HBW:=Z b2;have f0:=zK z2 0;have f1:=zK z2 1;have c3:=(show w2.cell? ⟨w.heap.size+1+1,0,none⟩=some (.int .i64 0)from(zC z2 0).trans rfl);have c4:=(show w2.cell? ⟨w.heap.size+1+1,1,none⟩=some (.slice none 0 0)from(zC z2 1).trans rfl);clear x2 y2 z2 b2 t2;go_wp2;refine bodyPost_ret (zO (cs:=#[.int .i64 0,.slice none 0 0]) rfl _ _ (w.heap.size+1+1) 27 (0,0) _ rfl (set2 HZ2.o rfl _ _) Tryz.underlying27 rfl (by kernel_rfl)) rfl ?_;exact NE.o _ HZ2.o HBW.o 4
 | true=>
  have HRI:=Z hri;have HOK:=Z (zbP hri);have hF:=HF.o;rw[insA,hri,if_neg (by simp)]at hF;have HF2:=Z hF;clear hF hri HF;go_upto_region 3 with(go_at_call 67;refine(zbf A0 c0 mn (Kd.zU HR.o HB1.o) HL.o HT1.o).mono ?_;rintro e w2 ⟨rfl,hB⟩;have HB2:=Z hB;clear hB;rw[HRI.o]);obtain⟨x2,y2,z2,b2,t2⟩:=SB.o _ HB2.o;have HX2:=Z x2;have HY2:=Z y2;have HZ2:=Z z2;have HBW:=Z b2;have HT2:=Z t2;have f0:=zK z2 0;have f1:=zK z2 1;have c3:=(show w2.cell? ⟨w.heap.size+1+1,0,none⟩=some (.int .i64 0)from(zC z2 0).trans rfl);have c4:=(show w2.cell? ⟨w.heap.size+1+1,1,none⟩=some (.slice none 0 0)from(zC z2 1).trans rfl);have a2:=(show w2.cell? ⟨w.heap.size,0,none⟩=some (.int .i64 t.rt)from(zC x2 0).trans rfl);have a3:=(show w2.cell? ⟨w.heap.size,1,none⟩=some (.slice A0 t.ns.length c0)from(zC x2 1).trans rfl);have k0:=(show w2.cell? ⟨w.heap.size+1,0,none⟩=some (.int .u64 kv)from(zC y2 0).trans rfl);have k1:=(show w2.cell? ⟨w.heap.size+1,1,none⟩=some (.int .i64 ki)from(zC y2 1).trans rfl);clear x2 y2 z2 b2 t2 a0 a1;by_cases hbad:ki<0∨(t.ns.length:Int)≤ki∨(gn t ki.toNat).inn=true
  ·have hF:=HF2.o;rw[if_pos hbad]at hF;obtain rfl:=Option.some.inj hF;clear hF HF2;by_cases b1:ki<0
   ·clear hbad;go_wp2;refine bodyPost_ret (zO (cs:=#[.int .i64 0,.slice none 0 0]) rfl _ _ (w.heap.size+1+1) 27 (0,0) _ rfl (set2 HZ2.o rfl _ _) Tryz.underlying27 rfl (by kernel_rfl)) rfl ?_;exact NE.o _ HZ2.o HBW.o 1
   by_cases b2:(t.ns.length:Int)≤ki
   ·clear hbad;have b11:decide (ki<0)=false:=decide_eq_false b1;go_wp2;refine bodyPost_ret (zO (cs:=#[.int .i64 0,.slice none 0 0]) rfl _ _ (w.heap.size+1+1) 27 (0,0) _ rfl (set2 HZ2.o rfl _ _) Tryz.underlying27 rfl (by kernel_rfl)) rfl ?_;exact NE.o _ HZ2.o HBW.o 1
   have b3:=hbad.resolve_left b1 |>.resolve_left b2
   have b11:decide (ki<0)=false:=decide_eq_false b1;have b12:decide ((t.ns.length:Int)≤ki)=false:=decide_eq_false b2;obtain⟨ad,e1,d0,_⟩:=kV (Kd.zU HR.o HBW.o) ki (by omega) (by omega);subst e1;rw[show(t.ns.getD ki.toNat emp).inn=true from b3]at d0;clear hbad b3;have g1:0≤ki:=by omega
   have g2:ki<(t.ns.length:Int):=by omega
   go_wp2;refine bodyPost_ret (zO (cs:=#[.int .i64 0,.slice none 0 0]) rfl _ _ (w.heap.size+1+1) 27 (0,0) _ rfl (set2 HZ2.o rfl _ _) Tryz.underlying27 rfl (by kernel_rfl)) rfl ?_;exact NE.o _ HZ2.o HBW.o 1
  have hF:=HF2.o;rw[if_neg hbad]at hF;simp only[not_or]at hbad;obtain⟨b1,b2,b3⟩:=hbad;have HF3:=Z hF;clear hF HF2;have b11:decide (ki<0)=false:=decide_eq_false b1;have b12:decide ((t.ns.length:Int)≤ki)=false:=decide_eq_false b2;have g1:0≤ki:=by omega
  have g2:ki<(t.ns.length:Int):=by omega
  have HCW:=Z (Kd.zU HR.o HBW.o);have HLT2:=Z (show w.heap.size+1+1<w2.heap.size from(Array.getElem?_eq_some_iff.1 HZ2.o).1);obtain⟨ad,e1,d0,_⟩:=kV HCW.o ki g1 g2;subst e1;rw[show(t.ns.getD ki.toNat emp).inn=false from(show(gn t ki.toNat).inn=false by simpa using b3)]at d0;clear b3;go_upto_region 6 with(go_at_call 75;refine(zbe (some ad) c0 t _ HCW.o HL.o).mono ?_;rintro e wq ⟨A,c,g,b,rfl,hW,hg,hb,hB,hc,hn⟩;have HW3:=Z hW;have HX3:=Z (zH HX2.o hB);have HY3:=Z (zH HY2.o hB);have HZ3:=Z (zH HZ2.o hB);have HBW3:=Z (zD HBW.o hB);have HT3:=Z (HT2.o.below hB);have HG3:=Z hg;have HBB3:=Z hb;clear hW hg hb hB hc hn);clear a2 a3 c3 c4 f0 f1 k0 k1 d0;obtain⟨dres,hdn,hF4⟩:∃dres,kW (t.ns.length+2) t (ltA t mn (kv,ki)) t.rt (-1) false=some dres∧(match xZ (t.ns.length+2) (zM (sn t ki.toNat (newN kv)) dres.1 dres.2 ki) ki with|none=>none|some t'=>some (t',(0:Int)))=some r:=by
   have h:=HF3.o;cases hd:kW (t.ns.length+2) t (ltA t mn (kv,ki)) t.rt (-1) false with
   | none=>rw[hd]at h;cases h
   | some d=>rw[hd]at h;exact⟨d,rfl,h⟩
  obtain⟨t',hm,hr'⟩:∃t',xZ (t.ns.length+2) (zM (sn t ki.toNat (newN kv)) dres.1 dres.2 ki) ki=some t'∧r=(t',0):=by
   cases hd:xZ (t.ns.length+2) (zM (sn t ki.toNat (newN kv)) dres.1 dres.2 ki) ki with
   | none=>rw[hd]at hF4;cases hF4
   | some t'=>rw[hd]at hF4;exact⟨t',rfl,(Option.some.inj hF4).symm⟩
  have HDN:=Z hdn;have HMD:=Z hm;have HRR:=Z hr';clear hdn hF4 hm hr' HF3;have c1:=HW3.o.c1;have HBR:=Z (Below.refl wq.heap.size wq);go_upto_region 8 with(fail)
  go_loopw [9,10,11] (fun vu vs vx wr=>DRl A c g b t wq (ltA t mn (kv,ki)) dres vu vs vx wr) (fun vu vs vx wr=>least (DRel A c g b t wq (ltA t mn (kv,ki)) dres vu vs vx wr))
  case atStart=>exact⟨t.ns.length+2,-1,false,t.rt,rfl,rfl,rfl,by omega,HOK.o.rt,HDN.o,HBR.o⟩
  case round=>
   clear HBR c1;have HRq:=yU hrel.o;obtain⟨hR1,hR2⟩:=HRq;have HLq:=Z hR2;generalize hlk:least _=lk at hR1 HLq⊢;obtain⟨up,s,x,rfl,rfl,rfl,hup,hx,hdn,hB⟩:=hR1.o;obtain⟨m,rfl⟩:∃m,lk=m+1:=by
    cases lk with
    | zero=>simp[kW]at hdn
    | succ m=>exact⟨m,rfl⟩
   rw[kW]at hdn;have HW5:=Z (HW3.o.below hB);have HB5:=Z hB;have HY5:=Z (zH HY3.o hB);have HUP:=Z hup;have HX5:=Z hx;clear hR2 hrel hR1 HLq hB hup;by_cases hx0:0≤x
   ·rw[if_pos hx0]at hdn;have HD5:=Z hdn;have H05:=Z hx0;have c0:=HW5.o.c0;rw[HW5.o.addr (by omega)]at c0;have d2:=HW5.o.fv x hx0 hx;have k0:=(show wr.cell? ⟨w.heap.size+1,0,none⟩=some (.int .u64 kv)from(zC HY5.o 0).trans rfl);have k1:=(show wr.cell? ⟨w.heap.size+1,1,none⟩=some (.int .i64 ki)from(zC HY5.o 1).trans rfl);clear hdn;have HLT:=Z (show decide (cvf mn (kv,ki) ((gn t x.toNat).v,x)<0)=ltA t mn (kv,ki) x.toNat by unfold ltA;rw[show((x.toNat:Nat):Int)=x by omega]);have HBD:=Z (Below.drew HB5.o);have fin:=fun(ww:World) (hb:Below wq.heap.size wq ww) (lt:Bool) (hd:kW m t (ltA t mn (kv,ki)) (kidA t x (!lt)) x (!lt)=some dres)=>(show DRel A c g b t wq (ltA t mn (kv,ki)) dres (Value.int IntKind.i64 x) (Value.int IntKind.i64 (sd (!lt))) (Value.int IntKind.i64 (kidA t x (!lt))) ww m from⟨x,!lt,kidA t x (!lt),rfl,rfl,rfl,HX5.o,HOK.o.kid _ _,hd,hb⟩)
    have FIN:=Z fin;clear fin;cases hlt:ltA t mn (kv,ki) x.toNat with
    | true=>
     rw[hlt]at HD5 HLT;have hnt:(!true)=false:=rfl;rw[hnt]at HD5;clear hlt;go_upto_region 11 with(fail)
     go_region_with (go_at_call 60;refine(zaa (cmp26 mn) (kv,ki) ((gn t x.toNat).v,x) _).mono ?_;rintro e w6 ⟨rfl,hb⟩;have HB6:=Z (zD HBD.o hb);clear hb;rw[HLT.o])
     all_goals
      go_wp2_with (go_at_call 88;refine(qF (HW3.o.below HB6.o) x H05.o HX5.o false 0 rfl _ rfl).mono ?_;rintro e w7 ⟨rfl,rfl⟩);have hq:=FIN.o _ HB6.o true HD5.o;refine⟨⟨m,hq⟩,?_⟩;have h3:=(yU ⟨m,hq⟩).2 m hq;exact Nat.lt_of_le_of_lt h3 (by rw[hlk];omega)
    | false=>
     rw[hlt]at HD5 HLT;have hnt:(!false)=true:=rfl;rw[hnt]at HD5;clear hlt;go_upto_region 11 with(fail)
     go_region_with (go_at_call 60;refine(zaa (cmp26 mn) (kv,ki) ((gn t x.toNat).v,x) _).mono ?_;rintro e w6 ⟨rfl,hb⟩;have HB6:=Z (zD HBD.o hb);clear hb;rw[HLT.o])
     all_goals
      go_wp2_with (go_at_call 88;refine(qF (HW3.o.below HB6.o) x H05.o HX5.o true 1 rfl _ rfl).mono ?_;rintro e w7 ⟨rfl,rfl⟩);have hq:=FIN.o _ HB6.o false HD5.o;refine⟨⟨m,hq⟩,?_⟩;have h3:=(yU ⟨m,hq⟩).2 m hq;exact Nat.lt_of_le_of_lt h3 (by rw[hlk];omega)
   rw[if_neg hx0]at hdn;obtain rfl:=Option.some.inj hdn;clear hdn;have hxd:decide (0≤x)=false:=decide_eq_false hx0;simp only at HMD;have c0:=HW5.o.c0;rw[HW5.o.addr (by omega)]at c0;have HZ5:=Z (zH HZ3.o HB5.o);have k0:=(show wr.cell? ⟨w.heap.size+1,0,none⟩=some (.int .u64 kv)from(zC HY5.o 0).trans rfl);have k1:=(show wr.cell? ⟨w.heap.size+1,1,none⟩=some (.int .i64 ki)from(zC HY5.o 1).trans rfl);have n0:=HW5.o.fin ki g1 g2;have n1:=HW5.o.at_ ki.toNat 1 (by omega) (by omega);have n2:=HW5.o.fv ki g1 g2;have n3:=HW5.o.fl ki g1 g2;have n4:=HW5.o.fr ki g1 g2;have n5:=HW5.o.fu ki g1 g2;have m1:wr.cell? ⟨b,ki.toNat*6+1,none⟩=some (.bool (gn t ki.toNat).red):=n1;have q0:=HW5.o.yI (by omega) (ki.toNat*6);have q1:=HW5.o.yI (by omega) (ki.toNat*6+1);have q2:=HW5.o.yI (by omega) (ki.toNat*6+2);have q3:=HW5.o.yI (by omega) (ki.toNat*6+3);have q4:=HW5.o.yI (by omega) (ki.toNat*6+4);have q5:=HW5.o.yI (by omega) (ki.toNat*6+5);clear n1;go_upto_region 13 with(fail)
   go_region
   have hW6:=(HW5.o.zaO ki.toNat (by omega) (newN kv)).drew;have hG6:Gs g b wr (((((((wr.setCell ⟨b,ki.toNat*6,none⟩ (.bool true)).setCell ⟨b,ki.toNat*6+1,none⟩ (.bool true)).setCell ⟨b,ki.toNat*6+2,none⟩ (.int .u64 kv)).setCell ⟨b,ki.toNat*6+3,none⟩ (.int .i64 (-1))).setCell ⟨b,ki.toNat*6+4,none⟩ (.int .i64 (-1))).setCell ⟨b,ki.toNat*6+5,none⟩ (.int .i64 (-1))).drew):=((((((((Gs.refl g b wr).setB _ _).setB _ _).setB _ _).setB _ _).setB _ _).setB _ _).drew);have HW6:=Z (show Wk A c (((((((wr.setCell ⟨b,ki.toNat*6,none⟩ (.bool true)).setCell ⟨b,ki.toNat*6+1,none⟩ (.bool true)).setCell ⟨b,ki.toNat*6+2,none⟩ (.int .u64 kv)).setCell ⟨b,ki.toNat*6+3,none⟩ (.int .i64 (-1))).setCell ⟨b,ki.toNat*6+4,none⟩ (.int .i64 (-1))).setCell ⟨b,ki.toNat*6+5,none⟩ (.int .i64 (-1))).drew) g b (sn t ki.toNat (newN kv))from hW6);have HG6:=Z hG6;clear hW6 hG6 n0 n2 n3 n4 n5 m1 q0 q1 q2 q3 q4 q5 k0 k1 c0;generalize World.drew _=w6 at HW6 HG6⊢;have HWB:=Z (show w.heap.size+1+1<wr.heap.size by have:=(Array.getElem?_eq_some_iff.1 HZ5.o).1;exact this);have HNB:=Z (show w.heap.size+1+1<g∧w.heap.size+1+1<b from by
    have h1:=HG3.o;have h2:=HBB3.o;have h3:=HLT2.o;omega)
   have box:=fun(ww:World) (hg:Gs g b wr ww)=>And.intro ((hg.block _ (by have:=HWB.o;omega) (by have:=HNB.o;omega) (by have:=HNB.o;omega)).trans HY5.o) ((hg.block _ HWB.o (by have:=HNB.o;omega) (by have:=HNB.o;omega)).trans HZ5.o)
   have BOX:=Z box;clear box;have y6:=(BOX.o _ HG6.o).1;have k1:=(show w6.cell? ⟨w.heap.size+1,1,none⟩=some (.int .i64 ki)from(zC y6 1).trans rfl);have T1L:=Z (show(sn t ki.toNat (newN kv)).ns.length=t.ns.length from xQ _ _ _);have T1O:=Z (show Ok (sn t ki.toNat (newN kv))from HOK.o.sn _ _ (by omega) (by show(-1:Int)<_∧(-1:Int)<_∧(-1:Int)<_;omega));generalize sn t ki.toNat (newN kv)=T1 at HW6 T1L T1O HMD;have T2L:=Z (show(zM T1 up s ki).ns.length=t.ns.length by rw[zX];exact T1L.o);have T2O:=Z (T1O.o.hang up s ki (by rw[T1L.o];exact HUP.o) (by rw[T1L.o];exact g2));have G2:=Z g2;go_upto_region 15 with(go_at_call 77;refine(zaN HW6.o up ki s (by rw[T1L.o];exact HUP.o) (by rw[T1L.o];exact G2.o)).mono ?_;rintro e w7 ⟨rfl,hW,hG⟩;have HW7:=Z hW;have HG7:=Z (HG6.o.trans hG);clear hW hG);generalize zM T1 up s ki=T2 at HW7 T2L T2O HMD;have y7:=(BOX.o _ HG7.o).1;have k2:=(show w7.cell? ⟨w.heap.size+1,1,none⟩=some (.int .i64 ki)from(zC y7 1).trans rfl);have T3L:=Z (show t'.ns.length=t.ns.length from(zbT _ HMD.o).trans T2L.o);go_upto_region 16 with(go_at_call 89;refine(mend_ HW7.o T2O.o ki (by omega) (by rw[T2L.o];exact G2.o) _ t' HMD.o).mono ?_;rintro e w8 ⟨rfl,hW,hG⟩;have HW8:=Z hW;have HG8:=Z (HG7.o.trans hG);clear hW hG);have HBR:=Z (zD HBW3.o HB5.o);have HGN:=Z (show w.heap.size≤g∧w.heap.size≤b by have:=HNB.o;omega);have HB8:=Z (show Below w.heap.size w w8 from HBR.o.trans (HG8.o.qM HGN.o.1 HGN.o.2 HBR.o.size));have z8:=(BOX.o _ HG8.o).2;have HZ8:=Z z8;have T30:=Z (show 0<t'.ns.length by rw[T3L.o];have:=G2.o;omega);clear k2 y7 z8 y6 k1;go_wp2_with (go_at_call 84;refine(zaL HW8.o).mono ?_;rintro e w9 ⟨rfl,hB⟩;have HW9:=Z (HW8.o.below hB);have HB9:=Z (zD HB8.o hB);have HZ9:=Z (zH HZ8.o hB);clear hB;have z9:=HZ9.o;have f0:=zK z9 0;have f1:=zK z9 1;have c3:=(show w9.cell? ⟨w.heap.size+1+1,0,none⟩=some (.int .i64 0)from(zC z9 0).trans rfl);have c4:=(show w9.cell? ⟨w.heap.size+1+1,1,none⟩=some (.slice none 0 0)from(zC z9 1).trans rfl));refine bodyPost_ret (zO (cs:=#[.int .i64 t'.rt,.slice A t'.ns.length c]) rfl _ _ (w.heap.size+1+1) 27 (0,0) _ rfl (set2 HZ9.o rfl _ _) Tryz.underlying27 rfl (by kernel_rfl)) rfl ?_;rw[HRR.o];have hN:=HNB.o;have hW:=HW9.o.moved (w1:=(w9.setCell ⟨w.heap.size+1+1,0,none⟩ (.int .i64 t'.rt)).setCell ⟨w.heap.size+1+1,1,none⟩ (.slice A t'.ns.length c)) (by rw[Below.heap_setCell _ _ _ _ (by show g≠w.heap.size+1+1;omega),Below.heap_setCell _ _ _ _ (by show g≠w.heap.size+1+1;omega)]) (by rw[Below.heap_setCell _ _ _ _ (by show b≠w.heap.size+1+1;omega),Below.heap_setCell _ _ _ _ (by show b≠w.heap.size+1+1;omega)]);exact⟨_,rfl,hW.toR T30.o HGN.o.2,Below.setCell (Below.setCell HB9.o (p:=⟨w.heap.size+1+1,0,none⟩) (by show w.heap.size≤w.heap.size+1+1;omega) _) (p:=⟨w.heap.size+1+1,1,none⟩) (by show w.heap.size≤w.heap.size+1+1;omega) _⟩
end Go.Proofs.YtnkhnnojdlgfjaaGreatDoor.Tm
