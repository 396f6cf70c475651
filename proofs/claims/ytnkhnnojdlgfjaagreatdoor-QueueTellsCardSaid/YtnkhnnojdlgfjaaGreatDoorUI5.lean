/- Parts of the proof, joined: Tm, Tm2. -/
import Derived.Test.YtnkhnnojdlgfjaaGreatDoorUI3
import Derived.Test.YtnkhnnojdlgfjaaGreatDoorUI4
import Derived.WalkKit
import Derived.KernelRfl
import Derived.Below
import Derived.Test.YtnkhnnojdlgfjaaGreatDoorProg
import Derived.Lib.Hide
import Derived.Outline
import Derived.WalkSpells
import Derived.RegionTactic
import Derived.ChangeAlike
import Derived.BigRegion
import Derived.Deep.QuietTactic
import Derived.BigQuiet
import Derived.StillTailTactics
import Derived.IntWalk
set_option linter.unusedVariables false
set_option linter.unusedSimpArgs false
set_option maxHeartbeats 32000000
set_option maxRecDepth 100000
section
namespace Go.Proofs.YtnkhnnojdlgfjaaGreatDoor.Tm
open RowKit Tr PA PB PC
def nv (x:Nd):List Value:=[.bool x.inn,.bool x.red,.int .u64 x.v,.int .i64 x.l,.int .i64 x.r,.int .i64 x.u]
def flat:List Nd→List Value
 | []=>[]
 | x::t=>nv x++flat t
theorem zY:∀l:List Nd,(flat l).length=l.length*6
 | []=>rfl
 | x::t=>by rw[flat,List.length_append,zY t,List.length_cons];show 6+t.length*6=_;omega
theorem jH:∀(a b:List Nd),flat (a++b)=flat a++flat b
 | [],b=>rfl
 | x::t,b=>by rw[List.cons_append,flat,flat,jH t b,List.append_assoc]
theorem flat_get:∀(l:List Nd) (i j:Nat),i<l.length→j<6→(flat l)[i*6+j]?=(nv (l.getD i emp))[j]?
 | [],i,j,h,_=>by simp at h
 | x::t,0,j,h,hj=>by
  rw[flat,Nat.zero_mul,Nat.zero_add,List.getElem?_append_left (by show j<6;exact hj)];rfl
 | x::t,i+1,j,h,hj=>by
  rw[flat,List.getElem?_append_right (by show 6≤(i+1)*6+j;omega),show(i+1)*6+j-(nv x).length=i*6+j by show(i+1)*6+j-6=_;omega,flat_get t i j (by simpa using h) hj]
  rfl
theorem wR:∀(l:List Nd) (i j:Nat) (y:Nd) (u:Value),i<l.length→j<6→(nv (l.getD i emp)).set j u=nv y→(flat l).set (i*6+j) u=flat (l.set i y)
 | [],i,j,_,_,h,_,_=>by simp at h
 | x::t,0,j,y,u,h,hj,e=>by
  rw[flat,Nat.zero_mul,Nat.zero_add,List.set_append_left _ _ (by show j<6;exact hj),List.set_cons_zero,flat];exact congrArg (·++flat t) e
 | x::t,i+1,j,y,u,h,hj,e=>by
  rw[flat,List.set_append_right _ _ (by show 6≤(i+1)*6+j;omega),show(i+1)*6+j-(nv x).length=i*6+j by show(i+1)*6+j-6=_;omega,wR t i j y u (by simpa using h) hj e]
  rfl
def objV (A:Option Addr) (n c:Nat) (rt:Int) (g:Nat):Array Value:=#[.slice A n c,.int .i64 rt,.func (.func 78) #[.pointer (some ⟨g,0,none⟩)] #[],.func (.func 81) #[.pointer (some ⟨g,0,none⟩)] #[]]
structure Wk (A:Option Addr) (c:Nat) (w:World) (g b:Nat) (t:St):Prop where mk::
 obj:w.heap[g]?=some (.cells (objV A t.ns.length c t.rt g) 104 (0,0))
 ne:g≠b
 len:t.ns.length≤1000000
 nodes:0<t.ns.length→A=some ⟨b,0,none⟩∧∃(cur:Array Value) (rs:List Value),w.heap[b]?=some (.cells cur 72 (0,0))∧cur.toList=flat t.ns++rs
 cap:0<t.ns.length→t.ns.length≤c∧c≤maxLen∧∀cur:Array Value,w.heap[b]?=some (.cells cur 72 (0,0))→cur.size=c*6
variable {A : Option Addr} {c : Nat} {w w1 : World} {g b : Nat} {t : St}
theorem Wk.c0 (h:Wk A c w g b t):w.cell? ⟨g,0,none⟩=some (.slice A t.ns.length c):=by rw[zC h.obj];rfl
theorem Wk.c1 (h:Wk A c w g b t):w.cell? ⟨g,1,none⟩=some (.int .i64 t.rt):=by rw[zC h.obj];rfl
theorem Wk.c2 (h:Wk A c w g b t):w.cell? ⟨g,2,none⟩=some (.func (.func 78) #[.pointer (some ⟨g,0,none⟩)] #[]):=by rw[zC h.obj];rfl
theorem Wk.c3 (h:Wk A c w g b t):w.cell? ⟨g,3,none⟩=some (.func (.func 81) #[.pointer (some ⟨g,0,none⟩)] #[]):=by rw[zC h.obj];rfl
theorem Wk.frozen (h:Wk A c w g b t) (i:Nat):w.frozen? ⟨g,i,none⟩=false:=zK h.obj i
theorem Wk.at_ (h:Wk A c w g b t) (x j:Nat) (hx:x<t.ns.length) (hj:j<6):w.cell? ⟨b,x*6+j,none⟩=(nv (gn t x))[j]?:=by
 obtain⟨_,cur,rs,h1,h2⟩:=h.nodes (by omega);rw[zC h1,←Array.getElem?_toList,h2,List.getElem?_append_left (by rw[zY];omega),flat_get _ _ _ hx hj]
 rfl
theorem Wk.yI (h:Wk A c w g b t) (h0:0<t.ns.length) (i:Nat):w.frozen? ⟨b,i,none⟩=false:=by
 obtain⟨_,cur,rs,h1,h2⟩:=h.nodes h0;exact zK h1 i
theorem Wk.addr (h:Wk A c w g b t) (h0:0<t.ns.length):A=some ⟨b,0,none⟩:=(h.nodes h0).1
def sd (s:Bool):Int:=if s then 1 else 0
theorem left_ (h:Wk A c w g b t) (x:Int) (h0:0≤x) (hx:x<t.ns.length) :
  Calls Tryz.prog 78 #[.pointer (some ⟨g,0,none⟩),.int .i64 x] w fun e w'=>e=.returned (.pointer (some ⟨b,x.toNat*6+3,none⟩))∧w'=w:=by
 have c0:=h.c0;rw[h.addr (by omega)]at c0;have H:=Z h;clear h;go_enter Tryz.func78,Tryz.ntmps78;go_wp2;go_ret;exact⟨rfl,rfl⟩
theorem zaQ (h:Wk A c w g b t) (x:Int) (h0:0≤x) (hx:x<t.ns.length) :
  Calls Tryz.prog 81 #[.pointer (some ⟨g,0,none⟩),.int .i64 x] w fun e w'=>e=.returned (.pointer (some ⟨b,x.toNat*6+4,none⟩))∧w'=w:=by
 have c0:=h.c0;rw[h.addr (by omega)]at c0;have H:=Z h;clear h;go_enter Tryz.func81,Tryz.ntmps81;go_wp2;go_ret;exact⟨rfl,rfl⟩
theorem Wk.fl (h:Wk A c w g b t) (x:Int) (h0:0≤x) (hx:x<t.ns.length):w.cell? ⟨b,x.toNat*6+3,none⟩=some (.int .i64 (kidA t x false)):=h.at_ x.toNat 3 (by omega) (by omega)
theorem Wk.fr (h:Wk A c w g b t) (x:Int) (h0:0≤x) (hx:x<t.ns.length):w.cell? ⟨b,x.toNat*6+4,none⟩=some (.int .i64 (kidA t x true)):=h.at_ x.toNat 4 (by omega) (by omega)
theorem Wk.fu (h:Wk A c w g b t) (x:Int) (h0:0≤x) (hx:x<t.ns.length):w.cell? ⟨b,x.toNat*6+5,none⟩=some (.int .i64 (upA t x)):=h.at_ x.toNat 5 (by omega) (by omega)
theorem Wk.fred (h:Wk A c w g b t) (x:Int) (h0:0≤x) (hx:x<t.ns.length):w.cell? ⟨b,x.toNat*6+1,none⟩=some (.bool (redA t x)):=by
 rw[h.at_ x.toNat 1 (by omega) (by omega)];show some (Value.bool (gn t x.toNat).red)=some (.bool (decide (0≤x)&&(gn t x.toNat).red));rw[decide_eq_true h0];rfl
theorem Wk.fin (h:Wk A c w g b t) (x:Int) (h0:0≤x) (hx:x<t.ns.length):w.cell? ⟨b,x.toNat*6,none⟩=some (.bool (gn t x.toNat).inn):=h.at_ x.toNat 0 (by omega) (by omega)
theorem Wk.fv (h:Wk A c w g b t) (x:Int) (h0:0≤x) (hx:x<t.ns.length):w.cell? ⟨b,x.toNat*6+2,none⟩=some (.int .u64 (gn t x.toNat).v):=h.at_ x.toNat 2 (by omega) (by omega)
theorem up_ (h:Wk A c w g b t) (x:Int) (h0:0≤x) (hx:x<t.ns.length) :
  Calls Tryz.prog 80 #[.pointer (some ⟨g,0,none⟩),.int .i64 x] w fun e w'=>e=.returned (.int .i64 (upA t x))∧w'=w:=by
 have c0:=h.c0;rw[h.addr (by omega)]at c0;have c1:=h.fu x h0 hx;have H:=Z h;clear h;go_enter Tryz.func80,Tryz.ntmps80;go_wp2;go_ret;exact⟨rfl,rfl⟩
theorem red_ (h:Wk A c w g b t) (x:Int) (hx:x<t.ns.length) :
  Calls Tryz.prog 79 #[.pointer (some ⟨g,0,none⟩),.int .i64 x] w fun e w'=>e=.returned (.bool (redA t x))∧w'=w:=by
 by_cases h0:0≤x
 ·have c0:=h.c0;rw[h.addr (by omega)]at c0;have c1:=h.fred x h0 hx;have H:=Z h;clear h;go_enter Tryz.func79,Tryz.ntmps79;go_wp2;go_ret;exact⟨rfl,rfl⟩
 have e:redA t x=false:=by unfold redA;rw[decide_eq_false h0];rfl
 rw[e];have h1:decide (0≤x)=false:=decide_eq_false h0;clear h e;go_enter Tryz.func79,Tryz.ntmps79;go_wp2;go_ret;exact⟨rfl,rfl⟩
theorem kid_ (h:Wk A c w g b t) (x:Int) (h0:0≤x) (hx:x<t.ns.length) (s:Bool) :
  Calls Tryz.prog 88 #[.pointer (some ⟨g,0,none⟩),.int .i64 x,.int .i64 (sd s)] w fun e w'=>e=.returned (.int .i64 (kidA t x s))∧w'=w:=by
 have H:=Z h;cases s with
 | false=>
  have c2:=h.c2;have c1:=h.fl x h0 hx;clear h;change Calls Tryz.prog 88 #[.pointer (some ⟨g,0,none⟩),.int .i64 x,.int .i64 0] w _;go_enter Tryz.func88,Tryz.ntmps88;go_wp2_with (go_at_call 78;refine(left_ H.o x h0 hx).mono ?_;rintro e w' ⟨rfl,rfl⟩);go_ret;exact⟨rfl,rfl⟩
 | true=>
  have c2:=h.c3;have c1:=h.fr x h0 hx;clear h;change Calls Tryz.prog 88 #[.pointer (some ⟨g,0,none⟩),.int .i64 x,.int .i64 1] w _;go_enter Tryz.func88,Tryz.ntmps88;go_wp2_with (go_at_call 81;refine(zaQ H.o x h0 hx).mono ?_;rintro e w' ⟨rfl,rfl⟩);go_ret;exact⟨rfl,rfl⟩
theorem on_ (h:Wk A c w g b t) (x:Int) (h0:0≤x) (hx:x<t.ns.length) (hu:upA t x<t.ns.length) :
  Calls Tryz.prog 76 #[.pointer (some ⟨g,0,none⟩),.int .i64 x] w fun e w'=>e=.returned (.int .i64 (sd (onA t x)))∧w'=w:=by
 have H:=Z h;by_cases hp:0≤upA t x;rotate_left
 ·have e:onA t x=false:=by
   show decide (0≤upA t x∧kidA t (upA t x) true=x)=_;simp[hp]
  rw[e];have h1:decide (0≤upA t x)=false:=decide_eq_false hp;clear h e;go_enter Tryz.func76,Tryz.ntmps76;go_wp2_with (go_at_call 80;refine(up_ H.o x h0 hx).mono ?_;rintro e w' ⟨rfl,rfl⟩);go_ret;exact⟨rfl,rfl⟩
 have c1:=h.fr (upA t x) hp hu;have e:onA t x=decide (kidA t (upA t x) true=x):=by
  show decide (0≤upA t x∧kidA t (upA t x) true=x)=_;simp[hp]
 rw[e];clear h e;generalize hy:kidA t (upA t x) true=y at c1;have HU:=Z hu;by_cases hq:y=x
 ·subst hq;go_enter Tryz.func76,Tryz.ntmps76;go_wp2_with (first|(go_at_call 80;refine(up_ H.o y h0 hx).mono ?_;rintro e w' ⟨rfl,rfl⟩)|(go_at_call 81;refine(zaQ H.o (upA t y) hp hu).mono ?_;rintro e w' ⟨rfl,rfl⟩));go_ret;exact⟨by simp[sd],rfl⟩
 have hq1:(y==x)=false:=by simpa using hq
 go_enter Tryz.func76,Tryz.ntmps76;go_wp2_with (first|(go_at_call 80;refine(up_ H.o x h0 hx).mono ?_;rintro e w' ⟨rfl,rfl⟩)|(go_at_call 81;refine(zaQ H.o (upA t x) hp hu).mono ?_;rintro e w' ⟨rfl,rfl⟩));go_ret;exact⟨by simp[sd,hq],rfl⟩
end Go.Proofs.YtnkhnnojdlgfjaaGreatDoor.Tm
end
section
namespace Go.Proofs.YtnkhnnojdlgfjaaGreatDoor.Tm
open RowKit Tr PA PB PC
structure Gs (g b:Nat) (w w':World):Prop where
 os:w'.os=w.os
 tape:w'.tape=w.tape
 output:w'.output=w.output
 size:w.heap.size≤w'.heap.size
 block:∀i,i<w.heap.size→i≠g→i≠b→w'.heap[i]?=w.heap[i]?
section
variable {g b : Nat} {w w1 w2 : World}
theorem Gs.refl (g b:Nat) (w:World):Gs g b w w:=⟨rfl,rfl,rfl,Nat.le_refl _,fun _ _ _ _=>rfl⟩
theorem Gs.trans (h:Gs g b w w1) (k:Gs g b w1 w2):Gs g b w w2:=
 ⟨k.os.trans h.os,k.tape.trans h.tape,k.output.trans h.output,Nat.le_trans h.size k.size,fun i hi h1 h2=>(k.block i (Nat.lt_of_lt_of_le hi h.size) h1 h2).trans (h.block i hi h1 h2)⟩
theorem Gs.setG (h:Gs g b w w1) (i:Nat) (u:Value):Gs g b w (w1.setCell ⟨g,i,none⟩ u):=
 ⟨h.os,h.tape,h.output,by simp[World.setCell];exact h.size,fun k hk h1 h2=>(Below.heap_setCell w1 ⟨g,i,none⟩ u k (fun e=>h1 (by rw[e]))).trans (h.block k hk h1 h2)⟩
theorem Gs.setB (h:Gs g b w w1) (i:Nat) (u:Value):Gs g b w (w1.setCell ⟨b,i,none⟩ u):=
 ⟨h.os,h.tape,h.output,by simp[World.setCell];exact h.size,fun k hk h1 h2=>(Below.heap_setCell w1 ⟨b,i,none⟩ u k (fun e=>h2 (by rw[e]))).trans (h.block k hk h1 h2)⟩
theorem Gs.drew (h:Gs g b w w1):Gs g b w w1.drew:=⟨h.os,h.tape,h.output,h.size,h.block⟩
theorem Gs.drewN (h:Gs g b w w1) (n:Nat):Gs g b w (w1.drewN n):=⟨h.os,h.tape,h.output,h.size,h.block⟩
theorem Gs.below (h:Gs g b w w1) (k:Below w1.heap.size w1 w2):Gs g b w w2:=
 ⟨k.os.trans h.os,k.tape.trans h.tape,k.output.trans h.output,Nat.le_trans h.size k.size,fun i hi h1 h2=>(k.block i (Nat.lt_of_lt_of_le hi h.size)).trans (h.block i hi h1 h2)⟩
theorem Gs.alloc (h:Gs g b w w1) (o:Obj):Gs g b w (w1.alloc o):=h.below (zB (Below.refl _ _) o)
theorem Gs.cell (h:Gs g b w w1) {ad:Addr}{v:Value}(h1:ad.block≠g) (h2:ad.block≠b) (hc:w.cell? ad=some v):w1.cell? ad=some v:=by
 rw[←hc];have hb:=h.block ad.block (World.block_lt_of_cell? w _ hc) h1 h2;unfold World.cell?;rw[hb]
theorem Gs.qM {N:Nat}(h:Gs g b w w1) (hg:N≤g) (hb:N≤b) (hw:N≤w.heap.size):Below N w w1:=
 ⟨h.os,h.tape,h.output,h.size,fun i hi=>h.block i (Nat.lt_of_lt_of_le hi hw) (by omega) (by omega)⟩
end
variable {A : Option Addr} {c : Nat} {w w1 : World} {g b : Nat} {t : St}
theorem Wk.moved (h:Wk A c w g b t) (hg:w1.heap[g]?=w.heap[g]?) (hb:w1.heap[b]?=w.heap[b]?):Wk A c w1 g b t:=
 ⟨hg.trans h.obj,h.ne,h.len,fun h0=>by
  obtain⟨e,cur,rs,h1,h2⟩:=h.nodes h0;exact⟨e,cur,rs,hb.trans h1,h2⟩,fun h0=>⟨(h.cap h0).1,(h.cap h0).2.1,fun cur hc=>(h.cap h0).2.2 cur (hb.symm.trans hc)⟩⟩
theorem Wk.ltg (h:Wk A c w g b t):g<w.heap.size:=(Array.getElem?_eq_some_iff.1 h.obj).1
theorem Wk.ltb (h:Wk A c w g b t) (h0:0<t.ns.length):b<w.heap.size:=by
 obtain⟨_,cur,rs,h1,_⟩:=h.nodes h0;exact(Array.getElem?_eq_some_iff.1 h1).1
theorem Wk.nil (h:Wk A c w g b t) (hg:w1.heap[g]?=w.heap[g]?) (h0:t.ns.length=0):Wk A c w1 g b t:=
 ⟨hg.trans h.obj,h.ne,h.len,fun h1=>(by omega),fun h1=>by omega⟩
theorem Wk.below (h:Wk A c w g b t) (hb:Below w.heap.size w w1):Wk A c w1 g b t:=by
 by_cases h0:0<t.ns.length;rotate_left
 ·exact h.nil (hb.block g h.ltg) (by omega)
 exact h.moved (hb.block g h.ltg) (hb.block b (h.ltb h0))
theorem Wk.drew (h:Wk A c w g b t):Wk A c w.drew g b t:=h.moved rfl rfl
theorem Wk.drewN (h:Wk A c w g b t) (n:Nat):Wk A c (w.drewN n) g b t:=h.moved rfl rfl
theorem Wk.alloc (h:Wk A c w g b t) (o:Obj):Wk A c (w.alloc o) g b t:=h.below (zB (Below.refl _ _) o)
theorem Wk.set (h:Wk A c w g b t) (x j:Nat) (y:Nd) (u:Value) (hx:x<t.ns.length) (hj:j<6) (e:(nv (gn t x)).set j u=nv y):Wk A c (w.setCell ⟨b,x*6+j,none⟩ u) g b (sn t x y):=by
 obtain⟨ea,cur,rs,h1,h2⟩:=h.nodes (by omega);refine⟨?_,h.ne,by rw[xQ];exact h.len,fun _=>⟨ea,_,rs,yR h1 _ _,?_⟩,fun _=>⟨by rw[xQ];exact(h.cap (by omega)).1,(h.cap (by omega)).2.1,fun cur2 hc=>?_⟩⟩
 ·rw[Below.heap_setCell _ _ _ _ (by simpa using h.ne),xQ];exact h.obj
 ·rw[Array.toList_setIfInBounds,h2,List.set_append_left _ _ (by rw[zY];omega),wR t.ns x j y u hx hj e]
  rfl
 ·have e2:=(yR h1 (x*6+j) u).symm.trans hc;injection e2 with e2;injection e2 with e2;rw[←e2,Array.size_setIfInBounds];exact(h.cap (by omega)).2.2 cur h1
theorem Wk.setRoot (h:Wk A c w g b t) (y:Int):Wk A c (w.setCell ⟨g,1,none⟩ (.int .i64 y)) g b ⟨t.ns,y⟩:=by
 have hbb:(w.setCell ⟨g,1,none⟩ (.int .i64 y)).heap[b]?=w.heap[b]?:=Below.heap_setCell _ _ _ _ (by simpa using h.ne.symm);refine⟨yR h.obj 1 _,h.ne,h.len,fun h0=>?_,fun h0=>⟨(h.cap h0).1,(h.cap h0).2.1,fun cur hc=>(h.cap h0).2.2 cur (hbb.symm.trans hc)⟩⟩;obtain⟨ea,cur,rs,h1,h2⟩:=h.nodes h0;exact⟨ea,cur,rs,hbb.trans h1,h2⟩
theorem Wk.setRed (h:Wk A c w g b t) (x:Int) (h0:0≤x) (hx:x<t.ns.length) (is:Bool):Wk A c (w.setCell ⟨b,x.toNat*6+1,none⟩ (.bool is)) g b (zG t is x):=by
 unfold zG;rw[if_pos h0];exact h.set x.toNat 1 _ _ (by omega) (by omega) rfl
theorem Wk.setUp (h:Wk A c w g b t) (y x:Int) (h0:0≤y) (hx:y<t.ns.length):Wk A c (w.setCell ⟨b,y.toNat*6+5,none⟩ (.int .i64 x)) g b (jC t x y):=by
 unfold jC;rw[if_pos h0];exact h.set y.toNat 5 _ _ (by omega) (by omega) rfl
theorem Wk.setL (h:Wk A c w g b t) (x y:Int) (h0:0≤x) (hx:x<t.ns.length):Wk A c (w.setCell ⟨b,x.toNat*6+3,none⟩ (.int .i64 y)) g b (xM t x false y):=by
 unfold xM;rw[if_neg (by omega)];exact h.set x.toNat 3 _ _ (by omega) (by omega) rfl
theorem Wk.setR (h:Wk A c w g b t) (x y:Int) (h0:0≤x) (hx:x<t.ns.length):Wk A c (w.setCell ⟨b,x.toNat*6+4,none⟩ (.int .i64 y)) g b (xM t x true y):=by
 unfold xM;rw[if_neg (by omega)];exact h.set x.toNat 4 _ _ (by omega) (by omega) rfl
def wZ (t:St) (is:Bool) (l:List Int):St:=l.foldl (fun t x=>zG t is x) t
theorem paints_len (is:Bool):∀(l:List Int) (t:St),(wZ t is l).ns.length=t.ns.length
 | [],t=>rfl
 | x::l,t=>by rw[show wZ t is (x::l)=wZ (zG t is x) is l from rfl,paints_len is l,zF]
theorem paints_take (t:St) (is:Bool) (l:List Int) (k:Nat) (hk:k<l.length):wZ t is (l.take (k+1))=zG (wZ t is (l.take k)) is (l.getD k 0):=by
 unfold wZ;rw[List.take_succ_eq_append_getElem hk,List.foldl_append,List.getD_eq_getElem?_getD,List.getElem?_eq_getElem hk]
 rfl
theorem paint_ (h:Wk A c w g b t) (is:Bool) (B cap:Nat) (l:List Int) (h1:B≠g) (h2:B≠b) (hl:l.length≤1000000) (hc:∀k,k<l.length→w.cell? ⟨B,k,none⟩=some (.int .i64 (l.getD k 0))) (hx:∀x∈l,x<t.ns.length) :
  Calls Tryz.prog 82 #[.pointer (some ⟨g,0,none⟩),.bool is,.slice (some ⟨B,0,none⟩) l.length cap] w fun e w'=>e=.returned (.tuple #[])∧Wk A c w' g b (wZ t is l)∧Gs g b w w':=by
 have H:=Z h;have HC:=Z hc;have HX:=Z hx;clear h hc hx;go_enter Tryz.func82,Tryz.ntmps82;go_wp2
 go_loopw [10] (fun i wr=>∃k:Nat,k≤l.length∧i=.int .i64 k∧zA (Wk A c wr g b (wZ t is (l.take k)))∧zA (Gs g b w wr)) (fun i _=>l.length-(intOf i).toNat)
 case atStart=>exact⟨0,Nat.zero_le _,rfl,H,⟨Gs.refl _ _ _⟩⟩
 case round=>
  clear H;obtain⟨k,hk,rfl,HA,HG⟩:=hrel;by_cases hlt:k<l.length;rotate_left
  ·obtain rfl:k=l.length:=by omega
   rw[List.take_of_length_le (Nat.le_refl _)]at HA;go_wp2
   go_end0
   exact⟨rfl,HA.o,HG.o⟩
  have hn:(k:Int)<(l.length:Int):=by omega
  have HN:=Z (paints_take t is l k hlt);have hcx:wr.cell? ⟨B,k,none⟩=some (.int .i64 (l.getD k 0)):=HG.o.cell h1 h2 (HC.o k hlt);have hxl:l.getD k 0<(t.ns.length:Int):=HX.o _ (by rw[List.getD_eq_getElem?_getD,List.getElem?_eq_getElem hlt];exact List.getElem_mem hlt);have hpl:=paints_len is (l.take k) t;generalize wZ t is (l.take k)=T at HA HN hpl;generalize l.getD k 0=x at hcx hxl HN;have HL:=Z hpl;have HXL:=Z (show x<(T.ns.length:Int)by rw[hpl];exact hxl);clear hpl hxl;by_cases h0:0≤x;rotate_left
  ·have h3:decide (0≤x)=false:=decide_eq_false h0;go_wp2;refine⟨⟨k+1,by omega,by simp,⟨by rw[HN.o,zG,if_neg h0];exact HA.o⟩,HG⟩,?_⟩;show l.length-((k:Int)+1).toNat<l.length-(k:Int).toNat;omega
  have c0:=HA.o.c0;rw[HA.o.addr (by have:=HXL.o;omega)]at c0;have hx2:=HXL.o;have f1:=HA.o.yI (by have:=HXL.o;omega) (x.toNat*6+1);have c1:=HA.o.fred x h0 HXL.o;go_wp2;refine⟨⟨k+1,by omega,by simp,⟨by rw[HN.o];exact HA.o.setRed x h0 HXL.o is⟩,⟨HG.o.setB _ _⟩⟩,?_⟩;show l.length-((k:Int)+1).toNat<l.length-(k:Int).toNat;omega
theorem zaN (h:Wk A c w g b t) (x y:Int) (s:Bool) (hx:x<t.ns.length) (hy:y<t.ns.length) :
  Calls Tryz.prog 77 #[.pointer (some ⟨g,0,none⟩),.int .i64 x,.int .i64 (sd s),.int .i64 y] w fun e w'=>e=.returned (.tuple #[])∧Wk A c w' g b (zM t x s y)∧Gs g b w w':=by
 have K:=Z h;by_cases h0:0≤x;rotate_left
 ·have hx1:x<0:=by omega
  have f1:=h.frozen 1;have d1:=h.c1;have HW:=Z (h.setRoot y);have HS:=Z (show Gs g b w (w.setCell ⟨g,1,none⟩ (.int .i64 y))from(Gs.refl _ _ _).setG _ _);have HT:=Z (show zM t x s y=jC ⟨t.ns,y⟩ x y by unfold zM xM;rw[if_pos hx1]);have HL:=Z (show y<(((⟨t.ns,y⟩:St).ns.length:Nat):Int)from hy);clear h;generalize(⟨t.ns,y⟩:St)=t1 at HW HT HL;by_cases hy0:0≤y;rotate_left
  ·have hy1:decide (0≤y)=false:=decide_eq_false hy0;go_enter Tryz.func77,Tryz.ntmps77;go_wp2
   go_end0
   rw[HT.o,jC,if_neg (by omega)];exact⟨rfl,HW.o,HS.o⟩
  go_enter Tryz.func77,Tryz.ntmps77;go_upto_region 3 with(fail);generalize w.setCell _ _=w1 at HW HS⊢;have g0:=HW.o.c0;rw[HW.o.addr (by have:=HL.o;omega)]at g0;have g1:=HW.o.fu y hy0 HL.o;have g2:=HW.o.yI (by have:=HL.o;omega) (y.toNat*6+5);have g3:=HL.o;go_wp2
  go_end0
  rw[HT.o];exact⟨rfl,HW.o.setUp y x hy0 HL.o,HS.o.setB _ _⟩
 have hx1:¬x<0:=by omega
 have hd:decide (x<0)=false:=decide_eq_false hx1;cases s with
 | false=>
  change Calls Tryz.prog 77 #[.pointer (some ⟨g,0,none⟩),.int .i64 x,.int .i64 0,.int .i64 y] w _;have f1:=h.yI (by omega) (x.toNat*6+3);have d1:=h.fl x h0 hx;have c2:=h.c2;have HW:=Z (show Wk A c (w.setCell ⟨b,x.toNat*6+3,none⟩ (.int .i64 y)) g b (xM t x false y)from h.setL x y h0 hx);have HS:=Z (show Gs g b w (w.setCell ⟨b,x.toNat*6+3,none⟩ (.int .i64 y))from(Gs.refl _ _ _).setB _ _);have HT:=Z (show zM t x false y=jC (xM t x false y) x y from rfl);have HL:=Z (show y<((xM t x false y).ns.length:Int)by rw[qR];exact hy);clear h;generalize xM t x false y=t1 at HW HT HL;by_cases hy0:0≤y;rotate_left
  ·have hy1:decide (0≤y)=false:=decide_eq_false hy0;go_enter Tryz.func77,Tryz.ntmps77;go_wp2_with (go_at_call 78;refine(left_ K.o x h0 hx).mono ?_;rintro e w' ⟨rfl,rfl⟩)
   go_end0
   rw[HT.o,jC,if_neg (by omega)];exact⟨rfl,HW.o,HS.o⟩
  go_enter Tryz.func77,Tryz.ntmps77;go_upto_region 3 with(go_at_call 78;refine(left_ K.o x h0 hx).mono ?_;rintro e w' ⟨rfl,rfl⟩);generalize w'.setCell _ _=w1 at HW HS⊢;have g0:=HW.o.c0;rw[HW.o.addr (by have:=HL.o;omega)]at g0;have g1:=HW.o.fu y hy0 HL.o;have g2:=HW.o.yI (by have:=HL.o;omega) (y.toNat*6+5);have g3:=HL.o;go_wp2
  go_end0
  rw[HT.o];exact⟨rfl,HW.o.setUp y x hy0 HL.o,HS.o.setB _ _⟩
 | true=>
  change Calls Tryz.prog 77 #[.pointer (some ⟨g,0,none⟩),.int .i64 x,.int .i64 1,.int .i64 y] w _;have f1:=h.yI (by omega) (x.toNat*6+4);have d1:=h.fr x h0 hx;have c2:=h.c3;have HW:=Z (show Wk A c (w.setCell ⟨b,x.toNat*6+4,none⟩ (.int .i64 y)) g b (xM t x true y)from h.setR x y h0 hx);have HS:=Z (show Gs g b w (w.setCell ⟨b,x.toNat*6+4,none⟩ (.int .i64 y))from(Gs.refl _ _ _).setB _ _);have HT:=Z (show zM t x true y=jC (xM t x true y) x y from rfl);have HL:=Z (show y<((xM t x true y).ns.length:Int)by rw[qR];exact hy);clear h;generalize xM t x true y=t1 at HW HT HL;by_cases hy0:0≤y;rotate_left
  ·have hy1:decide (0≤y)=false:=decide_eq_false hy0;go_enter Tryz.func77,Tryz.ntmps77;go_wp2_with (go_at_call 81;refine(zaQ K.o x h0 hx).mono ?_;rintro e w' ⟨rfl,rfl⟩)
   go_end0
   rw[HT.o,jC,if_neg (by omega)];exact⟨rfl,HW.o,HS.o⟩
  go_enter Tryz.func77,Tryz.ntmps77;go_upto_region 3 with(go_at_call 81;refine(zaQ K.o x h0 hx).mono ?_;rintro e w' ⟨rfl,rfl⟩);generalize w'.setCell _ _=w1 at HW HS⊢;have g0:=HW.o.c0;rw[HW.o.addr (by have:=HL.o;omega)]at g0;have g1:=HW.o.fu y hy0 HL.o;have g2:=HW.o.yI (by have:=HL.o;omega) (y.toNat*6+5);have g3:=HL.o;go_wp2
  go_end0
  rw[HT.o];exact⟨rfl,HW.o.setUp y x hy0 HL.o,HS.o.setB _ _⟩
theorem turn_ (h:Wk A c w g b t) (x:Int) (s:Bool) (h0:0≤x) (hx:x<t.ns.length) (hu:upA t x<t.ns.length) (hk0:0≤kidA t x (!s)) (hk:kidA t x (!s)<t.ns.length) (hkk:kidA t (kidA t x (!s)) s<t.ns.length) :
  Calls Tryz.prog 122 #[.pointer (some ⟨g,0,none⟩),.int .i64 x,.int .i64 (sd s)] w fun e w'=>e=.returned (.tuple #[])∧Wk A c w' g b (yM t x s)∧Gs g b w w':=by
 have H:=Z h;have HU:=Z hu;have HK0:=Z hk0;have HK:=Z hk;clear h;cases s with
 | false=>
  change Calls Tryz.prog 122 #[.pointer (some ⟨g,0,none⟩),.int .i64 x,.int .i64 0] w _;have HT:=Z (show yM t x false=zM (zM (zM t x true (kidA t (kidA t x true) false)) (upA t x) (onA t x) (kidA t x true)) (kidA t x true) false x from rfl);have H1:=Z (fun(w':World) (h:Wk A c w' g b t)=>zaN h x (kidA t (kidA t x true) false) true hx hkk);have H2:=Z (fun(w':World) (h:Wk A c w' g b (zM t x true (kidA t (kidA t x true) false)))=>zaN h (upA t x) (kidA t x true) (onA t x) (by rw[zX];exact hu) (by rw[zX];exact hk));have H3:=Z (fun(w':World) (h:Wk A c w' g b (zM (zM t x true (kidA t (kidA t x true) false)) (upA t x) (onA t x) (kidA t x true)))=>zaN h (kidA t x true) x false (by rw[zX,zX];exact hk) (by rw[zX,zX];exact hx));rw[HT.o];clear HT hk hkk hu hk0;go_enter Tryz.func122,Tryz.ntmps122;go_wp2
  go_quiet (first
   | (go_at_call 88;exact Calls.quiet_of_same (kid_ (by first|exact H.o|exact H.o.drewN _) x h0 hx true))
   | (go_at_call 80;exact Calls.quiet_of_same (up_ (by first|exact H.o|exact H.o.drewN _) x h0 hx))
   | (go_at_call 76;exact Calls.quiet_of_same (on_ (by first|exact H.o|exact H.o.drewN _) x h0 hx HU.o)))
  have HB:=Z (H.o.drewN nq);have HG:=Z ((Gs.refl g b w).drewN nq);clear H;generalize w.drewN nq=w1 at HB HG⊢;go_upto_region 2 with(first
   | (go_at_call 88;refine(kid_ HB.o (kidA t x true) HK0.o HK.o false).mono ?_;rintro e w' ⟨rfl,rfl⟩)
   | (go_at_call 77;refine(H1.o _ HB.o).mono ?_;rintro e w' ⟨rfl,hW,hG⟩;have HB1:=Z hW;have HG1:=Z (HG.o.trans hG);clear hW hG))
  clear HB HG;go_upto_region 3 with(go_at_call 77;refine(H2.o _ HB1.o).mono ?_;rintro e w' ⟨rfl,hW,hG⟩;have HB2:=Z hW;have HG2:=Z (HG1.o.trans hG);clear hW hG);clear HB1 HG1;go_wp2_with (go_at_call 77;refine(H3.o _ HB2.o).mono ?_;rintro e w' ⟨rfl,hW,hG⟩;have HB3:=Z hW;have HG3:=Z (HG2.o.trans hG);clear hW hG)
  go_end0
  exact⟨rfl,HB3.o,HG3.o⟩
 | true=>
  change Calls Tryz.prog 122 #[.pointer (some ⟨g,0,none⟩),.int .i64 x,.int .i64 1] w _;have HT:=Z (show yM t x true=zM (zM (zM t x false (kidA t (kidA t x false) true)) (upA t x) (onA t x) (kidA t x false)) (kidA t x false) true x from rfl);have H1:=Z (fun(w':World) (h:Wk A c w' g b t)=>zaN h x (kidA t (kidA t x false) true) false hx hkk);have H2:=Z (fun(w':World) (h:Wk A c w' g b (zM t x false (kidA t (kidA t x false) true)))=>zaN h (upA t x) (kidA t x false) (onA t x) (by rw[zX];exact hu) (by rw[zX];exact hk));have H3:=Z (fun(w':World) (h:Wk A c w' g b (zM (zM t x false (kidA t (kidA t x false) true)) (upA t x) (onA t x) (kidA t x false)))=>zaN h (kidA t x false) x true (by rw[zX,zX];exact hk) (by rw[zX,zX];exact hx));rw[HT.o];clear HT hk hkk hu hk0;go_enter Tryz.func122,Tryz.ntmps122;go_wp2
  go_quiet (first
   | (go_at_call 88;exact Calls.quiet_of_same (kid_ (by first|exact H.o|exact H.o.drewN _) x h0 hx false))
   | (go_at_call 80;exact Calls.quiet_of_same (up_ (by first|exact H.o|exact H.o.drewN _) x h0 hx))
   | (go_at_call 76;exact Calls.quiet_of_same (on_ (by first|exact H.o|exact H.o.drewN _) x h0 hx HU.o)))
  have HB:=Z (H.o.drewN nq);have HG:=Z ((Gs.refl g b w).drewN nq);clear H;generalize w.drewN nq=w1 at HB HG⊢;go_upto_region 2 with(first
   | (go_at_call 88;refine(kid_ HB.o (kidA t x false) HK0.o HK.o true).mono ?_;rintro e w' ⟨rfl,rfl⟩)
   | (go_at_call 77;refine(H1.o _ HB.o).mono ?_;rintro e w' ⟨rfl,hW,hG⟩;have HB1:=Z hW;have HG1:=Z (HG.o.trans hG);clear hW hG))
  clear HB HG;go_upto_region 3 with(go_at_call 77;refine(H2.o _ HB1.o).mono ?_;rintro e w' ⟨rfl,hW,hG⟩;have HB2:=Z hW;have HG2:=Z (HG1.o.trans hG);clear hW hG);clear HB1 HG1;go_wp2_with (go_at_call 77;refine(H3.o _ HB2.o).mono ?_;rintro e w' ⟨rfl,hW,hG⟩;have HB3:=Z hW;have HG3:=Z (HG2.o.trans hG);clear hW hG)
  go_end0
  exact⟨rfl,HB3.o,HG3.o⟩
end Go.Proofs.YtnkhnnojdlgfjaaGreatDoor.Tm
end
