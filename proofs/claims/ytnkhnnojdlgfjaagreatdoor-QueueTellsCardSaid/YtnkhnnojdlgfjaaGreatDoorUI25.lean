/- Parts of the proof, joined: Rm1, Rm5. -/
import Derived.Test.YtnkhnnojdlgfjaaGreatDoorUI10
import Derived.StillTailTactics
set_option linter.unusedVariables false
set_option linter.unusedSimpArgs false
set_option maxHeartbeats 32000000
set_option maxRecDepth 100000
section
namespace Go.Proofs.YtnkhnnojdlgfjaaGreatDoor.Tm
open RowKit Tr PA PB PC
structure Tv (own:Bool) (S N:Nat) (w:World) (A:Option Addr) (c:Nat) (l:List Nd):Prop where mk::
 le:l.length≤c
 src:(own=false∧∃w0,kn.C w0 A l.length l∧w0.heap.size≤S∧Below w0.heap.size w0 w)∨kn.R 72 w N (fun _=>True) (.slice A l.length c) l
theorem Tv.rd {own:Bool}{S N:Nat}{w:World}{A:Option Addr}{c:Nat}{l:List Nd}(h:Tv own S N w A c l):kn.C w A l.length l:=by
 rcases h.src with⟨_,w0,h1,_,h3⟩|h1
 ·exact Kd.zU h1 h3
 ·exact(Kd.vC h1).2.2
theorem Tv.below {own:Bool}{S N:Nat}{w w1:World}{A:Option Addr}{c:Nat}{l:List Nd}(h:Tv own S N w A c l) (hb:Below w.heap.size w w1):Tv own S N w1 A c l:=by
 refine⟨h.le,?_⟩;rcases h.src with⟨e,w0,h1,h2,h3⟩|h1
 ·exact .inl ⟨e,w0,h1,h2,h3.trans (hb.mono h3.size)⟩
 ·exact .inr (Kd.wC h1 hb)
theorem Tv.set {own:Bool}{S N:Nat}{w:World}{A:Option Addr}{c:Nat}{l:List Nd}(h:Tv own S N w A c l) {g ty:Nat}{cs:Array Value}(hg:w.heap[g]?=some (.cells cs ty (0,0))) (ht:ty≠72) (hs:S≤g) (j:Nat) (u:Value):Tv own S N (w.setCell ⟨g,j,none⟩ u) A c l:=by
 refine⟨h.le,?_⟩;rcases h.src with⟨e,w0,h1,h2,h3⟩|h1
 ·exact .inl ⟨e,w0,h1,h2,Below.setCell h3 (p:=⟨g,j,none⟩) (Nat.le_trans h2 hs) _⟩
 ·exact .inr (Kd.R_set h1 hg (fun q hq=>by
   have hq2:q=72:=by
    rcases List.mem_cons.1 hq with e|hq
    ·exact e
    ·cases hq
   rw[hq2];exact fun e=>ht e.symm) j u)
theorem Tv.of {S N:Nat}{w:World}{A:Option Addr}{c:Nat}{l:List Nd}(h:kn.C w A l.length l) (hc:l.length≤c) (hs:w.heap.size≤S):Tv false S N w A c l:=⟨hc,.inl ⟨rfl,w,h,hs,Below.refl _ _⟩⟩
theorem Tv.toR {S N:Nat}{w:World}{A:Option Addr}{c:Nat}{l:List Nd}(h:Tv true S N w A c l):kn.R 72 w N (fun _=>True) (.slice A l.length c) l:=by
 rcases h.src with⟨e,_⟩|h
 ·cases e
 ·exact h
structure vP (own:Bool) (S N:Nat) (w:World) (t:St) (e:Ending) (w':World):Prop where mk::
 o:∃A c,e=.returned (.agg #[.int .i64 t.rt,.slice A t.ns.length c])∧Tv own S N w' A c t.ns∧Below w.heap.size w w'
structure Tb (own:Bool) (S N:Nat) (w:World) (g:Nat) (t:St) (A:Option Addr) (c:Nat):Prop where mk::
 bx:w.heap[g]?=some (.cells #[.int .i64 t.rt,.slice A t.ns.length c] 27 (0,0))
 tv:Tv own S N w A c t.ns
 sg:S≤g
section
variable {own : Bool} {S N : Nat} {w w1 : World} {g : Nat} {t : St} {A : Option Addr} {c : Nat}
theorem Tb.c0 (h:Tb own S N w g t A c):w.cell? ⟨g,0,none⟩=some (.int .i64 t.rt):=(zC h.bx 0).trans rfl
theorem Tb.c1 (h:Tb own S N w g t A c):w.cell? ⟨g,1,none⟩=some (.slice A t.ns.length c):=(zC h.bx 1).trans rfl
theorem Tb.f (h:Tb own S N w g t A c) (i:Nat):w.frozen? ⟨g,i,none⟩=false:=zK h.bx i
theorem Tb.below (h:Tb own S N w g t A c) (hb:Below w.heap.size w w1):Tb own S N w1 g t A c:=⟨zH h.bx hb,h.tv.below hb,h.sg⟩
theorem jQ {w:World}{g:Nat}{cs:Array Value}{ty:TypeId}(h:w.heap[g]?=some (.cells cs ty (0,0))) (hs:cs.size=2) (u v:Value):((w.setCell ⟨g,0,none⟩ u).setCell ⟨g,1,none⟩ v).heap[g]?=some (.cells #[u,v] ty (0,0)):=by
 rw[yR (yR h 0 u) 1 v];obtain⟨l⟩:=cs
 match l,hs with
 | [a,b],_=>rfl
theorem Tb.put {cs:Array Value}(hz:w.heap[g]?=some (.cells cs 27 (0,0))) (hc:cs.size=2) (h:Tv own S N w A c t.ns) (hs:S≤g):Tb own S N ((w.setCell ⟨g,0,none⟩ (.int .i64 t.rt)).setCell ⟨g,1,none⟩ (.slice A t.ns.length c)) g t A c:=
 ⟨jQ hz hc _ _,(h.set hz (by decide) hs 0 _).set (yR hz 0 _) (by decide) hs 1 _,hs⟩
theorem set2_far {w:World}{g k:Nat}{o:Obj}(h:w.heap[k]?=some o) (hne:k≠g) (u v:Value):((w.setCell ⟨g,0,none⟩ u).setCell ⟨g,1,none⟩ v).heap[k]?=some o:=by
 rw[Below.heap_setCell _ _ _ _ (by simpa using hne),Below.heap_setCell _ _ _ _ (by simpa using hne)];exact h
theorem kN {M:Nat}{w0 w:World}{g:Nat}(h:Below M w0 w) (hg:M≤g) (u v:Value):Below M w0 ((w.setCell ⟨g,0,none⟩ u).setCell ⟨g,1,none⟩ v):=
 Below.setCell (Below.setCell h (p:=⟨g,0,none⟩) hg _) (p:=⟨g,1,none⟩) hg _
theorem vP.fin {w0:World}{cs:Array Value}(hB:Below w0.heap.size w0 w) (hg:w0.heap.size≤g) (h:Tv own S N w A c t.ns) (hz:w.heap[g]?=some (.cells cs 27 (0,0))) (hs:S≤g) :
  vP own S N w0 t (.returned (.agg #[.int .i64 t.rt,.slice A t.ns.length c])) ((w.setCell ⟨g,0,none⟩ (.int .i64 t.rt)).setCell ⟨g,1,none⟩ (.slice A t.ns.length c)):=
 ⟨A,c,rfl,(h.set hz (by decide) hs 0 _).set (yR hz 0 _) (by decide) hs 1 _,kN hB hg _ _⟩
end
structure Sb (own:Bool) (S N:Nat) (w0 w:World) (g z:Nat) (t:St) (A:Option Addr) (c:Nat):Prop where mk::
 tb:Tb own S N w g t A c
 zb:w.heap[z]?=some (.cells #[.int .i64 0,.slice none 0 0] 27 (0,0))
 bb:Below w0.heap.size w0 w
 g0:w0.heap.size≤g
 z0:w0.heap.size≤z
 ne:z≠g
 s0:S≤w0.heap.size
 n0:N≤w0.heap.size
section
variable {own : Bool} {S N : Nat} {w0 w w1 : World} {g z : Nat} {t : St} {A : Option Addr} {c : Nat}
theorem Sb.below (h:Sb own S N w0 w g z t A c) (hb:Below w.heap.size w w1):Sb own S N w0 w1 g z t A c:=⟨h.tb.below hb,zH h.zb hb,zD h.bb hb,h.g0,h.z0,h.ne,h.s0,h.n0⟩
theorem Sb.drew (h:Sb own S N w0 w g z t A c):Sb own S N w0 w.drew g z t A c:=h.below (Below.drew (Below.refl _ _))
theorem Sb.drewN (h:Sb own S N w0 w g z t A c) (n:Nat):Sb own S N w0 (w.drewN n) g z t A c:=h.below (zL (Below.refl _ _) n)
theorem Sb.sS (h:Sb own S N w0 w g z t A c):S≤w.heap.size:=Nat.le_trans h.s0 h.bb.size
theorem Sb.sN (h:Sb own S N w0 w g z t A c):N≤w.heap.size:=Nat.le_trans h.n0 h.bb.size
theorem Sb.a0 (h:Sb own S N w0 w g z t A c):w.cell? ⟨g,0,none⟩=some (.int .i64 t.rt):=h.tb.c0
theorem Sb.a1 (h:Sb own S N w0 w g z t A c):w.cell? ⟨g,1,none⟩=some (.slice A t.ns.length c):=h.tb.c1
theorem Sb.f (h:Sb own S N w0 w g z t A c) (i:Nat):w.frozen? ⟨g,i,none⟩=false:=h.tb.f i
theorem Sb.y0 (h:Sb own S N w0 w g z t A c):w.cell? ⟨z,0,none⟩=some (.int .i64 0):=(zC h.zb 0).trans rfl
theorem Sb.y1 (h:Sb own S N w0 w g z t A c):w.cell? ⟨z,1,none⟩=some (.slice none 0 0):=(zC h.zb 1).trans rfl
theorem Sb.yf (h:Sb own S N w0 w g z t A c) (i:Nat):w.frozen? ⟨z,i,none⟩=false:=zK h.zb i
theorem Sb.some (h:Sb own S N w0 w g z t A c) (h0:0<t.ns.length):∃ad,A=some ad:=by
 obtain⟨ad,_,e,_⟩:=Kd.C_get h.tb.tv.rd emp 0 (by omega) (by omega);exact⟨ad,e⟩
theorem Sb.store {own2:Bool}{t1:St}{A1:Option Addr}{c1:Nat}(h:Sb own S N w0 w g z t A c) (hv:Tv own2 S N w A1 c1 t1.ns):Sb own2 S N w0 ((w.setCell ⟨g,0,none⟩ (.int .i64 t1.rt)).setCell ⟨g,1,none⟩ (.slice A1 t1.ns.length c1)) g z t1 A1 c1:=
 ⟨Tb.put h.tb.bx rfl hv h.tb.sg,set2_far h.zb h.ne _ _,kN h.bb h.g0 _ _,h.g0,h.z0,h.ne,h.s0,h.n0⟩
theorem Sb.root (h:Sb own S N w0 w g z t A c) (y:Int):Sb own S N w0 (w.setCell ⟨g,0,none⟩ (.int .i64 y)) g z ⟨t.ns,y⟩ A c:=
 ⟨⟨yR h.tb.bx 0 _,h.tb.tv.set h.tb.bx (by decide) h.tb.sg 0 _,h.tb.sg⟩,by rw[Below.heap_setCell _ _ _ _ (by simpa using h.ne)];exact h.zb,Below.setCell h.bb (p:=⟨g,0,none⟩) h.g0 _,h.g0,h.z0,h.ne,h.s0,h.n0⟩
theorem Sb.fin {t1:St}{A1:Option Addr}{c1:Nat}(h:Sb own S N w0 w g z t A c) (hv:Tv own S N w A1 c1 t1.ns) :
  vP own S N w0 t1 (.returned (.agg #[.int .i64 t1.rt,.slice A1 t1.ns.length c1])) ((w.setCell ⟨z,0,none⟩ (.int .i64 t1.rt)).setCell ⟨z,1,none⟩ (.slice A1 t1.ns.length c1)):=
 vP.fin h.bb h.z0 hv h.zb (Nat.le_trans h.s0 h.z0)
theorem Sb.start (h:Tv own S N w A c t.ns) (hS:S≤w.heap.size) (hN:N≤w.heap.size):Sb own S N w ((w.alloc (.cells #[.int .i64 t.rt,.slice A t.ns.length c] 27)).alloc (.cells #[.int .i64 0,.slice none 0 0] 27)) w.heap.size (w.heap.size+1) t A c:=by
 have hB:=zB (zB (Below.refl w.heap.size w) (.cells #[.int .i64 t.rt,.slice A t.ns.length c] 27)) (.cells #[.int .i64 0,.slice none 0 0] 27);have H1:=zQ w (.cells #[.int .i64 t.rt,.slice A t.ns.length c] 27);have H3:=zQ (w.alloc (.cells #[.int .i64 t.rt,.slice A t.ns.length c] 27)) (.cells #[.int .i64 0,.slice none 0 0] 27);simp only[World.size_alloc]at H3;exact⟨⟨zH H1 (zB (Below.refl _ _) (.cells #[.int .i64 0,.slice none 0 0] 27)),h.below hB,hS⟩,H3,hB,Nat.le_refl _,Nat.le_succ _,by omega,hS,hN⟩
end
structure Bk (w:World) (b cap:Nat) (l:List Nd):Prop where mk::
 o:∃(cur:Array Value) (rs:List Value),w.heap[b]?=some (.cells cur 72 (0,0))∧cur.toList=flat l++rs∧cur.size=cap*6
 le:l.length≤cap
 mx:cap≤maxLen
variable {w w1 : World} {b cap : Nat} {l : List Nd}
theorem Bk.at_ (h:Bk w b cap l) (x j:Nat) (hx:x<l.length) (hj:j<6):w.cell? ⟨b,x*6+j,none⟩=(nv (l.getD x emp))[j]?:=by
 obtain⟨cur,rs,h1,h2,_⟩:=h.o;rw[zC h1,←Array.getElem?_toList,h2,List.getElem?_append_left (by rw[zY];omega),flat_get _ _ _ hx hj]
theorem Bk.frozen (h:Bk w b cap l) (i:Nat):w.frozen? ⟨b,i,none⟩=false:=by
 obtain⟨cur,rs,h1,_⟩:=h.o;exact zK h1 i
theorem Bk.set (h:Bk w b cap l) (x j:Nat) (y:Nd) (u:Value) (hx:x<l.length) (hj:j<6) (e:(nv (l.getD x emp)).set j u=nv y):Bk (w.setCell ⟨b,x*6+j,none⟩ u) b cap (l.set x y):=by
 obtain⟨cur,rs,h1,h2,h3⟩:=h.o;refine⟨⟨_,rs,yR h1 _ _,?_,by rw[Array.size_setIfInBounds];exact h3⟩,by rw[List.length_set];exact h.le,h.mx⟩;rw[Array.toList_setIfInBounds,h2,List.set_append_left _ _ (by rw[zY];omega),wR l x j y u hx hj e]
theorem Bk.zaO (h:Bk w b cap l) (x:Nat) (hx:x<l.length) (y:Nd) :
  Bk ((((((w.setCell ⟨b,x*6,none⟩ (.bool y.inn)).setCell ⟨b,x*6+1,none⟩ (.bool y.red)).setCell ⟨b,x*6+2,none⟩ (.int .u64 y.v)).setCell ⟨b,x*6+3,none⟩ (.int .i64 y.l)).setCell ⟨b,x*6+4,none⟩ (.int .i64 y.r)).setCell ⟨b,x*6+5,none⟩ (.int .i64 y.u)) b cap (l.set x y):=by
 have e:∀n:Nd,(l.set x n).getD x emp=n:=fun n=>by rw[List.getD_eq_getElem?_getD,List.getElem?_set_self hx];rfl
 have k0:=h.set x 0 { l.getD x emp with inn:=y.inn } (.bool y.inn) hx (by omega) rfl;have k1:=k0.set x 1 { l.getD x emp with inn:=y.inn,red:=y.red } (.bool y.red) (by rw[List.length_set];exact hx) (by omega) (by rw[e];rfl);rw[List.set_set]at k1;have k2:=k1.set x 2 { l.getD x emp with inn:=y.inn,red:=y.red,v:=y.v } (.int .u64 y.v) (by rw[List.length_set];exact hx) (by omega) (by rw[e];rfl);rw[List.set_set]at k2;have k3:=k2.set x 3 { l.getD x emp with inn:=y.inn,red:=y.red,v:=y.v,l:=y.l } (.int .i64 y.l) (by rw[List.length_set];exact hx) (by omega) (by rw[e];rfl);rw[List.set_set]at k3;have k4:=k3.set x 4 { l.getD x emp with inn:=y.inn,red:=y.red,v:=y.v,l:=y.l,r:=y.r } (.int .i64 y.r) (by rw[List.length_set];exact hx) (by omega) (by rw[e];rfl);rw[List.set_set]at k4;have k5:=k4.set x 5 y (.int .i64 y.u) (by rw[List.length_set];exact hx) (by omega) (by rw[e];rfl);rw[List.set_set]at k5;exact k5
theorem Bk.toR (h:Bk w b cap l) {N:Nat}(hb:N≤b):kn.R 72 w N (fun _=>True) (.slice (some ⟨b,0,none⟩) l.length cap) l:=by
 obtain⟨cur,rs,h1,h2,h3⟩:=h.o;have hs:=h3;rw[←Array.length_toList,h2,List.length_append,zY]at hs;exact arr_R h1 h2 hb trivial h.le h.mx hs
theorem Bk.ofR {N:Nat}{v:Value}(h:kn.R 72 w N (fun _=>True) v l) (h0:0<l.length):∃b cap,v=.slice (some ⟨b,0,none⟩) l.length cap∧N≤b∧Bk w b cap l:=by
 obtain⟨g,cap,rs,cur,e,h1,_,h2,h3,h4,h5,h6⟩:=R_arr h h0;refine⟨g,cap,e,h1,⟨cur,rs,h5,h6,?_⟩,h2,h3⟩;rw[←Array.length_toList,h6,List.length_append,zY,h4]
def set6 (w:World) (b i:Nat) (u0 u1 u2 u3 u4 u5:Value):World:=(((((w.setCell ⟨b,i,none⟩ u0).setCell ⟨b,i+1,none⟩ u1).setCell ⟨b,i+2,none⟩ u2).setCell ⟨b,i+3,none⟩ u3).setCell ⟨b,i+4,none⟩ u4).setCell ⟨b,i+5,none⟩ u5
theorem set6_far {k:Nat}{o:Obj}(h:w.heap[k]?=some o) (hne:k≠b) (i:Nat) (u0 u1 u2 u3 u4 u5:Value):(set6 w b i u0 u1 u2 u3 u4 u5).heap[k]?=some o:=by
 unfold set6;rw[Below.heap_setCell _ _ _ _ (by simpa using hne),Below.heap_setCell _ _ _ _ (by simpa using hne),Below.heap_setCell _ _ _ _ (by simpa using hne),Below.heap_setCell _ _ _ _ (by simpa using hne),Below.heap_setCell _ _ _ _ (by simpa using hne),Below.heap_setCell _ _ _ _ (by simpa using hne)];exact h
theorem set6_below {M:Nat}{w0:World}(h:Below M w0 w) (hb:M≤b) (i:Nat) (u0 u1 u2 u3 u4 u5:Value):Below M w0 (set6 w b i u0 u1 u2 u3 u4 u5):=
 Below.setCell (Below.setCell (Below.setCell (Below.setCell (Below.setCell (Below.setCell h (p:=⟨b,i,none⟩) hb _) (p:=⟨b,i+1,none⟩) hb _) (p:=⟨b,i+2,none⟩) hb _) (p:=⟨b,i+3,none⟩) hb _) (p:=⟨b,i+4,none⟩) hb _) (p:=⟨b,i+5,none⟩) hb _
variable {t : St}
theorem jY {ad:Addr}(h:kn.C w (some ad) t.ns.length t.ns) (x:Int) (h0:0≤x) (h1:x<t.ns.length):w.cell? (ad.add (x.toNat*6))=some (.bool (gn t x.toNat).inn)∧w.cell? ⟨(ad.add (x.toNat*6)).block,(ad.add (x.toNat*6)).off+1,none⟩=some (.bool (redA t x))∧w.cell? ⟨(ad.add (x.toNat*6)).block,(ad.add (x.toNat*6)).off+2,none⟩=some (.int .u64 (gn t x.toNat).v)∧w.cell? ⟨(ad.add (x.toNat*6)).block,(ad.add (x.toNat*6)).off+3,none⟩=some (.int .i64 (kidA t x false))∧w.cell? ⟨(ad.add (x.toNat*6)).block,(ad.add (x.toNat*6)).off+4,none⟩=some (.int .i64 (kidA t x true))∧w.cell? ⟨(ad.add (x.toNat*6)).block,(ad.add (x.toNat*6)).off+5,none⟩=some (.int .i64 (upA t x)):=by
 obtain⟨ad2,e,d⟩:=kV h x h0 h1;obtain rfl:=Option.some.inj e;obtain⟨d0,d1,d2,d3,d4,d5⟩:=d;refine⟨d0,?_,d2,d3,d4,d5⟩;rw[show redA t x=(t.ns.getD x.toNat emp).red by unfold redA gn;rw[decide_eq_true h0];rfl];exact d1
theorem zbs {A:Option Addr}(h:kn.C w A t.ns.length t.ns) (x:Int) (h0:0≤x) (h1:x<t.ns.length):∃ad,A=some ad∧w.cell? (ad.add (x.toNat*6))=some (.bool (gn t x.toNat).inn)∧w.cell? ⟨(ad.add (x.toNat*6)).block,(ad.add (x.toNat*6)).off+1,none⟩=some (.bool (redA t x))∧w.cell? ⟨(ad.add (x.toNat*6)).block,(ad.add (x.toNat*6)).off+2,none⟩=some (.int .u64 (gn t x.toNat).v)∧w.cell? ⟨(ad.add (x.toNat*6)).block,(ad.add (x.toNat*6)).off+3,none⟩=some (.int .i64 (kidA t x false))∧w.cell? ⟨(ad.add (x.toNat*6)).block,(ad.add (x.toNat*6)).off+4,none⟩=some (.int .i64 (kidA t x true))∧w.cell? ⟨(ad.add (x.toNat*6)).block,(ad.add (x.toNat*6)).off+5,none⟩=some (.int .i64 (upA t x)):=by
 obtain⟨ad,e,d0,d1,d2,d3,d4,d5⟩:=kV h x h0 h1;refine⟨ad,e,d0,?_,d2,d3,d4,d5⟩;rw[show redA t x=(t.ns.getD x.toNat emp).red by unfold redA gn;rw[decide_eq_true h0];rfl];exact d1
theorem rkid_ (A:Option Addr) (c:Nat) (h:kn.C w A t.ns.length t.ns) (x:Int) (h0:0≤x) (hx:x<t.ns.length) (s:Bool) :
  Calls Tryz.prog 125 #[.agg #[.int .i64 t.rt,.slice A t.ns.length c],.int .i64 x,.int .i64 (sd s)] w fun e w'=>e=.returned (.int .i64 (kidA t x s))∧Below w.heap.size w w':=by
 have HB1:=Z (zB (Below.refl w.heap.size w) (.cells #[.int .i64 t.rt,.slice A t.ns.length c] 27));obtain⟨ad,rfl,d0,d1,d2,d3,d4,d5⟩:=zbs (Kd.zU h HB1.o) x h0 hx;clear h d0 d1 d2 d5;cases s with
 | false=>
  change Calls Tryz.prog 125 #[.agg #[.int .i64 t.rt,.slice (some ad) t.ns.length c],.int .i64 x,.int .i64 0] w _;go_enter Tryz.func125,Tryz.ntmps125;go_wp2;go_ret;exact⟨rfl,HB1.o⟩
 | true=>
  change Calls Tryz.prog 125 #[.agg #[.int .i64 t.rt,.slice (some ad) t.ns.length c],.int .i64 x,.int .i64 1] w _;go_enter Tryz.func125,Tryz.ntmps125;go_wp2;go_ret;exact⟨rfl,HB1.o⟩
theorem rred_ (A:Option Addr) (c:Nat) (h:kn.C w A t.ns.length t.ns) (x:Int) (hx:x<t.ns.length) :
  Calls Tryz.prog 108 #[.agg #[.int .i64 t.rt,.slice A t.ns.length c],.int .i64 x] w fun e w'=>e=.returned (.bool (redA t x))∧Below w.heap.size w w':=by
 have HB1:=Z (zB (Below.refl w.heap.size w) (.cells #[.int .i64 t.rt,.slice A t.ns.length c] 27));by_cases h0:0≤x
 ·obtain⟨ad,rfl,d0,d1,d2,d3,d4,d5⟩:=zbs (Kd.zU h HB1.o) x h0 hx;clear h d0 d2 d3 d4 d5;go_enter Tryz.func108,Tryz.ntmps108;go_wp2;go_ret;exact⟨rfl,HB1.o⟩
 have e:redA t x=false:=by unfold redA;rw[decide_eq_false h0];rfl
 rw[e];have h1:decide (0≤x)=false:=decide_eq_false h0;clear h e;go_enter Tryz.func108,Tryz.ntmps108;go_wp2;go_ret;exact⟨rfl,HB1.o⟩
theorem rside_ (A:Option Addr) (c:Nat) (h:kn.C w A t.ns.length t.ns) (x:Int) (h0:0≤x) (hx:x<t.ns.length) (hu:upA t x<t.ns.length) :
  Calls Tryz.prog 129 #[.agg #[.int .i64 t.rt,.slice A t.ns.length c],.int .i64 x] w fun e w'=>e=.returned (.int .i64 (sd (onA t x)))∧Below w.heap.size w w':=by
 have HB1:=Z (zB (Below.refl w.heap.size w) (.cells #[.int .i64 t.rt,.slice A t.ns.length c] 27));obtain⟨ad,rfl,d0,d1,d2,d3,d4,d5⟩:=zbs (Kd.zU h HB1.o) x h0 hx;clear d0 d1 d2 d3 d4;by_cases hp:0≤upA t x;rotate_left
 ·have e:onA t x=false:=by
   show decide (0≤upA t x∧kidA t (upA t x) true=x)=_;simp[hp]
  rw[e];have h1:decide (0≤upA t x)=false:=decide_eq_false hp;clear h e hu;generalize upA t x=u at *
  go_enter Tryz.func129,Tryz.ntmps129;go_wp2;go_ret;exact⟨rfl,HB1.o⟩
 have e:onA t x=decide (kidA t (upA t x) true=x):=by
  show decide (0≤upA t x∧kidA t (upA t x) true=x)=_;simp[hp]
 rw[e];generalize upA t x=u at *
 obtain⟨ad2,e2,g0,g1,g2,g3,g4,g5⟩:=zbs (Kd.zU h HB1.o) u hp hu;obtain rfl:=Option.some.inj e2;clear g0 g1 g2 g3 g5 h e e2;by_cases hq:kidA t u true=x
 ·rw[hq]at g4;rw[hq];have hq0:decide (x=x)=true:=by simp
  rw[hq0];clear hq;go_enter Tryz.func129,Tryz.ntmps129;go_wp2;go_ret;exact⟨rfl,HB1.o⟩
 rw[decide_eq_false hq];generalize kidA t u true=y at *
 have hq1:(y==x)=false:=by simpa using hq
 go_enter Tryz.func129,Tryz.ntmps129;go_wp2;go_ret;exact⟨rfl,HB1.o⟩
theorem zal {own:Bool}{S N:Nat}(A:Option Addr) (c:Nat) (h:kn.C w A t.ns.length t.ns) (hS:S≤w.heap.size) (hN:N≤w.heap.size) (hl:t.ns.length≤1000000) (x:Int) (h0:0≤x) (hx:x<t.ns.length) (y:Nd) :
  Calls Tryz.prog 127 #[.agg #[.int .i64 t.rt,.slice A t.ns.length c],.int .i64 x,.agg #[.bool y.inn,.bool y.red,.int .u64 y.v,.int .i64 y.l,.int .i64 y.r,.int .i64 y.u]] w fun e w'=>vP own S N w (sn t x.toNat y) e w':=by
 obtain⟨y0,y1,y2,y3,y4,y5⟩:=y;simp only;have HR:=Z h;have HL:=Z hl;have HS:=Z hS;have HN:=Z hN;clear h hl hS hN;go_enter Tryz.func127,Tryz.ntmps127;go_upto_region 1 with(fail);have HB1:=Z (zB (zB (zB (Below.refl w.heap.size w) (.cells #[.int .i64 t.rt,.slice A t.ns.length c] 27)) (.cells #[.bool y0,.bool y1,.int .u64 y2,.int .i64 y3,.int .i64 y4,.int .i64 y5] 72)) (.cells #[.int .i64 0,.slice none 0 0] 27));have H1:=zQ w (.cells #[.int .i64 t.rt,.slice A t.ns.length c] 27);have H2:=zQ (w.alloc (.cells #[.int .i64 t.rt,.slice A t.ns.length c] 27)) (.cells #[.bool y0,.bool y1,.int .u64 y2,.int .i64 y3,.int .i64 y4,.int .i64 y5] 72);have H3:=zQ ((w.alloc (.cells #[.int .i64 t.rt,.slice A t.ns.length c] 27)).alloc (.cells #[.bool y0,.bool y1,.int .u64 y2,.int .i64 y3,.int .i64 y4,.int .i64 y5] 72)) (.cells #[.int .i64 0,.slice none 0 0] 27);have HX1:=Z (zH (zH H1 (zB (Below.refl _ _) (.cells #[.bool y0,.bool y1,.int .u64 y2,.int .i64 y3,.int .i64 y4,.int .i64 y5] 72))) (zB (Below.refl _ _) (.cells #[.int .i64 0,.slice none 0 0] 27)));have HY1:=Z (zH H2 (zB (Below.refl _ _) (.cells #[.int .i64 0,.slice none 0 0] 27)));have HZ1:=Z H3;clear H1 H2 H3;simp only[World.size_alloc]at HY1 HZ1;generalize((w.alloc (.cells #[.int .i64 t.rt,.slice A t.ns.length c] 27)).alloc (.cells #[.bool y0,.bool y1,.int .u64 y2,.int .i64 y3,.int .i64 y4,.int .i64 y5] 72)).alloc (.cells #[.int .i64 0,.slice none 0 0] 27)=W1 at HB1 HX1 HY1 HZ1⊢;have HR1:=Z (Kd.zU HR.o HB1.o);have a1:=(show W1.cell? ⟨w.heap.size,1,none⟩=some (.slice A t.ns.length c)from(zC HX1.o 1).trans rfl);go_upto_region 2 with(at_builtin;refine Kd.qL kn (Rr:=kn.K W1) (w0:=W1) W1.heap.size rfl (.const (.slice none 0 0)) (.tmp 9) 25 72 (.agg #[(.bool false),(.bool false),(.int .u64 0),(.int .i64 0),(.int .i64 0),(.int .i64 0)]) 40 rfl Tryz.underlying25 infoN rfl (show 0<kn.sz by show 0<6;omega) (by omega) (.slice none 0 0) [] t.ns A t.ns.length c (fun _=>True) (fun _=>False) rfl rfl ?aO ?aR ?aK (fun _ h=>h.elim) (fun _ _=>trivial) ?aB ?aS ?aL ?_;(case aO=>exact Kd.jT _ _ _ _ _);(case aR=>exact HR1.o);(case aK=>intro x cs h;rw[kn_open h];exact kn_mkM _ _ _ _);(case aB=>exact Below.refl _ _);(case aS=>exact Nat.le_refl _);(case aL=>have:=HL.o;simp;omega);intro v2 w2 hR hB hg _;have HR2:=Z hR;have HB2:=Z hB;clear hR hB hg);have hR2:=HR2.o;rw[List.nil_append]at hR2;obtain⟨b,cap,rfl,hb,hK⟩:=Bk.ofR hR2 (by omega);have HK:=Z hK;have HB:=Z hb;have x2:=zH HX1.o HB2.o;have y2':=zH HY1.o HB2.o;have z2:=zH HZ1.o HB2.o;have HX2:=Z x2;have HZ2:=Z z2;have HLT:=Z (show w.heap.size+1+1<W1.heap.size from(Array.getElem?_eq_some_iff.1 HZ1.o).1);have HBW:=Z (zD HB1.o HB2.o);have d0:w2.cell? ⟨b,x.toNat*6,none⟩=some (.bool _):=hK.at_ x.toNat 0 (by omega) (by omega);have d1:w2.cell? ⟨b,x.toNat*6+1,none⟩=some (.bool _):=hK.at_ x.toNat 1 (by omega) (by omega);have d2:w2.cell? ⟨b,x.toNat*6+2,none⟩=some (.int .u64 _):=hK.at_ x.toNat 2 (by omega) (by omega);have d3:w2.cell? ⟨b,x.toNat*6+3,none⟩=some (.int .i64 _):=hK.at_ x.toNat 3 (by omega) (by omega);have d4:w2.cell? ⟨b,x.toNat*6+4,none⟩=some (.int .i64 _):=hK.at_ x.toNat 4 (by omega) (by omega);have d5:w2.cell? ⟨b,x.toNat*6+5,none⟩=some (.int .i64 _):=hK.at_ x.toNat 5 (by omega) (by omega);have f0:=hK.frozen (x.toNat*6);have f1:=hK.frozen (x.toNat*6+1);have f2:=hK.frozen (x.toNat*6+2);have f3:=hK.frozen (x.toNat*6+3);have f4:=hK.frozen (x.toNat*6+4);have f5:=hK.frozen (x.toNat*6+5);have g0:=(show w2.cell? ⟨w.heap.size+1,0,none⟩=some (.bool y0)from(zC y2' 0).trans rfl);have g1:=(show w2.cell? ⟨w.heap.size+1,1,none⟩=some (.bool y1)from(zC y2' 1).trans rfl);have g2:=(show w2.cell? ⟨w.heap.size+1,2,none⟩=some (.int .u64 y2)from(zC y2' 2).trans rfl);have g3:=(show w2.cell? ⟨w.heap.size+1,3,none⟩=some (.int .i64 y3)from(zC y2' 3).trans rfl);have g4:=(show w2.cell? ⟨w.heap.size+1,4,none⟩=some (.int .i64 y4)from(zC y2' 4).trans rfl);have g5:=(show w2.cell? ⟨w.heap.size+1,5,none⟩=some (.int .i64 y5)from(zC y2' 5).trans rfl);clear a1 hR2 HR2 HR HR1 x2 y2' z2 hb hK;go_upto_region 3 with(fail);have HK3:=Z (HK.o.zaO x.toNat (by omega) ⟨y0,y1,y2,y3,y4,y5⟩);change zA (Bk (set6 w2 b (x.toNat*6) (.bool y0) (.bool y1) (.int .u64 y2) (.int .i64 y3) (.int .i64 y4) (.int .i64 y5)) b cap (t.ns.set x.toNat ⟨y0,y1,y2,y3,y4,y5⟩))at HK3;have hx3:=set6_far (b:=b) HX2.o (by have:=HLT.o;have:=HB.o;omega) (x.toNat*6) (.bool y0) (.bool y1) (.int .u64 y2) (.int .i64 y3) (.int .i64 y4) (.int .i64 y5);have hz3:=set6_far (b:=b) HZ2.o (by have:=HLT.o;have:=HB.o;omega) (x.toNat*6) (.bool y0) (.bool y1) (.int .u64 y2) (.int .i64 y3) (.int .i64 y4) (.int .i64 y5);have HBW3:=Z (set6_below (b:=b) HBW.o (by have:=HLT.o;have:=HB.o;omega) (x.toNat*6) (.bool y0) (.bool y1) (.int .u64 y2) (.int .i64 y3) (.int .i64 y4) (.int .i64 y5));clear d0 d1 d2 d3 d4 d5 f0 f1 f2 f3 f4 f5 g0 g1 g2 g3 g4 g5;change Code.wp _ _ _ _ (set6 w2 b (x.toNat*6) (.bool y0) (.bool y1) (.int .u64 y2) (.int .i64 y3) (.int .i64 y4) (.int .i64 y5));generalize set6 w2 b (x.toNat*6) (.bool y0) (.bool y1) (.int .u64 y2) (.int .i64 y3) (.int .i64 y4) (.int .i64 y5)=W3 at HK3 hx3 hz3 HBW3⊢;have HZ3:=Z hz3;have a1:=(show W3.cell? ⟨w.heap.size,0,none⟩=some (.int .i64 t.rt)from(zC hx3 0).trans rfl);have z0:=(show W3.cell? ⟨w.heap.size+1+1,0,none⟩=some (.int .i64 0)from(zC hz3 0).trans rfl);have z1:=(show W3.cell? ⟨w.heap.size+1+1,1,none⟩=some (.slice none 0 0)from(zC hz3 1).trans rfl);have f0:=zK hz3 0;have f1:=zK hz3 1;clear hx3 hz3;have HT:=Z (show Tv own S N W3 (some ⟨b,0,none⟩) cap (sn t x.toNat ⟨y0,y1,y2,y3,y4,y5⟩).ns from⟨HK3.o.le,.inr (HK3.o.toR (by have:=HLT.o;have:=HB.o;have:=HN.o;omega))⟩);have HSL:=Z (xQ t x.toNat ⟨y0,y1,y2,y3,y4,y5⟩);have HLEN:=Z (show w.heap.size≤w.heap.size+1+1 by omega);have FIN:=Z (vP.fin (t:=sn t x.toNat ⟨y0,y1,y2,y3,y4,y5⟩) HBW3.o HLEN.o HT.o HZ3.o (Nat.le_trans HS.o HLEN.o));rw[HSL.o]at FIN;go_wp2;refine bodyPost_ret (yK (cs:=#[.int .i64 t.rt,.slice (some ⟨b,0,none⟩) t.ns.length cap]) rfl _ _ (w.heap.size+1+1) 27 (0,0) _ rfl (jQ HZ3.o rfl _ _) Tryz.underlying27 rfl (by kernel_rfl)) rfl ?_;exact FIN.o
theorem yQ {own:Bool}{S N:Nat}(A:Option Addr) (c:Nat) (h:Tv own S N w A c t.ns) (hS:S≤w.heap.size) (hN:N≤w.heap.size) (hl:t.ns.length≤1000000) (x:Int) (hx:x<t.ns.length) (is:Bool) :
  Calls Tryz.prog 130 #[.agg #[.int .i64 t.rt,.slice A t.ns.length c],.int .i64 x,.bool is] w fun e w'=>vP own S N w (zG t is x) e w':=by
 have HR:=Z h;have HL:=Z hl;have HS:=Z hS;have HN:=Z hN;clear h hl hS hN;go_enter Tryz.func130,Tryz.ntmps130;go_upto_region 1 with(fail);have HB1:=Z (zB (zB (Below.refl w.heap.size w) (.cells #[.int .i64 t.rt,.slice A t.ns.length c] 27)) (.cells #[.int .i64 0,.slice none 0 0] 27));have H1:=zQ w (.cells #[.int .i64 t.rt,.slice A t.ns.length c] 27);have H3:=zQ (w.alloc (.cells #[.int .i64 t.rt,.slice A t.ns.length c] 27)) (.cells #[.int .i64 0,.slice none 0 0] 27);have HX1:=Z (zH H1 (zB (Below.refl _ _) (.cells #[.int .i64 0,.slice none 0 0] 27)));have HZ1:=Z H3;clear H1 H3;simp only[World.size_alloc]at HZ1;generalize(w.alloc (.cells #[.int .i64 t.rt,.slice A t.ns.length c] 27)).alloc (.cells #[.int .i64 0,.slice none 0 0] 27)=W1 at HB1 HX1 HZ1⊢;have HR1:=Z (HR.o.below HB1.o);have a0:=(show W1.cell? ⟨w.heap.size,0,none⟩=some (.int .i64 t.rt)from(zC HX1.o 0).trans rfl);have a1:=(show W1.cell? ⟨w.heap.size,1,none⟩=some (.slice A t.ns.length c)from(zC HX1.o 1).trans rfl);have z0:=(show W1.cell? ⟨w.heap.size+1,0,none⟩=some (.int .i64 0)from(zC HZ1.o 0).trans rfl);have z1:=(show W1.cell? ⟨w.heap.size+1,1,none⟩=some (.slice none 0 0)from(zC HZ1.o 1).trans rfl);have f0:=zK HZ1.o 0;have f1:=zK HZ1.o 1;have HLE:=Z (show w.heap.size≤w.heap.size+1 by omega);by_cases h0:x<0
 ·have FIN:=Z (vP.fin (t:=t) HB1.o HLE.o HR1.o HZ1.o (Nat.le_trans HS.o HLE.o));have HP:=Z (show zG t is x=t by unfold zG;rw[if_neg (by omega)]);go_wp2;refine bodyPost_ret (yK (cs:=#[.int .i64 t.rt,.slice A t.ns.length c]) rfl _ _ (w.heap.size+1) 27 (0,0) _ rfl (jQ HZ1.o rfl _ _) Tryz.underlying27 rfl (by kernel_rfl)) rfl ?_;rw[HP.o];exact FIN.o
 have h1:decide (x<0)=false:=decide_eq_false h0;have h2:0≤x:=by omega
 obtain⟨ad,rfl,d0,d1,d2,d3,d4,d5⟩:=zbs HR1.o.rd x h2 hx;go_upto_region 5 with(fail);have HB2:=Z (zB (Below.refl W1.heap.size W1) (.cells #[.bool (gn t x.toNat).inn,.bool is,.int .u64 (gn t x.toNat).v,.int .i64 (kidA t x false),.int .i64 (kidA t x true),.int .i64 (upA t x)] 72));have HN2:=Z (zQ W1 (.cells #[.bool (gn t x.toNat).inn,.bool is,.int .u64 (gn t x.toNat).v,.int .i64 (kidA t x false),.int .i64 (kidA t x true),.int .i64 (upA t x)] 72));have HBW2:=Z (zD HB1.o HB2.o);have x2:=zH HX1.o HB2.o;have z2:=zH HZ1.o HB2.o;have HR2:=Z (HR1.o.below HB2.o);generalize W1.alloc (.cells #[.bool (gn t x.toNat).inn,.bool is,.int .u64 (gn t x.toNat).v,.int .i64 (kidA t x false),.int .i64 (kidA t x true),.int .i64 (upA t x)] 72)=W2 at HBW2 HN2 x2 z2 HR2⊢;clear HB2 a0 a1 z0 z1 f0 f1 d0 d1 d2 d3 d4 d5;have hn2:=HN2.o;generalize W1.heap.size=g2 at hn2⊢;have HZ2:=Z z2;have a0:=(show W2.cell? ⟨w.heap.size,0,none⟩=some (.int .i64 t.rt)from(zC x2 0).trans rfl);have a1:=(show W2.cell? ⟨w.heap.size,1,none⟩=some (.slice (some ad) t.ns.length c)from(zC x2 1).trans rfl);have b0:=(show W2.cell? ⟨g2,0,none⟩=some (.bool (gn t x.toNat).inn)from(zC hn2 0).trans rfl);have b1:=(show W2.cell? ⟨g2,1,none⟩=some (.bool is)from(zC hn2 1).trans rfl);have b2:=(show W2.cell? ⟨g2,2,none⟩=some (.int .u64 (gn t x.toNat).v)from(zC hn2 2).trans rfl);have b3:=(show W2.cell? ⟨g2,3,none⟩=some (.int .i64 (kidA t x false))from(zC hn2 3).trans rfl);have b4:=(show W2.cell? ⟨g2,4,none⟩=some (.int .i64 (kidA t x true))from(zC hn2 4).trans rfl);have b5:=(show W2.cell? ⟨g2,5,none⟩=some (.int .i64 (upA t x))from(zC hn2 5).trans rfl);have HSX:=Z (Nat.le_trans HS.o HBW2.o.size);have HNX:=Z (Nat.le_trans HN.o HBW2.o.size);have HP:=Z (show sn t x.toNat ⟨(gn t x.toNat).inn,is,(gn t x.toNat).v,kidA t x false,kidA t x true,upA t x⟩=zG t is x by unfold zG;rw[if_pos h2];rfl);clear x2 z2 hn2;go_wp2_with (go_at_call 127;refine(zal (own:=own) (S:=S) (N:=N) (t:=t) (some ad) c HR2.o.rd HSX.o HNX.o HL.o x h2 hx ⟨(gn t x.toNat).inn,is,(gn t x.toNat).v,kidA t x false,kidA t x true,upA t x⟩).mono ?_;rintro e w3 ⟨A3,c3,rfl,hT,hB⟩;rw[HP.o]at hT;have HT3:=Z hT;have HZ3:=Z (zH HZ2.o hB);have HB3:=Z (zD HBW2.o hB);have z0:=(show w3.cell? ⟨w.heap.size+1,0,none⟩=some (.int .i64 0)from(zC HZ3.o 0).trans rfl);have z1:=(show w3.cell? ⟨w.heap.size+1,1,none⟩=some (.slice none 0 0)from(zC HZ3.o 1).trans rfl);have f0:=zK HZ3.o 0;have f1:=zK HZ3.o 1;rw[HP.o];clear hT hB);refine bodyPost_ret (yK (cs:=#[.int .i64 (zG t is x).rt,.slice A3 (zG t is x).ns.length c3]) rfl _ _ (w.heap.size+1) 27 (0,0) _ rfl (jQ HZ3.o rfl _ _) Tryz.underlying27 rfl (by kernel_rfl)) rfl ?_;exact vP.fin HB3.o HLE.o HT3.o HZ3.o (Nat.le_trans HS.o HLE.o)
end Go.Proofs.YtnkhnnojdlgfjaaGreatDoor.Tm
end
section
namespace Go.Proofs.YtnkhnnojdlgfjaaGreatDoor.Tm
open RowKit Tr Tk PA PB PC
variable {w : World} {t : St}
theorem u64w (x:Int):IntKind.u64.wrap x=x%18446744073709551616:=by unfold IntKind.wrap;simp[IntKind.signed,IntKind.bits]
theorem cvf_lt {mn:Int}{x y:K}:cvf mn x y<0↔lagf mn x.1<lagf mn y.1∨lagf mn x.1=lagf mn y.1∧x.2<y.2:=by
 unfold cvf
 repeat' split
 all_goals omega
theorem zam (v mn:Int):Calls Tryz.prog 66 #[.int .u64 v,.int .u64 mn] w fun e w'=>e=.returned (.int .i64 (lagf mn v))∧w'=w:=by
 obtain⟨d,hd⟩:∃d,d=IntKind.u64.wrap (v-mn):=⟨_,rfl⟩;have hd0:0≤d∧d<18446744073709551616:=by rw[hd,u64w];omega
 have hw:=hd.symm;have HL:=Z (show lagf mn v=wrap64 d by rw[hd];rfl);obtain⟨h0,h1⟩:=hd0;by_cases hc:d<9223372036854775808
 ·have hcd:decide (d<9223372036854775808)=true:=decide_eq_true hc;clear hd;go_enter Tryz.func66,Tryz.ntmps66;go_wp2;go_ret;refine⟨?_,rfl⟩;rw[HL.o,show wrap64 d=d by unfold wrap64;omega]
  rfl
 have hcd:decide (d<9223372036854775808)=false:=decide_eq_false hc;clear hd;go_enter Tryz.func66,Tryz.ntmps66;go_wp2;go_ret;refine⟨?_,rfl⟩;rw[HL.o,show wrap64 d=-1-(18446744073709551615-d)by unfold wrap64;omega]
 rfl
theorem zaP (mn:Int) (x y:K):Calls Tryz.prog 90 #[.int .u64 mn,.agg #[.int .u64 x.1,.int .i64 x.2],.agg #[.int .u64 y.1,.int .i64 y.2]] w fun e w'=>e=.returned (.bool (decide (cvf mn x y<0)))∧Below w.heap.size w w':=by
 have HB0:=Z (zB (zB (Below.refl w.heap.size w) (.cells #[.int .u64 x.1,.int .i64 x.2] 38)) (.cells #[.int .u64 y.1,.int .i64 y.2] 38));obtain⟨x0,x1⟩:=x;obtain⟨y0,y1⟩:=y;simp only at HB0⊢;obtain⟨a,ha⟩:∃a,a=lagf mn x0:=⟨_,rfl⟩;obtain⟨b,hb⟩:∃b,b=lagf mn y0:=⟨_,rfl⟩;have HA:=Z ha.symm;have HB:=Z hb.symm;have HC:=Z (show cvf mn (x0,x1) (y0,y1)<0↔a<b∨a=b∧x1<y1 by rw[cvf_lt,←ha,←hb]);clear ha hb;by_cases h1:a<b
 ·have hr:=Z (show decide (cvf mn (x0,x1) (y0,y1)<0)=true from decide_eq_true (HC.o.2 (Or.inl h1)));have hd:decide (a<b)=true:=decide_eq_true h1;go_enter Tryz.func90,Tryz.ntmps90;go_wp2_with (first|(go_at_call_of 66 (Value.int IntKind.u64 x0);(with_reducible refine(zam x0 mn).mono ?_);rintro e wq ⟨rfl,rfl⟩;rw[HA.o])|(go_at_call_of 66 (Value.int IntKind.u64 y0);(with_reducible refine(zam y0 mn).mono ?_);rintro e wq ⟨rfl,rfl⟩;rw[HB.o]));go_ret;rw[hr.o];exact⟨rfl,HB0.o⟩
 have hd:decide (a<b)=false:=decide_eq_false h1;by_cases h2:a=b;rotate_left
 ·have hr:=Z (show decide (cvf mn (x0,x1) (y0,y1)<0)=false from decide_eq_false (by rw[HC.o];omega));have h3:(a==b)=false:=by simpa using h2
  go_enter Tryz.func90,Tryz.ntmps90;go_wp2_with (first|(go_at_call_of 66 (Value.int IntKind.u64 x0);(with_reducible refine(zam x0 mn).mono ?_);rintro e wq ⟨rfl,rfl⟩;rw[HA.o])|(go_at_call_of 66 (Value.int IntKind.u64 y0);(with_reducible refine(zam y0 mn).mono ?_);rintro e wq ⟨rfl,rfl⟩;rw[HB.o]));go_ret;rw[hr.o];exact⟨rfl,HB0.o⟩
 subst h2;have hr:=Z (show decide (cvf mn (x0,x1) (y0,y1)<0)=decide (x1<y1)from by rw[decide_eq_decide,HC.o];omega);have h3:(a==a)=true:=by simp
 clear h1;go_enter Tryz.func90,Tryz.ntmps90;go_wp2_with (first|(go_at_call_of 66 (Value.int IntKind.u64 x0);(with_reducible refine(zam x0 mn).mono ?_);rintro e wq ⟨rfl,rfl⟩;rw[HA.o])|(go_at_call_of 66 (Value.int IntKind.u64 y0);(with_reducible refine(zam y0 mn).mono ?_);rintro e wq ⟨rfl,rfl⟩;rw[HB.o]));go_ret;rw[hr.o];exact⟨rfl,HB0.o⟩
def goodP (mn:Int) (l:List K) (j i:Nat):Prop:=cvf mn (gt l j) (gt l i)<0∧(gt l j).2≠(gt l i).2
theorem cvf_trans {mn:Int}{x y z:K}(h:cvf mn x y<0) (k:cvf mn y z<0):cvf mn x z<0:=by
 rw[cvf_lt]at *
 omega
theorem sorted_good {mn:Int}{l:List K}(h:∀i,i<l.length→∀j,j<i→goodP mn l j i):qE (cvf mn) l=true:=by
 unfold qE;refine decide_eq_true (fun i hi=>⟨?_,fun j hj=>(h i hi j hj).2⟩);rcases Nat.eq_zero_or_pos i with h0|h0
 ·exact Or.inl h0
 ·exact Or.inr (h i hi (i-1) (by omega)).1
theorem zcA {mn:Int}{l:List K}(h:qE (cvf mn) l=true):∀i,i<l.length→∀j,j<i→goodP mn l j i:=by
 unfold qE at h;have h:=of_decide_eq_true h;have H:∀d j,j+d+1<l.length→cvf mn (gt l j) (gt l (j+d+1))<0:=by
  intro d
  induction d with
  | zero=>intro j hj;exact((h (j+1) (by omega)).1.resolve_left (by omega))
  | succ d ih=>intro j hj;exact cvf_trans (ih j (by omega)) ((h (j+(d+1)+1) hj).1.resolve_left (by omega))
 intro i hi j hj;refine⟨?_,(h i hi).2 j hj⟩;have e:j+(i-j-1)+1=i:=by omega
 have:=H (i-j-1) j (by omega);rw[e]at this;exact this
theorem rsorted_ (mn:Int) (A0:Option Addr) (c0:Nat) (l:List K) (hr:kp.C w A0 l.length l) (hl:l.length≤1000000) :
  Calls Tryz.prog 46 #[.int .u64 mn,.slice A0 l.length c0] w fun e w'=>e=.returned (.bool (qE (cvf mn) l))∧Below w.heap.size w w':=by
 have HR:=Z hr;have HL:=Z hl;have HB0:=Z (Below.refl w.heap.size w);clear hr;go_enter Tryz.func46,Tryz.ntmps46;go_wp2
 go_loopw [5] (fun vi wr=>∃i:Nat,i≤l.length∧vi=.int .i64 i∧zA (Below w.heap.size w wr)∧zA (∀x,x<i→∀y,y<x→goodP mn l y x)) (fun vi _=>l.length-(intOf vi).toNat)
 case atStart=>exact⟨0,Nat.zero_le _,rfl,HB0,⟨fun x hx=>by omega⟩⟩
 case round=>
  clear HB0;obtain⟨i,hi,rfl,HB,HP⟩:=hrel;by_cases hlt:i<l.length;rotate_left
  ·obtain rfl:i=l.length:=by omega
   have HS:=Z (sorted_good HP.o);go_wp2;go_ret;rw[HS.o];exact⟨rfl,HB.o⟩
  have hn:(i:Int)<(l.length:Int):=by omega
  have hd:decide ((i:Int)<(l.length:Int))=true:=decide_eq_true hn;have HN1:=Z (show((i:Int)+1).toNat=i+1 by omega);go_wp2
  go_loopw [6] (fun vk wx=>∃k:Nat,k≤i∧vk=.int .i64 k∧zA (Below w.heap.size w wx)∧zA (∀y,y<k→goodP mn l y i)) (fun vk _=>i-(intOf vk).toNat)
  case atStart=>exact⟨0,Nat.zero_le _,rfl,HB,⟨fun y hy=>by omega⟩⟩
  case round=>
   clear HB;obtain⟨k,hk,rfl,HBx,HPx⟩:=hrel;by_cases hki:k<i;rotate_left
   ·obtain rfl:k=i:=by omega
    go_wp2;refine⟨⟨k+1,by omega,by simp,HBx,⟨fun x hx y hy=>?_⟩⟩,?_⟩
    ·rcases Nat.lt_or_ge x k with h|h
     ·exact HP.o x h y hy
     ·obtain rfl:x=k:=by omega
      exact HPx.o y hy
    ·show l.length-((k:Int)+1).toNat<l.length-(k:Int).toNat;rw[HN1.o];omega
   have hkn:(k:Int)<(i:Int):=by omega
   have hkd:decide ((k:Int)<(i:Int))=true:=decide_eq_true hkn;have HK1:=Z (show((k:Int)+1).toNat=k+1 by omega);obtain⟨ad,e1,c1,c2⟩:=C_at (Kd.zU HR.o HBx.o) k (by omega);subst e1;obtain⟨ad2,e2,c3,c4⟩:=C_at (Kd.zU HR.o HBx.o) i (by omega);obtain rfl:=Option.some.inj e2;have hkl:(k:Int)<(l.length:Int):=by omega
   obtain⟨x,hx⟩:∃x,x=gt l k:=⟨_,rfl⟩;obtain⟨y,hy⟩:∃y,y=gt l i:=⟨_,rfl⟩;have HG:=Z (show goodP mn l k i↔cvf mn x y<0∧x.2≠y.2 by rw[hx,hy];exact Iff.rfl);rw[←hx]at c1 c2;rw[←hy]at c3 c4;have HC:=Z (And.intro c1 (And.intro c2 (And.intro c3 c4)));clear hx hy e2;go_upto_region 7 with(fail)
   go_still_tail 9,(by kernel_rfl)
   change wpList _ _ _ _ _ (World.drew _);have HBd:=Z (Below.drew HBx.o);clear HBx c1 c2 c3 c4;have HCd:=Z (show wr.drew.cell? (ad.add (k*2))=_∧wr.drew.cell? ⟨(ad.add (k*2)).block,(ad.add (k*2)).off+1,none⟩=_∧wr.drew.cell? (ad.add (i*2))=_∧wr.drew.cell? ⟨(ad.add (i*2)).block,(ad.add (i*2)).off+1,none⟩=_ from HC.o);clear HC;generalize wr.drew=w1 at HBd HCd⊢;by_cases hcv:cvf mn x y<0;rotate_left
   ·have HCV:=Z (show decide (cvf mn x y<0)=false from decide_eq_false hcv);have HS:=Z (show qE (cvf mn) l=false by
     cases hs:qE (cvf mn) l with
     | false=>rfl
     | true=>exact absurd (HG.o.1 (zcA hs i hlt k hki)).1 hcv)
    clear hcv;go_upto_region 8 with(go_at_call 90;(with_reducible refine(zaP mn x y).mono ?_);rintro e w2 ⟨rfl,hb⟩;rw[HCV.o];have HBz:=Z (zD HBd.o hb);clear hb)
    go_quiet (fail)
    have HBy:=Z (zL HBz.o nq);go_wp2;go_ret;rw[HS.o];exact⟨rfl,HBy.o⟩
   have HCV:=Z (show decide (cvf mn x y<0)=true from decide_eq_true hcv);have HV:=Z hcv;clear hcv;go_upto_region 8 with(go_at_call 90;(with_reducible refine(zaP mn x y).mono ?_);rintro e w2 ⟨rfl,hb⟩;rw[HCV.o];have HBz:=Z (zD HBd.o hb);have HCz:=Z (And.intro (yC HCd.o.1 hb) (And.intro (yC HCd.o.2.1 hb) (And.intro (yC HCd.o.2.2.1 hb) (yC HCd.o.2.2.2 hb))));clear hb);have c2:=HCz.o.2.1;have c4:=HCz.o.2.2.2;by_cases he:x.2=y.2
   ·have hq:(x.2==y.2)=true:=by simpa using he
    have HS:=Z (show qE (cvf mn) l=false by
     cases hs:qE (cvf mn) l with
     | false=>rfl
     | true=>exact absurd he (HG.o.1 (zcA hs i hlt k hki)).2)
    have HE:=Z he;clear he;rw[HE.o]at c2
    go_quiet (fail)
    have HBy:=Z (zL HBz.o nq);go_wp2;go_ret;rw[HS.o];exact⟨rfl,HBy.o⟩
   have hq:(x.2==y.2)=false:=by simpa using he
   have HE:=Z he;clear he
   go_quiet (fail)
   have HBy:=Z (zL HBz.o nq);go_wp2;refine⟨⟨k+1,by omega,by simp,HBy,⟨fun q hq=>?_⟩⟩,?_⟩
   ·rcases Nat.lt_or_ge q k with h|h
    ·exact HPx.o q h
    ·obtain rfl:q=k:=by omega
     exact HG.o.2 ⟨HV.o,HE.o⟩
   ·show i-((k:Int)+1).toNat<i-(k:Int).toNat;rw[HK1.o];omega
end Go.Proofs.YtnkhnnojdlgfjaaGreatDoor.Tm
end
