/- Parts of the proof, joined: Q1, Q2, Math. -/
import Derived.Test.YtnkhnnojdlgfjaaGreatDoorUI17
import Derived.Laws.EntriesVeiled
import Derived.Laws.BitsLemmas
import Derived.RowKit
set_option linter.unusedVariables false
set_option linter.unusedSimpArgs false
set_option maxHeartbeats 32000000
set_option maxRecDepth 100000
section
namespace Go.Proofs.YtnkhnnojdlgfjaaGreatDoor.Qw
open RowKit Tr Tk Tm Qu PA PB PC
abbrev ki:Kd Int:=Kd.int .i64
abbrev qc (A:Option Addr) (c:Nat) (B:Option Addr) (d:Nat) (q:Q):Array Value:=#[.int .i64 q.t.rt,.slice A q.t.ns.length c,.int .i64 q.cur,.int .u64 q.v,.int .u64 q.mn,.int .i64 q.load,.slice B q.ws.length d]
structure Ag (S:Nat→Prop) (w W:World):Prop where mk::
 size:w.heap.size≤W.heap.size
 o:∀k,k<w.heap.size→¬S k→W.heap[k]?=w.heap[k]?
theorem Ag.refl (S:Nat→Prop) (w:World):Ag S w w:=⟨Nat.le_refl _,fun _ _ _=>rfl⟩
theorem Ag.trans {S:Nat→Prop}{w W W':World}(h:Ag S w W) (k:Ag S W W'):Ag S w W':=⟨Nat.le_trans h.size k.size,fun i h1 h2=>(k.o i (Nat.lt_of_lt_of_le h1 h.size) h2).trans (h.o i h1 h2)⟩
theorem Ag.of_below {S:Nat→Prop}{w W:World}(h:Below w.heap.size w W):Ag S w W:=⟨h.size,fun k h1 _=>h.block k h1⟩
theorem Ag.set {S:Nat→Prop}{w W:World}(h:Ag S w W) {p:Addr}(hp:S p.block∨w.heap.size≤p.block) (u:Value):Ag S w (W.setCell p u):=⟨by simpa [World.setCell]using h.size,fun k h1 h2=>(Below.heap_setCell W p u k (by
 intro e;subst e;rcases hp with hp|hp
 ·exact h2 hp
 ·omega)).trans (h.o k h1 h2)⟩
theorem cell_ag {w W:World}(h:Ag (fun _=>False) w W) {a:Addr}{u:Value}(hc:w.cell? a=some u):W.cell? a=some u:=by
 have e:=h.o a.block (World.block_lt_of_cell? w _ hc) (fun e=>e);unfold World.cell? at hc⊢;rw[e];exact hc
theorem kn_ag {A:Option Addr}{n:Nat}{l:List Nd}{w W:World}(h:kn.C w A n l) (hW:Ag (fun _=>False) w W):kn.C W A n l:=⟨h.1,h.2.1,fun hn=>by
 obtain⟨ad,e,hc⟩:=h.2.2 hn;refine⟨ad,e,fun j p hj=>?_⟩;obtain⟨c,hs,hr,hcell⟩:=hc j p hj;exact⟨c,hs,hr,fun i u hu=>cell_ag hW (hcell i u hu)⟩⟩
theorem ki_ag {A:Option Addr}{n:Nat}{l:List Int}{w W:World}(h:ki.C w A n l) (hW:Ag (fun _=>False) w W):ki.C W A n l:=⟨h.1,h.2.1,fun hn=>by
 obtain⟨ad,e,hc⟩:=h.2.2 hn;refine⟨ad,e,fun j p hj=>?_⟩;obtain⟨c,hs,hr,hcell⟩:=hc j p hj;exact⟨c,hs,hr,fun i u hu=>cell_ag hW (hcell i u hu)⟩⟩
structure QIn (S:Nat→Prop) (A:Option Addr) (c:Nat) (B:Option Addr) (d:Nat) (w:World) (q:Q):Prop where mk::
 sl:∀k,S k→k<w.heap.size
 tr:∀W,Ag S w W→kn.C W A q.t.ns.length q.t.ns
 tl:q.t.ns.length≤1000000
 tc:q.t.ns.length≤c
 wr:∀W,Ag S w W→ki.C W B q.ws.length q.ws
 wl:q.ws.length≤1000000
 wc:q.ws.length≤d
section
variable {S S' : Nat → Prop} {A B : Option Addr} {c d : Nat} {w w' : World} {q : Q}
theorem QIn.trC (h:QIn S A c B d w q):kn.C w A q.t.ns.length q.t.ns:=h.tr w (Ag.refl _ _)
theorem QIn.wrC (h:QIn S A c B d w q):ki.C w B q.ws.length q.ws:=h.wr w (Ag.refl _ _)
theorem QIn.ag (h:QIn S A c B d w q) (hb:Ag S w w'):QIn S A c B d w' q:=⟨fun k hk=>Nat.lt_of_lt_of_le (h.sl k hk) hb.size,fun W hW=>h.tr W (hb.trans hW),h.tl,h.tc,fun W hW=>h.wr W (hb.trans hW),h.wl,h.wc⟩
theorem QIn.below (h:QIn S A c B d w q) (hb:Below w.heap.size w w'):QIn S A c B d w' q:=h.ag (Ag.of_below hb)
theorem QIn.more (h:QIn S A c B d w q) (hb:Below w.heap.size w w') (hs:∀k,S' k→S k∨w.heap.size≤k) (hl:∀k,S' k→k<w'.heap.size):QIn S' A c B d w' q:=by
 have hag:∀W,Ag S' w' W→Ag S w W:=fun W hW=>⟨Nat.le_trans hb.size hW.size,fun k h1 h2=>(hW.o k (Nat.lt_of_lt_of_le h1 hb.size) (fun e=>by
  rcases hs k e with e|e
  ·exact h2 e
  ·omega)).trans (hb.block k h1)⟩
 exact⟨hl,fun W hW=>h.tr W (hag W hW),h.tl,h.tc,fun W hW=>h.wr W (hag W hW),h.wl,h.wc⟩
theorem QIn.less (h:QIn S' A c B d w q) (hs:∀k,S k→S' k):QIn S A c B d w q:=by
 have hag:∀W,Ag S w W→Ag S' w W:=fun W hW=>⟨hW.size,fun k h1 h2=>hW.o k h1 (fun e=>h2 (hs k e))⟩
 exact⟨fun k hk=>h.sl k (hs k hk),fun W hW=>h.tr W (hag W hW),h.tl,h.tc,fun W hW=>h.wr W (hag W hW),h.wl,h.wc⟩
theorem QIn.of_C (h1:kn.C w A q.t.ns.length q.t.ns) (h2:q.t.ns.length≤1000000) (h3:q.t.ns.length≤c) (h4:ki.C w B q.ws.length q.ws) (h5:q.ws.length≤1000000) (h6:q.ws.length≤d):QIn (fun _=>False) A c B d w q:=
 ⟨fun _ h=>h.elim,fun W hW=>kn_ag h1 hW,h2,h3,fun W hW=>ki_ag h4 hW,h5,h6⟩
theorem QIn.zero (S:Nat→Prop) (w:World) (hs:∀k,S k→k<w.heap.size):QIn S none 0 none 0 w q0:=⟨hs,fun W _=>Kd.C_nil kn W,Nat.zero_le _,Nat.le_refl _,fun W _=>Kd.C_nil ki W,Nat.zero_le _,Nat.le_refl _⟩
theorem QIn.tree {w0:World}{A':Option Addr}{c':Nat}{t':St}(h:QIn S A c B d w q) (hR:kn.R 72 w w0.heap.size (fun _=>True) (.slice A' t'.ns.length c') t'.ns) (hs:∀k,S k→k<w0.heap.size) (hl:t'.ns.length≤1000000):QIn S A' c' B d w { q with t:=t' }:=
 ⟨h.sl,fun W hW=>(Kd.vC (Kd.zax (Kd.zbK hR) (fun k hk hlt=>hW.o k hlt (fun e=>by have:=hs k e;have:=hk.2.1;omega)))).2.2,hl,(Kd.vC hR).2.1,h.wr,h.wl,h.wc⟩
theorem QIn.weights {w0:World}{B':Option Addr}{d':Nat}{ws':List Int}(h:QIn S A c B d w q) (hR:ki.R 3 w w0.heap.size (fun _=>True) (.slice B' ws'.length d') ws') (hs:∀k,S k→k<w0.heap.size) (hl:ws'.length≤1000000):QIn S A c B' d' w { q with ws:=ws' }:=
 ⟨h.sl,h.tr,h.tl,h.tc,fun W hW=>(Kd.vC (Kd.zax (Kd.zbK hR) (fun k hk hlt=>hW.o k hlt (fun e=>by have:=hs k e;have:=hk.2.1;omega)))).2.2,hl,(Kd.vC hR).2.1⟩
theorem QIn.fields (h:QIn S A c B d w q) {q':Q}(h1:q'.t.ns=q.t.ns) (h2:q'.ws=q.ws):QIn S A c B d w q':=by
 obtain⟨⟨ns,rt⟩,cur,v,mn,load,ws⟩:=q;obtain⟨⟨ns',rt'⟩,cur',v',mn',load',ws'⟩:=q';obtain rfl:ns'=ns:=h1;obtain rfl:ws'=ws:=h2;exact⟨h.sl,h.tr,h.tl,h.tc,h.wr,h.wl,h.wc⟩
structure yY (S:Nat→Prop) (w:World) (q:Q) (u:Value) (w':World):Prop where mk::
 o:∃A c B d,u=.agg (qc A c B d q)∧QIn S A c B d w' q∧Below w.heap.size w w'
end
structure QB (rt:Int) (A:Option Addr) (n c:Nat) (cur v mn load:Int) (B:Option Addr) (m d:Nat) (W:World) (g:Nat):Prop where mk::
 o:W.heap[g]?=some (.cells #[.int .i64 rt,.slice A n c,.int .i64 cur,.int .u64 v,.int .u64 mn,.int .i64 load,.slice B m d] 30 (0,0))
section
variable {A B : Option Addr} {c d n m : Nat} {W W' : World} {rt cur v mn load : Int} {g : Nat}
theorem QB.moved (h:QB rt A n c cur v mn load B m d W g) (hb:W'.heap[g]?=W.heap[g]?):QB rt A n c cur v mn load B m d W' g:=⟨hb.trans h.o⟩
theorem QB.below (h:QB rt A n c cur v mn load B m d W g) (hb:Below W.heap.size W W'):QB rt A n c cur v mn load B m d W' g:=⟨zH h.o hb⟩
theorem QB.c0 (h:QB rt A n c cur v mn load B m d W g):W.cell? ⟨g,0,none⟩=some (.int .i64 rt):=(zC h.o 0).trans rfl
theorem QB.c1 (h:QB rt A n c cur v mn load B m d W g):W.cell? ⟨g,1,none⟩=some (.slice A n c):=(zC h.o 1).trans rfl
theorem QB.c2 (h:QB rt A n c cur v mn load B m d W g):W.cell? ⟨g,2,none⟩=some (.int .i64 cur):=(zC h.o 2).trans rfl
theorem QB.c3 (h:QB rt A n c cur v mn load B m d W g):W.cell? ⟨g,3,none⟩=some (.int .u64 v):=(zC h.o 3).trans rfl
theorem QB.c4 (h:QB rt A n c cur v mn load B m d W g):W.cell? ⟨g,4,none⟩=some (.int .u64 mn):=(zC h.o 4).trans rfl
theorem QB.c5 (h:QB rt A n c cur v mn load B m d W g):W.cell? ⟨g,5,none⟩=some (.int .i64 load):=(zC h.o 5).trans rfl
theorem QB.c6 (h:QB rt A n c cur v mn load B m d W g):W.cell? ⟨g,6,none⟩=some (.slice B m d):=(zC h.o 6).trans rfl
theorem QB.new (w:World) (rt:Int) (A:Option Addr) (n c:Nat) (cur v mn load:Int) (B:Option Addr) (m d:Nat):QB rt A n c cur v mn load B m d (w.alloc (.cells #[.int .i64 rt,.slice A n c,.int .i64 cur,.int .u64 v,.int .u64 mn,.int .i64 load,.slice B m d] 30)) w.heap.size:=⟨zQ w _⟩
theorem QB.frozen (h:QB rt A n c cur v mn load B m d W g) (i:Nat):W.frozen? ⟨g,i,none⟩=false:=zK h.o i
theorem QB.lt (h:QB rt A n c cur v mn load B m d W g):g<W.heap.size:=World.block_lt_of_cell? W _ h.c0
theorem QB.st2 (h:QB rt A n c cur v mn load B m d W g) (x:Int):QB rt A n c x v mn load B m d (W.setCell ⟨g,2,none⟩ (.int .i64 x)) g:=⟨(yR h.o 2 _).trans rfl⟩
theorem QB.st3 (h:QB rt A n c cur v mn load B m d W g) (x:Int):QB rt A n c cur x mn load B m d (W.setCell ⟨g,3,none⟩ (.int .u64 x)) g:=⟨(yR h.o 3 _).trans rfl⟩
theorem QB.st4 (h:QB rt A n c cur v mn load B m d W g) (x:Int):QB rt A n c cur v x load B m d (W.setCell ⟨g,4,none⟩ (.int .u64 x)) g:=⟨(yR h.o 4 _).trans rfl⟩
theorem QB.st5 (h:QB rt A n c cur v mn load B m d W g) (x:Int):QB rt A n c cur v mn x B m d (W.setCell ⟨g,5,none⟩ (.int .i64 x)) g:=⟨(yR h.o 5 _).trans rfl⟩
theorem QB.st6 (h:QB rt A n c cur v mn load B m d W g) (B':Option Addr) (m' d':Nat):QB rt A n c cur v mn load B' m' d' (W.setCell ⟨g,6,none⟩ (.slice B' m' d')) g:=⟨(yR h.o 6 _).trans rfl⟩
theorem QB.st01 (h:QB rt A n c cur v mn load B m d W g) (rt':Int) (A':Option Addr) (n' c':Nat):QB rt' A' n' c' cur v mn load B m d ((W.setCell ⟨g,0,none⟩ (.int .i64 rt')).setCell ⟨g,1,none⟩ (.slice A' n' c')) g:=⟨(yR (yR h.o 0 _) 1 _).trans rfl⟩
theorem QB.far (h:QB rt A n c cur v mn load B m d W g) {k:Nat}(hk:g≠k) (i:Nat) (u:Value):QB rt A n c cur v mn load B m d (W.setCell ⟨k,i,none⟩ u) g:=⟨kC h.o (p:=⟨k,i,none⟩) hk u⟩
def set7 (W:World) (g:Nat) (v0 v1 v2 v3 v4 v5 v6:Value):World:=((((((W.setCell ⟨g,0,none⟩ v0).setCell ⟨g,1,none⟩ v1).setCell ⟨g,2,none⟩ v2).setCell ⟨g,3,none⟩ v3).setCell ⟨g,4,none⟩ v4).setCell ⟨g,5,none⟩ v5).setCell ⟨g,6,none⟩ v6
theorem zW {cs:Array Value}{ty:TypeId}(h:W.heap[g]?=some (.cells cs ty (0,0))) (hs:cs.size=7) (v0 v1 v2 v3 v4 v5 v6:Value):(set7 W g v0 v1 v2 v3 v4 v5 v6).heap[g]?=some (.cells #[v0,v1,v2,v3,v4,v5,v6] ty (0,0)):=by
 unfold set7;rw[yR (yR (yR (yR (yR (yR (yR h 0 v0) 1 v1) 2 v2) 3 v3) 4 v4) 5 v5) 6 v6];obtain⟨l⟩:=cs
 match l,hs with
 | [_,_,_,_,_,_,_],_=>rfl
theorem xH {k:Nat}(hk:k≠g) (v0 v1 v2 v3 v4 v5 v6:Value):(set7 W g v0 v1 v2 v3 v4 v5 v6).heap[k]?=W.heap[k]?:=by
 unfold set7;rw[Below.heap_setCell _ _ _ _ (by simpa using hk),Below.heap_setCell _ _ _ _ (by simpa using hk),Below.heap_setCell _ _ _ _ (by simpa using hk),Below.heap_setCell _ _ _ _ (by simpa using hk),Below.heap_setCell _ _ _ _ (by simpa using hk),Below.heap_setCell _ _ _ _ (by simpa using hk),Below.heap_setCell _ _ _ _ (by simpa using hk)]
theorem yS {M:Nat}{w0:World}(h:Below M w0 W) (hg:M≤g) (v0 v1 v2 v3 v4 v5 v6:Value):Below M w0 (set7 W g v0 v1 v2 v3 v4 v5 v6):=
 Below.setCell (Below.setCell (Below.setCell (Below.setCell (Below.setCell (Below.setCell (Below.setCell h (p:=⟨g,0,none⟩) hg _) (p:=⟨g,1,none⟩) hg _) (p:=⟨g,2,none⟩) hg _) (p:=⟨g,3,none⟩) hg _) (p:=⟨g,4,none⟩) hg _) (p:=⟨g,5,none⟩) hg _) (p:=⟨g,6,none⟩) hg _
end
section
variable {rt cur v mn load : Int} {A B : Option Addr} {n c m d : Nat} {W : World} {g : Nat}
def HS (rt:Int) (A:Option Addr) (n c:Nat) (cur v mn load:Int) (B:Option Addr) (m d g:Nat) (W:World):Prop:=W.cell? ⟨g,0,none⟩=some (.int .i64 rt)∧W.cell? ⟨g,1,none⟩=some (.slice A n c)∧W.cell? ⟨g,2,none⟩=some (.int .i64 cur)∧W.cell? ⟨g,3,none⟩=some (.int .u64 v)∧W.cell? ⟨g,4,none⟩=some (.int .u64 mn)∧W.cell? ⟨g,5,none⟩=some (.int .i64 load)∧W.cell? ⟨g,6,none⟩=some (.slice B m d)
theorem QB.al (h:QB rt A n c cur v mn load B m d W g):HS rt A n c cur v mn load B m d g W:=⟨h.c0,h.c1,h.c2,h.c3,h.c4,h.c5,h.c6⟩
theorem QB.fr (h:QB rt A n c cur v mn load B m d W g):W.frozen? ⟨g,0,none⟩=false∧W.frozen? ⟨g,1,none⟩=false∧W.frozen? ⟨g,2,none⟩=false∧W.frozen? ⟨g,3,none⟩=false∧W.frozen? ⟨g,4,none⟩=false∧W.frozen? ⟨g,5,none⟩=false∧W.frozen? ⟨g,6,none⟩=false:=⟨h.frozen 0,h.frozen 1,h.frozen 2,h.frozen 3,h.frozen 4,h.frozen 5,h.frozen 6⟩
end
section
variable {S : Nat → Prop} {A B : Option Addr} {c d : Nat} {w w' : World} {q : Q}
theorem weighed_ (x:Int) (w:World):Calls Tryz.prog 41 #[.int .i64 x] w fun e w'=>e=.returned (.bool (yF x))∧Below w.heap.size w w':=by
 have HB:=Z (Below.refl w.heap.size w);unfold yF;by_cases h:1≤x
 ·have e1:decide (1≤x)=true:=decide_eq_true h;rw[e1,Bool.true_and];go_enter Tryz.func41,Tryz.ntmps41;go_wp2;go_ret;exact⟨rfl,HB.o⟩
 have e1:decide (1≤x)=false:=decide_eq_false h;rw[e1,Bool.false_and];go_enter Tryz.func41,Tryz.ntmps41;go_wp2;go_ret;exact⟨rfl,HB.o⟩
theorem known_ (id:Int) (h:QIn S A c B d w q):Calls Tryz.prog 35 #[.agg (qc A c B d q),.int .i64 id] w fun e w'=>e=.returned (.bool (yG q id))∧Below w.heap.size w w':=by
 obtain⟨⟨ns,rt⟩,cur,v,mn,load,ws⟩:=q;clear h;show Calls Tryz.prog 35 #[.agg #[.int .i64 rt,.slice A ns.length c,.int .i64 cur,.int .u64 v,.int .u64 mn,.int .i64 load,.slice B ws.length d],.int .i64 id] w fun e w'=>e=.returned (.bool (decide (0≤id)&&decide (id<(ws.length:Int))))∧Below w.heap.size w w'
 generalize ws.length=n;generalize ns.length=m;have HB:=Z (zB (Below.refl w.heap.size w) (.cells #[.int .i64 rt,.slice A m c,.int .i64 cur,.int .u64 v,.int .u64 mn,.int .i64 load,.slice B n d] 30));by_cases h:0≤id
 ·have e1:decide (0≤id)=true:=decide_eq_true h;rw[e1,Bool.true_and];go_enter Tryz.func35,Tryz.ntmps35;go_wp2;go_ret;exact⟨rfl,HB.o⟩
 have e1:decide (0≤id)=false:=decide_eq_false h;rw[e1,Bool.false_and];go_enter Tryz.func35,Tryz.ntmps35;go_wp2;go_ret;exact⟨rfl,HB.o⟩
theorem here_ (id:Int) (h:QIn S A c B d w q) (h0:0≤id) (h1:id<q.t.ns.length):Calls Tryz.prog 37 #[.agg (qc A c B d q),.int .i64 id] w fun e w'=>e=.returned (.bool (yV q id))∧Below w.heap.size w w':=by
 obtain⟨⟨ns,rt⟩,cur,v,mn,load,ws⟩:=q;have HB:=Z (zB (Below.refl w.heap.size w) (.cells #[.int .i64 rt,.slice A ns.length c,.int .i64 cur,.int .u64 v,.int .u64 mn,.int .i64 load,.slice B ws.length d] 30));obtain⟨ad,e0,d0,d1,d2,d3,d4,d5⟩:=kV (Kd.zU h.trC HB.o) id h0 h1;clear d1 d2 d3 d4 d5 h;subst e0;replace h1:id<(ns.length:Int):=h1;show Calls Tryz.prog 37 #[.agg #[.int .i64 rt,.slice (some ad) ns.length c,.int .i64 cur,.int .u64 v,.int .u64 mn,.int .i64 load,.slice B ws.length d],.int .i64 id] w fun e w'=>e=.returned (.bool (cur==id || inA ⟨ns,rt⟩ id))∧Below w.heap.size w w'
 replace d0:(w.alloc (.cells #[.int .i64 rt,.slice (some ad) ns.length c,.int .i64 cur,.int .u64 v,.int .u64 mn,.int .i64 load,.slice B ws.length d] 30)).cell? (ad.add (id.toNat*6))=some (.bool (inA ⟨ns,rt⟩ id)):=d0;generalize inA ⟨ns,rt⟩ id=bi at d0⊢;generalize ws.length=n at d0 HB⊢;generalize ns.length=m at d0 HB h1⊢;cases e1:(cur==id)with
 | true=>
  rw[Bool.true_or];clear d0;go_enter Tryz.func37,Tryz.ntmps37;go_wp2;go_ret;exact⟨rfl,HB.o⟩
 | false=>
  rw[Bool.false_or];go_enter Tryz.func37,Tryz.ntmps37;go_wp2;go_ret;exact⟨rfl,HB.o⟩
end
end Go.Proofs.YtnkhnnojdlgfjaaGreatDoor.Qw
end
section
namespace Go.Proofs.YtnkhnnojdlgfjaaGreatDoor.Qw
open RowKit Tr Tk Tm Qu PA PB PC
theorem info3:(Tryz.prog.info? 3).map (fun i=>(i.zero,i.size,i.bytes))=some (some (.int .i64 0),1,8):=by kernel_rfl
theorem nilI {w:World}{l:List Int}(hr:ki.C w none l.length l):l=[]:=by
 cases l with
 | nil=>rfl
 | cons x t=>
  exfalso;obtain⟨ad,c,h,_⟩:=xO.get_ hr 0 0 (by omega) (by simp);cases h
theorem reps_ints {l:List Int}{cs:List Value}(h:Reps (fun(x:Int) c=>c=[.int .i64 x]) 1 l cs):cs=l.map (Value.int .i64):=by
 have hl:cs.length=l.length:=by have:=h.1;omega
 refine List.ext_getElem? fun j=>?_
 by_cases hj:j<l.length;rotate_left
 ·rw[List.getElem?_eq_none (by omega),List.getElem?_eq_none (by rw[List.length_map];omega)]
 have h2:=h.2 j l[j] (List.getElem?_eq_getElem hj);rw[Nat.mul_one]at h2;have h3:=congrArg (·[0]?) h2;rw[List.getElem?_map,List.getElem?_eq_getElem hj]
 simpa [List.getElem?_take,List.getElem?_drop]using h3
theorem ints_reps (l:List Int):Reps (fun(x:Int) c=>c=[.int .i64 x]) 1 l (l.map (Value.int .i64)):=by
 refine⟨by rw[List.length_map];omega,fun j p hp=>?_⟩;have hj:j<l.length:=(List.getElem?_eq_some_iff.1 hp).1;rw[Nat.mul_one];refine List.ext_getElem? fun i=>?_
 rcases i with _|i
 ·rw[List.getElem?_take_of_lt (by omega),List.getElem?_drop,Nat.add_zero,List.getElem?_map,hp]
  rfl
 ·rw[List.getElem?_take_eq_none (by omega)]
  rfl
structure IArr (rs:List Value) (w:World) (g:Nat) (l:List Int):Prop where mk::
 o:∃cur:Array Value,w.heap[g]?=some (.cells cur 3 (0,0))∧cur.toList=l.map (Value.int .i64)++rs
theorem IR_arr {w:World}{base:Nat}{ok:Nat→Prop}{v:Value}{l:List Int}(h:ki.R 3 w base ok v l) (h0:0<l.length):∃g cap rs,v=.slice (some ⟨g,0,none⟩) l.length cap∧base≤g∧l.length≤cap∧cap≤maxLen∧l.length+rs.length=cap∧IArr rs w g l:=by
 obtain⟨hok,inner,⟨hl,ho⟩,hr⟩:=h;have hr':Reps (fun(x:Int) c=>c=[.int .i64 x]) 1 l inner:=⟨hr.1,fun j p hp=>hr.2 j p hp⟩;have hi:=reps_ints hr';rcases ho with⟨_,hn⟩|⟨g,cap,cur,rfl,hg,hh,hn,hm,hs,ht⟩
 ·omega
 ·have hs':cur.size=cap*1:=hs;have ht':cur.toList.take (l.length*1)=inner:=ht;rw[Nat.mul_one]at hs' ht';refine⟨g,cap,cur.toList.drop l.length,rfl,hg,hn,hm,?_,⟨cur,hh,?_⟩⟩
  ·rw[List.length_drop,show cur.toList.length=cap from hs'];omega
  ·rw[←hi,←ht',List.take_append_drop]
theorem arr_IR {rs:List Value}{w:World}{g base cap:Nat}{ok:Nat→Prop}{l:List Int}(h:IArr rs w g l) (hb:base≤g) (hok:ok g) (hn:l.length≤cap) (hm:cap≤maxLen) (hs:l.length+rs.length=cap):ki.R 3 w base ok (.slice (some ⟨g,0,none⟩) l.length cap) l:=by
 obtain⟨cur,h1,h2⟩:=h.o;have hsz:cur.size=cap:=by rw[←Array.length_toList,h2,List.length_append,List.length_map,hs]
 refine⟨fun k hk=>by injection hk with hk;subst hk;exact hok,l.map (Value.int .i64),⟨by rw[List.length_map];show l.length=l.length*1;omega,.inr ⟨g,cap,cur,rfl,hb,h1,hn,hm,by show cur.size=cap*1;omega,?_⟩⟩,?_⟩
 ·show cur.toList.take (l.length*1)=l.map (Value.int .i64);rw[h2,Nat.mul_one,List.take_left' (List.length_map _)]
 ·exact⟨(ints_reps l).1,fun j p hp=>(ints_reps l).2 j p hp⟩
theorem IArr.cell {rs:List Value}{w:World}{g:Nat}{l:List Int}(h:IArr rs w g l) (i:Nat) (hi:i<l.length):w.cell? ⟨g,i,none⟩=some (.int .i64 (l.getD i 0)):=by
 obtain⟨cur,h1,h2⟩:=h.o;rw[zC h1,←Array.getElem?_toList,h2,List.getElem?_append_left (by rw[List.length_map];exact hi),List.getElem?_map,List.getElem?_eq_getElem hi,List.getD_eq_getElem?_getD,List.getElem?_eq_getElem hi]
 rfl
theorem IArr.frozen {rs:List Value}{w:World}{g:Nat}{l:List Int}(h:IArr rs w g l) (i:Nat):w.frozen? ⟨g,i,none⟩=false:=by
 obtain⟨cur,h1,h2⟩:=h.o;exact zK h1 i
theorem IArr.set {rs:List Value}{w:World}{g:Nat}{l:List Int}(h:IArr rs w g l) (i:Nat) (hi:i<l.length) (x:Int):IArr rs (w.setCell ⟨g,i,none⟩ (.int .i64 x)) g (l.set i x):=by
 obtain⟨cur,h1,h2⟩:=h.o;refine⟨_,yR h1 i _,?_⟩;rw[Array.toList_setIfInBounds,h2,List.set_append_left _ _ (by rw[List.length_map];exact hi),List.map_set]
theorem IArr.moved {rs:List Value}{w w':World}{g:Nat}{l:List Int}(h:IArr rs w g l) (hb:w'.heap[g]?=w.heap[g]?):IArr rs w' g l:=by
 obtain⟨cur,h1,h2⟩:=h.o;exact⟨cur,hb.trans h1,h2⟩
theorem cloneI (A0:Option Addr) (c0:Nat) (l0:List Int) (w:World) (hr:ki.C w A0 l0.length l0) (hl:l0.length≤1000000) :
  Calls Tryz.prog 86 #[.slice A0 l0.length c0] w fun e w'=>∃v0_:Value,e=.returned v0_∧ki.R 3 w' w.heap.size (fun _=>True) v0_ l0∧Below w.heap.size w w':=by
 have q22:∀(w:World) (a:Option Addr) (n c n' c':Nat),(binOp .eql 28 (.slice a n c) (.slice none n' c')).run Tryz.prog w=.ok (.bool a.isNone) w:=fun w a n c n' c'=>Lib.run_eql_slice_nil w _ _ a n c n' c' Tryz.underlying28
 cases A0 with
 | none=>
  obtain rfl:=nilI hr;clear hr;go_enter Tryz.func86,Tryz.ntmps86;go_wp2;go_ret;exact⟨_,rfl,Kd.jT _ _ _ _ _,Below.refl _ _⟩
 | some a=>
  have H:=Z hr;clear hr;go_enter Tryz.func86,Tryz.ntmps86;go_wp2_with (at_builtin;refine Kd.qL ki (Rr:=ki.K (w.alloc (.cells #[] 3))) (w0:=w) w.heap.size rfl (.tmp 5) (.tmp 6) 28 3 (.int .i64 0) 8 rfl Tryz.underlying28 info3 rfl (show 0<ki.sz by show 0<1;omega) (by omega) _ [] l0 (some a) l0.length c0 (fun _=>True) (fun _=>False) rfl rfl ?aO ?aR ?aK (fun _ h=>h.elim) (fun _ _=>trivial) ?aB ?aS ?aL ?_)
  case aO=>exact⟨fun _ _=>trivial,[],World.ownsRow_made w #[] 0 (Nat.le_refl _) (Nat.zero_le _) (by simp),Reps.none _ _⟩
  case aR=>exact(Kd.zU H.o ((Below.refl _ w).alloc (Nat.le_refl _) _))
  case aK=>intro x cs h;exact h
  case aB=>exact(Below.refl _ w).alloc (Nat.le_refl _) _
  case aS=>simp
  case aL=>simp;omega
  intro v1 w1 hR hB hg _;have HR:=Z hR;clear hR hg;go_wp2;go_ret;exact⟨v1,rfl,by simpa using HR.o,hB⟩
variable {S : Nat → Prop} {A B : Option Addr} {c d : Nat} {w w' : World} {q : Q}
theorem weigh_ (id x:Int) (h:QIn S A c B d w q) (h0:0≤id) (h1:id<q.ws.length):Calls Tryz.prog 38 #[.agg (qc A c B d q),.int .i64 id,.int .i64 x] w fun e w'=>∃u,e=.returned u∧yY S w (qZ q id x) u w':=by
 have HQ:=Z h;clear h;obtain⟨⟨ns,rt⟩,cur,v,mn,load,ws⟩:=q;obtain⟨k,rfl⟩:∃k:Nat,id=(k:Int):=⟨id.toNat,by omega⟩;replace h1:(k:Int)<(ws.length:Int):=h1;have HK:=Z (show k<ws.length by omega);clear h0;show Calls Tryz.prog 38 #[.agg #[.int .i64 rt,.slice A ns.length c,.int .i64 cur,.int .u64 v,.int .u64 mn,.int .i64 load,.slice B ws.length d],.int .i64 (k:Int),.int .i64 x] w _;go_enter Tryz.func38,Tryz.ntmps38;go_upto_region 1 with(fail);have HX:=Z ((QB.new w rt A ns.length c cur v mn load B ws.length d).below (zB (Below.refl _ _) (.cells #[.int .i64 0,.slice none 0 0,.int .i64 0,.int .u64 0,.int .u64 0,.int .i64 0,.slice none 0 0] 30)));have HZ:=Z (QB.new (w.alloc (.cells #[.int .i64 rt,.slice A ns.length c,.int .i64 cur,.int .u64 v,.int .u64 mn,.int .i64 load,.slice B ws.length d] 30)) 0 none 0 0 0 0 0 0 none 0 0);have HB:=Z (zB (zB (Below.refl w.heap.size w) (.cells #[.int .i64 rt,.slice A ns.length c,.int .i64 cur,.int .u64 v,.int .u64 mn,.int .i64 load,.slice B ws.length d] 30)) (.cells #[.int .i64 0,.slice none 0 0,.int .i64 0,.int .u64 0,.int .u64 0,.int .i64 0,.slice none 0 0] 30));simp only[World.size_alloc]at HZ;generalize(w.alloc (.cells #[.int .i64 rt,.slice A ns.length c,.int .i64 cur,.int .u64 v,.int .u64 mn,.int .i64 load,.slice B ws.length d] 30)).alloc (.cells #[.int .i64 0,.slice none 0 0,.int .i64 0,.int .u64 0,.int .u64 0,.int .i64 0,.slice none 0 0] 30)=W1 at HX HZ HB⊢;have a6:=HX.o.c6;have HQ1:=Z (HQ.o.below HB.o);go_upto_region 2 with(go_at_call 86;refine(cloneI B d ws _ HQ1.o.wrC HQ1.o.wl).mono ?_;rintro e w2 ⟨v0,rfl,hR,hb⟩;obtain⟨gb,cap,rs,rfl,hg1,hn1,hm1,hs1,hA⟩:=IR_arr hR (by have:=HK.o;omega);have HA:=Z hA;have HG:=Z hg1;have HN:=Z hn1;have HM:=Z hm1;have HS:=Z hs1;have HX2:=Z (HX.o.below hb);have HZ2:=Z (HZ.o.below hb);have HB2:=Z (zD HB.o hb);clear hR hb hg1 hn1 hm1 hs1 hA a6;have a6:=HX2.o.c6;have f6:=HX2.o.frozen 6);have HX3:=Z (HX2.o.st6 (some ⟨gb,0,none⟩) ws.length cap);have HZ3:=Z (HZ2.o.far (k:=w.heap.size) (by omega) 6 (.slice (some ⟨gb,0,none⟩) ws.length cap));have HGN:=Z (show w.heap.size+1<gb by have h1:=HZ.o.lt;have h2:=HG.o;omega);have HA3:=Z (HA.o.moved (Below.heap_setCell w2 ⟨w.heap.size,6,none⟩ (.slice (some ⟨gb,0,none⟩) ws.length cap) gb (by have:=HGN.o;show gb≠w.heap.size;omega)));have HB3:=Z (Below.setCell HB2.o (p:=⟨w.heap.size,6,none⟩) (Nat.le_refl _) (.slice (some ⟨gb,0,none⟩) ws.length cap));clear a6 f6;generalize w2.setCell ⟨w.heap.size,6,none⟩ (.slice (some ⟨gb,0,none⟩) ws.length cap)=W3 at HX3 HZ3 HA3 HB3⊢;have a5:=HX3.o.c5;have a6:=HX3.o.c6;have f5:=HX3.o.frozen 5;have e0:=HA3.o.cell k HK.o;have hk0:(0:Int)≤(k:Int):=Int.natCast_nonneg k;generalize hwk:ws.getD k 0=wk at e0;have HWK:=Z hwk;clear hwk
 go_region
 have HX4:=Z ((HX3.o.st5 (wrap64 (load+wrap64 (x-wk)))).moved (W':=(W3.setCell ⟨w.heap.size,5,none⟩ (.int .i64 (wrap64 (load+wrap64 (x-wk))))).drew) rfl);have HZ4:=Z ((HZ3.o.far (k:=w.heap.size) (by omega) 5 (.int .i64 (wrap64 (load+wrap64 (x-wk))))).moved (W':=(W3.setCell ⟨w.heap.size,5,none⟩ (.int .i64 (wrap64 (load+wrap64 (x-wk))))).drew) rfl);have HA4:=Z (HA3.o.moved (w':=(W3.setCell ⟨w.heap.size,5,none⟩ (.int .i64 (wrap64 (load+wrap64 (x-wk))))).drew) (Below.heap_setCell W3 ⟨w.heap.size,5,none⟩ (.int .i64 (wrap64 (load+wrap64 (x-wk)))) gb (by have:=HGN.o;show gb≠w.heap.size;omega)));have HB4:=Z (Below.drew (Below.setCell HB3.o (p:=⟨w.heap.size,5,none⟩) (Nat.le_refl _) (.int .i64 (wrap64 (load+wrap64 (x-wk))))));clear a5 a6 f5 e0;generalize(W3.setCell ⟨w.heap.size,5,none⟩ (.int .i64 (wrap64 (load+wrap64 (x-wk))))).drew=W4 at HX4 HZ4 HA4 HB4⊢;have a6:=HX4.o.c6;have e0:=HA4.o.cell k HK.o;have f0:=HA4.o.frozen k;go_upto_region 4 with(fail);have HX5:=Z (HX4.o.far (k:=gb) (by have:=HGN.o;omega) k (.int .i64 x));have HZ5:=Z (HZ4.o.far (k:=gb) (by have:=HGN.o;omega) k (.int .i64 x));have HA5:=Z (HA4.o.set k HK.o x);have HB5:=Z (Below.setCell HB4.o (p:=⟨gb,k,none⟩) (by have:=HGN.o;show w.heap.size≤gb;omega) (.int .i64 x));clear a6 e0 f0;generalize W4.setCell ⟨gb,k,none⟩ (.int .i64 x)=W5 at HX5 HZ5 HA5 HB5⊢;obtain⟨a0,a1,a2,a3,a4,a5,a6⟩:=HX5.o.al;obtain⟨z0,z1,z2,z3,z4,z5,z6⟩:=HZ5.o.al;obtain⟨f0,f1,f2,f3,f4,f5,f6⟩:=HZ5.o.fr;go_wp2;refine bodyPost_ret (yK (cs:=#[.int .i64 rt,.slice A ns.length c,.int .i64 cur,.int .u64 v,.int .u64 mn,.int .i64 (wrap64 (load+wrap64 (x-wk))),.slice (some ⟨gb,0,none⟩) ws.length cap]) rfl _ _ (w.heap.size+1) 30 (0,0) _ rfl (zW HZ5.o.o rfl _ _ _ _ _ _ _) Tryz.underlying30 rfl (by kernel_rfl)) rfl ?_;have HBE:=yS HB5.o (g:=w.heap.size+1) (by omega) (.int .i64 rt) (.slice A ns.length c) (.int .i64 cur) (.int .u64 v) (.int .u64 mn) (.int .i64 (wrap64 (load+wrap64 (x-wk)))) (.slice (some ⟨gb,0,none⟩) ws.length cap);have hA6:IArr rs (set7 W5 (w.heap.size+1) (.int .i64 rt) (.slice A ns.length c) (.int .i64 cur) (.int .u64 v) (.int .u64 mn) (.int .i64 (wrap64 (load+wrap64 (x-wk)))) (.slice (some ⟨gb,0,none⟩) ws.length cap)) gb (ws.set k x):=HA5.o.moved (xH (by have:=HGN.o;omega) _ _ _ _ _ _ _);have hR:=arr_IR (base:=w.heap.size) (cap:=cap) (ok:=fun _=>True) hA6 (by have:=HGN.o;omega) trivial (by rw[List.length_set];exact HN.o) HM.o (by rw[List.length_set];exact HS.o);have hq:=((HQ.o.below HBE).weights (w0:=w) hR HQ.o.sl (by rw[List.length_set];exact HQ.o.wl)).fields (q':=qZ ⟨⟨ns,rt⟩,cur,v,mn,load,ws⟩ (k:Int) x) rfl (by show ws.set ((k:Int)).toNat x=ws.set k x;rw[Int.toNat_natCast]);refine⟨_,rfl,A,c,some ⟨gb,0,none⟩,cap,?_,hq,HBE⟩;show _=Value.agg #[.int .i64 rt,.slice A ns.length c,.int .i64 cur,.int .u64 v,.int .u64 mn,.int .i64 (wrap64 (load+wrap64 (x-ws.getD ((k:Int)).toNat 0))),.slice (some ⟨gb,0,none⟩) (ws.set ((k:Int)).toNat x).length cap];rw[List.length_set,Int.toNat_natCast,HWK.o]
end Go.Proofs.YtnkhnnojdlgfjaaGreatDoor.Qw
end
section
namespace Go.Proofs.YtnkhnnojdlgfjaaGreatDoor.WideMath
open RowKit
theorem wu (n:Int):IntKind.u64.wrap n=n%18446744073709551616:=by
 unfold IntKind.wrap;simp[IntKind.signed,IntKind.bits]
theorem wid {n:Int}(h0:0≤n) (h1:n<18446744073709551616):IntKind.u64.wrap n=n:=by rw[wu];omega
theorem wids (n:Int) (h₀:0≤n) (h₁:n<2 ^ 64):IntKind.u64.wrap n=n:=by rw[wu];omega
theorem and1 (x:Int) (h0:0≤x) (h1:x<18446744073709551616):bits .and .u64 x 1=x%2:=bits_mask .u64 64 (by decide) wids 1 (by decide) x h0 h1
theorem and32 (x:Int) (h0:0≤x) (h1:x<18446744073709551616):bits .and .u64 x 4294967295=x%4294967296:=bits_mask .u64 64 (by decide) wids 32 (by decide) x h0 h1
theorem or1 (x y:Int) (h0:0≤x) (h2:x%2=0) (h1:x<18446744073709551616) (hy0:0≤y) (hy:y≤1):bits .or .u64 x y=x+y:=
 bits_join .u64 64 (by decide) wids 1 x y h0 (by simpa using h2) h1 hy0 (by simp;omega) (by simp;omega)
theorem or32 (x y:Int) (h0:0≤x) (h2:x%4294967296=0) (h1:x<18446744073709551616) (hy0:0≤y) (hy:y<4294967296):bits .or .u64 x y=x+y:=
 bits_join .u64 64 (by decide) wids 32 x y h0 (by simpa using h2) h1 hy0 (by simpa using hy) (by simp;omega)
theorem mul_bd {x q:Int}(hx0:0≤x) (hx:x≤4294967295) (hq0:0≤q) (hq:q≤4294967295):0≤x*q∧x*q≤18446744065119617025:=by
 refine⟨Int.mul_nonneg hx0 hq0,?_⟩;have h:=Int.mul_le_mul hx hq hq0 (by decide:(0:Int)≤4294967295)
 simpa using h
theorem mul_parts (x y p q:Int) :
  (x*4294967296+y)*(p*4294967296+q)=(x*p)*18446744073709551616+(x*q+y*p)*4294967296+y*q:=by
 have e1:x*4294967296*(p*4294967296)=x*p*18446744073709551616:=by
  rw[Int.mul_assoc,Int.mul_left_comm 4294967296 p 4294967296,←Int.mul_assoc];rfl
 have e2:x*4294967296*q=x*q*4294967296:=Int.mul_right_comm _ _ _;have e3:y*(p*4294967296)=y*p*4294967296:=(Int.mul_assoc _ _ _).symm;rw[Int.add_mul,Int.mul_add,Int.mul_add,e1,e2,e3,Int.add_mul];omega
theorem step_yes {n b d:Int}(hd:0<d) (h0:0≤b) (h1:b≤1) (h:d≤2*(n%d)+b):(2*n+b) / d=2*(n / d)+1∧(2*n+b)%d=2*(n%d)+b-d:=by
 have e:=Int.mul_ediv_add_emod n d;have l:=Int.emod_lt_of_pos n hd;have g:=Int.emod_nonneg n (show d≠0 by omega);refine(Int.ediv_emod_unique hd).2 ⟨?_,by omega,by omega⟩;have e2:d*(2*(n / d)+1)=2*(d*(n / d))+d:=by rw[Int.mul_add,Int.mul_one,Int.mul_left_comm]
 rw[e2];omega
theorem step_no {n b d:Int}(hd:0<d) (h0:0≤b) (h:2*(n%d)+b<d):(2*n+b) / d=2*(n / d)∧(2*n+b)%d=2*(n%d)+b:=by
 have e:=Int.mul_ediv_add_emod n d;have g:=Int.emod_nonneg n (show d≠0 by omega);refine(Int.ediv_emod_unique hd).2 ⟨?_,by omega,by omega⟩;have e2:d*(2*(n / d))=2*(d*(n / d)):=Int.mul_left_comm _ _ _;rw[e2];omega
abbrev B1:={ x:Int // 0≤x∧x≤1 }
def num (h:Int):List B1→Int:=List.foldl (fun n x=>2*n+x.1) h
theorem num_snoc (h:Int) (pre:List B1) (x:B1):num h (pre++[x])=2*num h pre+x.1:=by simp[num]
theorem num_lo (h:Int) (h0:0≤h) (pre:List B1):0≤num h pre:=by
 induction pre generalizing h with
 | nil=>exact h0
 | cons x t ih=>exact ih (2*h+x.1) (by have:=x.2;omega)
theorem num_hi (h:Int) (pre:List B1):num h pre+1≤(h+1)*2 ^ pre.length:=by
 induction pre generalizing h with
 | nil=>simp[num]
 | cons x t ih=>
  refine Int.le_trans (ih (2*h+x.1)) ?_;rw[List.length_cons,Int.pow_succ',←Int.mul_assoc];exact Int.mul_le_mul_of_nonneg_right (by have:=x.2;omega) (Int.pow_nonneg (by decide))
theorem quot_hi {h d:Int}(hd:0<d) (hh:h<d) (pre:List B1) (hl:pre.length<64):num h pre / d<9223372036854775808:=by
 have a:=num_hi h pre;have b:(h+1)*2 ^ pre.length≤d*9223372036854775808:=by
  refine Int.le_trans (Int.mul_le_mul_of_nonneg_right (show h+1≤d by omega) (Int.pow_nonneg (by decide))) (Int.mul_le_mul_of_nonneg_left ?_ (by omega));have:(2:Int) ^ pre.length≤2 ^ 63:=by exact_mod_cast Nat.pow_le_pow_right (by decide:0<2) (show pre.length≤63 by omega)
  exact this
 have c:num h pre<9223372036854775808*d:=by rw[Int.mul_comm];omega
 exact Int.ediv_lt_of_lt_mul hd c
def bit (l:Int) (k:Nat):B1:=⟨l / 2 ^ (63-k)%2,by omega⟩
def bitsOf (l:Int) (k:Nat):List B1:=(List.range k).map (bit l)
theorem zaX (l:Int) (k:Nat):bitsOf l (k+1)=bitsOf l k++[bit l k]:=by simp[bitsOf,List.range_succ]
theorem zat (l:Int) (k:Nat):(bitsOf l k).length=k:=by simp[bitsOf]
theorem num_bits (h l:Int) (h0:0≤l) (h1:l<18446744073709551616) (k:Nat) (hk:k≤64):num h (bitsOf l k)=h*2 ^ k+l / 2 ^ (64-k):=by
 induction k with
 | zero=>simp[bitsOf,num];omega
 | succ k ih=>
  rw[zaX,num_snoc,ih (by omega)];have e:64-k=(63-k)+1:=by omega
  have e':64-(k+1)=63-k:=by omega
  have hp:(0:Int)<2 ^ (63-k):=Int.pow_pos (by decide);show 2*(h*2 ^ k+l / 2 ^ (64-k))+l / 2 ^ (63-k)%2=h*2 ^ (k+1)+l / 2 ^ (64-(k+1));rw[e,e',Int.pow_succ 2 (63-k),←Int.ediv_ediv_of_nonneg (Int.le_of_lt hp),Int.pow_succ 2 k,Int.mul_add,←Int.mul_assoc h,Int.mul_comm (h*2 ^ k) 2];omega
theorem num_all (h l:Int) (h0:0≤l) (h1:l<18446744073709551616):num h (bitsOf l 64)=h*18446744073709551616+l:=by
 rw[num_bits h l h0 h1 64 (Nat.le_refl _)];simp
end Go.Proofs.YtnkhnnojdlgfjaaGreatDoor.WideMath
end
