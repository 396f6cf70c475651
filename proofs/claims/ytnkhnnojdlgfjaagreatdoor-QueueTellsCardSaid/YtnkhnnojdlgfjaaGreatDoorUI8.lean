/- Parts of the proof, joined: Tm8, Tm9, WTab, WAt, WRepsOne, WInv. -/
import Derived.Test.YtnkhnnojdlgfjaaGreatDoorUI6
import Derived.Laws.EntriesVeiled
set_option linter.unusedVariables false
set_option linter.unusedSimpArgs false
set_option maxHeartbeats 32000000
set_option maxRecDepth 100000
section
namespace Go.Proofs.YtnkhnnojdlgfjaaGreatDoor.Tm
open RowKit Tr PA PB PC
theorem infoN:(Tryz.prog.info? 72).map (fun i=>(i.zero,i.size,i.bytes))=some (some (.agg #[(.bool false),(.bool false),(.int .u64 0),(.int .i64 0),(.int .i64 0),(.int .i64 0)]),6,40):=by kernel_rfl
def kb:Kd (Bool × Bool × Int × Int × Int × Int):=Kd.pair Kd.bool (Kd.pair Kd.bool (Kd.pair (Kd.int .u64) (Kd.pair (Kd.int .i64) (Kd.pair (Kd.int .i64) (Kd.int .i64)))))
def tup (x:Nd):Bool × Bool × Int × Int × Int × Int:=(x.inn,x.red,x.v,x.l,x.r,x.u)
def kn:Kd Nd:=Kd.iso kb tup
theorem kn_open {w:World}{x:Nd}{cs:List Value}(h:kn.K w x cs):cs=nv x:=by
 obtain⟨_,_,rfl,rfl,⟨_,_,rfl,rfl,⟨_,_,rfl,rfl,⟨_,_,rfl,rfl,⟨_,_,rfl,rfl,rfl⟩⟩⟩⟩⟩:=h;exact rfl
theorem kn_openM {w:World}{base:Nat}{ok:Nat→Prop}{x:Nd}{cs:List Value}(h:kn.M w base ok x cs):cs=nv x:=by
 obtain⟨_,_,rfl,rfl,⟨_,_,rfl,rfl,⟨_,_,rfl,rfl,⟨_,_,rfl,rfl,⟨_,_,rfl,rfl,rfl⟩⟩⟩⟩⟩:=h;exact rfl
theorem kn_mkM (w:World) (base:Nat) (ok:Nat→Prop) (x:Nd):kn.M w base ok x (nv x):=⟨[.bool x.inn],[.bool x.red,.int .u64 x.v,.int .i64 x.l,.int .i64 x.r,.int .i64 x.u],rfl,rfl,⟨[.bool x.red],[.int .u64 x.v,.int .i64 x.l,.int .i64 x.r,.int .i64 x.u],rfl,rfl,⟨[.int .u64 x.v],[.int .i64 x.l,.int .i64 x.r,.int .i64 x.u],rfl,rfl,⟨[.int .i64 x.l],[.int .i64 x.r,.int .i64 x.u],rfl,rfl,⟨[.int .i64 x.r],[.int .i64 x.u],rfl,rfl,rfl⟩⟩⟩⟩⟩
theorem vN:∀{l:List Nd}{cs:List Value},Reps (fun(x:Nd) c=>c=nv x) 6 l cs→cs=flat l
 | [],cs,h=>by
  have:=h.1;simp only[List.length_nil,Nat.zero_mul]at this;exact List.eq_nil_of_length_eq_zero this
 | x::t,cs,h=>by
  have h0:=h.2 0 x rfl;rw[Nat.zero_mul,List.drop_zero]at h0;have h1:Reps (fun(x:Nd) c=>c=nv x) 6 t (cs.drop 6):=by
   refine⟨by rw[List.length_drop,h.1,List.length_cons];omega,fun j p hp=>?_⟩;rw[List.drop_drop,show 6+j*6=(j+1)*6 by omega];exact h.2 (j+1) p hp
  rw[flat,←vN h1,←List.take_append_drop 6 cs,h0]
  rfl
theorem kK:∀l:List Nd,Reps (fun(x:Nd) c=>c=nv x) 6 l (flat l)
 | []=>Reps.none _ _
 | x::t=>by
  refine⟨by rw[zY],fun j p hp=>?_⟩
  match j with
  | 0=>injection hp with hp;subst hp;rfl
  | j+1=>
   rw[flat,show(j+1)*6=(nv x).length+j*6 by show(j+1)*6=6+j*6;omega,List.drop_length_add_append];exact(kK t).2 j p hp
theorem R_arr {w:World}{base:Nat}{ok:Nat→Prop}{v:Value}{l:List Nd}(h:kn.R 72 w base ok v l) (h0:0<l.length):∃g cap rs,∃cur:Array Value,v=.slice (some ⟨g,0,none⟩) l.length cap∧base≤g∧ok g∧l.length≤cap∧cap≤maxLen∧l.length*6+rs.length=cap*6∧w.heap[g]?=some (.cells cur 72 (0,0))∧cur.toList=flat l++rs:=by
 obtain⟨hok,inner,⟨hl,ho⟩,hr⟩:=h;have hr':Reps (fun(x:Nd) c=>c=nv x) 6 l inner:=⟨hr.1,fun j p hp=>kn_openM (hr.2 j p hp)⟩;have hi:=vN hr';rcases ho with⟨_,hn⟩|⟨g,cap,cur,rfl,hg,hh,hn,hm,hs,ht⟩
 ·omega
 ·have hs':cur.size=cap*6:=hs;have ht':cur.toList.take (l.length*6)=inner:=ht;refine⟨g,cap,cur.toList.drop (l.length*6),cur,rfl,hg,hok g rfl,hn,hm,?_,hh,?_⟩
  ·have h2:l.length*6≤cap*6:=by omega
   rw[List.length_drop,show cur.toList.length=cap*6 from hs'];omega
  ·rw[←hi,←ht',List.take_append_drop]
theorem arr_R {rs:List Value}{w:World}{g base cap:Nat}{ok:Nat→Prop}{l:List Nd}{cur:Array Value}(h1:w.heap[g]?=some (.cells cur 72 (0,0))) (h2:cur.toList=flat l++rs) (hb:base≤g) (hok:ok g) (hn:l.length≤cap) (hm:cap≤maxLen) (hs:l.length*6+rs.length=cap*6):kn.R 72 w base ok (.slice (some ⟨g,0,none⟩) l.length cap) l:=by
 have hsz:cur.size=cap*6:=by rw[←Array.length_toList,h2,List.length_append,zY,hs]
 refine⟨fun k hk=>by injection hk with hk;subst hk;exact hok,flat l,⟨zY l,.inr ⟨g,cap,cur,rfl,hb,h1,hn,hm,hsz,?_⟩⟩,?_⟩
 ·show cur.toList.take (l.length*6)=flat l;rw[h2,←zY,List.take_left]
 ·exact⟨(kK l).1,fun j p hp=>by rw[show((flat l).drop (j*kn.sz)).take kn.sz=nv p from(kK l).2 j p hp];exact kn_mkM _ _ _ _⟩
theorem zaW {w:World}{l:List Nd}(hr:kn.C w none l.length l):l=[]:=by
 cases l with
 | nil=>rfl
 | cons x t=>
  exfalso;obtain⟨ad,c,h,_⟩:=xO.get_ hr emp 0 (by omega) (by simp);cases h
theorem clone_ (A0:Option Addr) (c0:Nat) (l0:List Nd) (w:World) (hr:kn.C w A0 l0.length l0) (hl:l0.length≤1000000) :
  Calls Tryz.prog 121 #[.slice A0 l0.length c0] w fun e w'=>∃v0_:Value,e=.returned v0_∧kn.R 72 w' w.heap.size (fun _=>True) v0_ l0∧Below w.heap.size w w':=by
 have q22:∀(w:World) (a:Option Addr) (n c n' c':Nat),(binOp .eql 25 (.slice a n c) (.slice none n' c')).run Tryz.prog w=.ok (.bool a.isNone) w:=fun w a n c n' c'=>Lib.run_eql_slice_nil w _ _ a n c n' c' Tryz.underlying25
 cases A0 with
 | none=>
  obtain rfl:=zaW hr;clear hr;go_enter Tryz.func121,Tryz.ntmps121;go_wp2;go_ret;exact⟨_,rfl,Kd.jT _ _ _ _ _,Below.refl _ _⟩
 | some a=>
  have H:=Z hr;clear hr;go_enter Tryz.func121,Tryz.ntmps121;go_wp2_with (at_builtin;refine Kd.qL kn (Rr:=kn.K (w.alloc (.cells #[] 72))) (w0:=w) w.heap.size rfl (.tmp 5) (.tmp 6) 25 72 (.agg #[(.bool false),(.bool false),(.int .u64 0),(.int .i64 0),(.int .i64 0),(.int .i64 0)]) 40 rfl Tryz.underlying25 infoN rfl (show 0<kn.sz by show 0<6;omega) (by omega) _ [] l0 (some a) l0.length c0 (fun _=>True) (fun _=>False) rfl rfl ?aO ?aR ?aK (fun _ h=>h.elim) (fun _ _=>trivial) ?aB ?aS ?aL ?_)
  case aO=>exact⟨fun _ _=>trivial,[],World.ownsRow_made w #[] 0 (Nat.le_refl _) (Nat.zero_le _) (by simp),Reps.none _ _⟩
  case aR=>exact(Kd.zU H.o ((Below.refl _ w).alloc (Nat.le_refl _) _))
  case aK=>intro x cs h;rw[kn_open h];exact kn_mkM _ _ _ _
  case aB=>exact(Below.refl _ w).alloc (Nat.le_refl _) _
  case aS=>simp
  case aL=>simp;omega
  intro v1 w1 hR hB hg _;have HR:=Z hR;clear hR hg;go_wp2;go_ret;exact⟨v1,rfl,by simpa using HR.o,hB⟩
structure BPost (w:World) (t:St) (e:Ending) (w':World):Prop where mk::
 o:∃(A:Option Addr) (c g b:Nat),e=.returned (.pointer (some ⟨g,0,none⟩))∧Wk A c w' g b t∧w.heap.size≤g∧w.heap.size≤b∧Below w.heap.size w w'∧t.ns.length≤c∧(0<t.ns.length→c≤maxLen∧∃(cur:Array Value) (rs:List Value),w'.heap[b]?=some (.cells cur 72 (0,0))∧cur.toList=flat t.ns++rs∧t.ns.length*6+rs.length=c*6)
structure Own (w wq:World) (t:St) (A:Option Addr) (c:Nat) (g:Nat):Prop where mk::
 o:∃(cur:Array Value) (rs:List Value),A=some ⟨g,0,none⟩∧w.heap.size≤g∧g<wq.heap.size∧c≤maxLen∧wq.heap[g]?=some (.cells cur 72 (0,0))∧cur.toList=flat t.ns++rs∧t.ns.length*6+rs.length=c*6
theorem own_of {w wq:World}{t:St}{A:Option Addr}{c base:Nat}(h:kn.R 72 wq base (fun _=>True) (.slice A t.ns.length c) t.ns) (hb:w.heap.size≤base) (h0:0<t.ns.length):∃g,Own w wq t A c g:=by
 obtain⟨g,cap,rs,cur,e,h1,_,h2,h3,h4,h5,h6⟩:=R_arr h h0;injection e with e1 e2 e3;subst e3;exact⟨g,cur,rs,e1,by omega,(Array.getElem?_eq_some_iff.1 h5).1,h3,h5,h6,h4⟩
theorem begin_fin {w wq W3:World}{t:St}{A:Option Addr}{c gw:Nat}{n:Nat}(hB:Below w.heap.size w W3) (hl:t.ns.length≤1000000) (hlc:t.ns.length≤c) (hgw:gw=wq.heap.size) (hle:w.heap.size≤gw) (hown:0<t.ns.length→∃g,Own w wq t A c g) (h3:∀k,k<wq.heap.size→W3.heap[k]?=wq.heap[k]?) (hG:W3.heap[gw]?=some (.cells #[.slice A t.ns.length c,.int .i64 t.rt,.nilFunc,.nilFunc] 104 (0,0))) :
  BPost w t (.returned (.pointer (some ⟨gw,0,none⟩))) (((W3.setCell ⟨gw,2,none⟩ (.func (.func 78) #[.pointer (some ⟨gw,0,none⟩)] #[])).setCell ⟨gw,3,none⟩ (.func (.func 81) #[.pointer (some ⟨gw,0,none⟩)] #[])).drew):=by
 have hobj:(((W3.setCell ⟨gw,2,none⟩ (.func (.func 78) #[.pointer (some ⟨gw,0,none⟩)] #[])).setCell ⟨gw,3,none⟩ (.func (.func 81) #[.pointer (some ⟨gw,0,none⟩)] #[])).drew).heap[gw]?=some (.cells (objV A t.ns.length c t.rt gw) 104 (0,0)):=yR (yR hG 2 _) 3 _;have hoth:∀k,k≠gw→(((W3.setCell ⟨gw,2,none⟩ (.func (.func 78) #[.pointer (some ⟨gw,0,none⟩)] #[])).setCell ⟨gw,3,none⟩ (.func (.func 81) #[.pointer (some ⟨gw,0,none⟩)] #[])).drew).heap[k]?=W3.heap[k]?:=fun k hk=>by
  show((W3.setCell _ _).setCell _ _).heap[k]?=_;rw[Below.heap_setCell _ _ _ _ (by simpa using hk),Below.heap_setCell _ _ _ _ (by simpa using hk)]
 have hbel:Below w.heap.size w (((W3.setCell ⟨gw,2,none⟩ (.func (.func 78) #[.pointer (some ⟨gw,0,none⟩)] #[])).setCell ⟨gw,3,none⟩ (.func (.func 81) #[.pointer (some ⟨gw,0,none⟩)] #[])).drew):=Below.drew (Below.setCell (Below.setCell hB (p:=⟨gw,2,none⟩) hle _) (p:=⟨gw,3,none⟩) hle _);by_cases h0:0<t.ns.length;rotate_left
 ·exact⟨A,c,gw,gw+1,rfl,⟨hobj,by omega,hl,fun h=>absurd h h0,fun h=>absurd h h0⟩,hle,by omega,hbel,hlc,fun h=>absurd h h0⟩
 obtain⟨g,cur,rs,e1,e2,e3,e4,e5,e6,e7⟩:=hown h0;have hb:(((W3.setCell ⟨gw,2,none⟩ (.func (.func 78) #[.pointer (some ⟨gw,0,none⟩)] #[])).setCell ⟨gw,3,none⟩ (.func (.func 81) #[.pointer (some ⟨gw,0,none⟩)] #[])).drew).heap[g]?=some (.cells cur 72 (0,0)):=(hoth g (by omega)).trans ((h3 g e3).trans e5);exact⟨A,c,gw,g,rfl,⟨hobj,by omega,hl,fun _=>⟨e1,cur,rs,hb,e6⟩,fun _=>⟨hlc,e4,fun cur2 hc=>by
  have e9:=hb.symm.trans hc;injection e9 with e9;injection e9 with e9;rw[←e9,←Array.length_toList,e6,List.length_append,zY,e7]⟩⟩,hle,e2,hbel,hlc,fun _=>⟨e4,cur,rs,hb,e6,e7⟩⟩
theorem zbe (A0:Option Addr) (c0:Nat) (t:St) (w:World) (hr:kn.C w A0 t.ns.length t.ns) (hl:t.ns.length≤1000000) :
  Calls Tryz.prog 75 #[.agg #[.int .i64 t.rt,.slice A0 t.ns.length c0]] w fun e w'=>BPost w t e w':=by
 have HR:=Z hr;have HL:=Z hl;clear hr hl;go_enter Tryz.func75,Tryz.ntmps75;go_upto_region 1 with(fail);have HB1:=Z (zB (Below.refl w.heap.size w) (.cells #[.int .i64 t.rt,.slice A0 t.ns.length c0] 27));have HX1:=Z (show(w.alloc (.cells #[.int .i64 t.rt,.slice A0 t.ns.length c0] 27)).heap[w.heap.size]?=some (.cells #[.int .i64 t.rt,.slice A0 t.ns.length c0] 27 (0,0))from zQ w _);generalize w.alloc (.cells #[.int .i64 t.rt,.slice A0 t.ns.length c0] 27)=W1 at HB1 HX1⊢;have a0:=(show W1.cell? ⟨w.heap.size,0,none⟩=some (.int .i64 t.rt)from(zC HX1.o 0).trans rfl);have a1:=(show W1.cell? ⟨w.heap.size,1,none⟩=some (.slice A0 t.ns.length c0)from(zC HX1.o 1).trans rfl);have HBD:=Z (Below.drew HB1.o);have HXD:=Z (show W1.drew.heap[w.heap.size]?=some (.cells #[.int .i64 t.rt,.slice A0 t.ns.length c0] 27 (0,0))from HX1.o)
 go_region_with (go_at_call 121;refine(clone_ A0 c0 t.ns _ (Kd.zU HR.o HBD.o) HL.o).mono ?_;rintro e wq ⟨v,rfl,hR,hb⟩;obtain⟨A1,c1,hv,hlc,_⟩:=Kd.yE hR;subst hv;have HRR:=Z hR;have HB2:=Z (zD HBD.o hb);have HX2:=Z (zH HXD.o hb);have HLC:=Z hlc;have HWQ:=Z hb.size;clear hR hb hlc;have a2:=(show wq.cell? ⟨w.heap.size,0,none⟩=some (.int .i64 t.rt)from(zC HX2.o 0).trans rfl))
 all_goals
  have HB3:=Z (zB HB2.o (.cells #[.slice A1 t.ns.length c1,.int .i64 t.rt,.nilFunc,.nilFunc] 104));have HO3:=Z (fun h0=>own_of HRR.o (show w.heap.size≤W1.drew.heap.size from HBD.o.size) h0);have H33:=Z (fun k hk=>(zB (Below.refl wq.heap.size wq) (.cells #[.slice A1 t.ns.length c1,.int .i64 t.rt,.nilFunc,.nilFunc] 104)).block k hk);have HG3:=Z (zQ wq (.cells #[.slice A1 t.ns.length c1,.int .i64 t.rt,.nilFunc,.nilFunc] 104));have HGE:=Z (show w.heap.size≤wq.heap.size from HB2.o.size);clear a0 a1 a2 HRR HX2 HB2 HWQ;generalize wq.alloc (.cells #[.slice A1 t.ns.length c1,.int .i64 t.rt,.nilFunc,.nilFunc] 104)=W3 at HB3 HO3 HG3 H33⊢;have HFIN:=Z (fun(gw:Nat) (hgw:gw=wq.heap.size) (hG:W3.heap[gw]?=some (.cells #[.slice A1 t.ns.length c1,.int .i64 t.rt,.nilFunc,.nilFunc] 104 (0,0))) (hle:w.heap.size≤gw)=>begin_fin (n:=0) HB3.o HL.o HLC.o hgw hle HO3.o H33.o hG);have HEQ:=Z (show wq.heap.size=wq.heap.size from rfl);generalize hgw:wq.heap.size=gw at HG3 HGE⊢;have HFI2:=Z (HFIN.o gw hgw.symm HG3.o HGE.o);clear HFIN HEQ H33 HO3 hgw;have b2:=(show W3.cell? ⟨gw,2,none⟩=some .nilFunc from(zC HG3.o 2).trans rfl);have b3:=(show W3.cell? ⟨gw,3,none⟩=some .nilFunc from(zC HG3.o 3).trans rfl);have d2:=zK HG3.o 2;have d3:=zK HG3.o 3;go_wp2
  go_region
 all_goals
  go_wp2;go_ret;exact HFI2.o
end Go.Proofs.YtnkhnnojdlgfjaaGreatDoor.Tm
end
section
namespace Go.Proofs.YtnkhnnojdlgfjaaGreatDoor.Tm
open RowKit Tr PA PB PC
theorem yK {P:Program}{fn:Func}{p:Tmp}{ty:TypeId}(h:fn.results=#[.cell p ty]) (tmps:Array Value) (w:World) (g:Nat) (t:TypeId) (cs:Array Value) (fr:Nat × Nat) (d:TypeDesc)
  (hp:tmps.getD p undef=.pointer (some ⟨g,0,none⟩)) (hg:w.heap[g]?=some (.cells cs t fr))
  (hu:P.underlying ty=some d) (hd:(match d with | .struct _ | .array _ _=>true|_=>false)=true) (hi:(P.info? ty).map (·.size)=some cs.size) :
  (results fn tmps).run P w=.ok (.agg cs) w:=by
 have hp':tmps[p]?.getD undef=.pointer (some ⟨g,0,none⟩):=by simpa using hp
 simp[results,h,hp',asAddr,run_loadVar_row w g t ty cs fr d hg hu hd hi]
variable {A : Option Addr} {c : Nat} {w : World} {g b : Nat} {t : St}
theorem zaL (h:Wk A c w g b t):Calls Tryz.prog 84 #[.pointer (some ⟨g,0,none⟩)] w fun e w'=>e=.returned (.agg #[.int .i64 t.rt,.slice A t.ns.length c])∧Below w.heap.size w w':=by
 have H:=Z h;clear h;go_enter Tryz.func84,Tryz.ntmps84;go_upto_region 1 with(fail);have HB:=Z (zB (Below.refl w.heap.size w) (.cells #[.int .i64 0,.slice none 0 0] 27));have HG:=Z (zQ w (.cells #[.int .i64 0,.slice none 0 0] 27));have HW:=Z (H.o.alloc (.cells #[.int .i64 0,.slice none 0 0] 27));have HN:=Z (show w.heap.size≤w.heap.size from Nat.le_refl _);generalize w.alloc (.cells #[.int .i64 0,.slice none 0 0] 27)=W1 at HB HG HW⊢;generalize hgw:w.heap.size=gw at HG⊢;have HGW:=Z hgw;clear hgw;have c0:=HW.o.c0;have c1:=HW.o.c1;have d0:=(show W1.cell? ⟨gw,0,none⟩=some (.int .i64 0)from(zC HG.o 0).trans rfl);have d1:=(show W1.cell? ⟨gw,1,none⟩=some (.slice none 0 0)from(zC HG.o 1).trans rfl);have f0:=zK HG.o 0;have f1:=zK HG.o 1
 go_region
 all_goals go_wp2
 have hst:=yR (yR HG.o 0 (.int .i64 t.rt)) 1 (.slice A t.ns.length c);refine bodyPost_ret (yK (cs:=#[.int .i64 t.rt,.slice A t.ns.length c]) rfl _ _ gw 27 (0,0) _ rfl hst Tryz.underlying27 rfl (by kernel_rfl)) rfl ?_;exact⟨rfl,Below.drew (Below.setCell (Below.setCell HB.o (p:=⟨gw,0,none⟩) (Nat.le_of_eq HGW.o) _) (p:=⟨gw,1,none⟩) (Nat.le_of_eq HGW.o) _)⟩
end Go.Proofs.YtnkhnnojdlgfjaaGreatDoor.Tm
end
section
namespace Go.Proofs.YtnkhnnojdlgfjaaGreatDoor.PB
open PA (zA)
def zaZ (md:Region.Mode) (o:Oper):List Nat:=(o.after.toList.filter (fun e=>Region.binds md e)).map (fun e=>e.on)
def clashOf (md:Region.Mode) (ops:Array Oper) (i:Nat) (oi:Oper):List Nat:=(List.range ops.size).filter fun j=>!(j==i)&&match ops[j]? with
 | some oj=>!(oj.after.any (fun e=>Region.binds md e&&e.on==i) || oi.apart ops oj)
 | none=>false
def rtab (md:Region.Mode) (ops:Array Oper):Bool × List (List Nat × List Nat):=(Region.noSelect ops,(List.range ops.size).map fun i=>match ops[i]? with
 | some o=>(zaZ md o,clashOf md ops i o)
 | none=>([],[]))
def vY (T:List (List Nat × List Nat)) (l:List Bool) (i:Nat):Bool:=!l.getD i true&&match T[i]? with
 | some r=>r.1.all (fun j=>l.getD j false)
 | none=>false
def readyT (T:List (List Nat × List Nat)) (l:List Bool):List Nat:=(List.range T.length).filter (vY T l)
def freeT (T:List (List Nat × List Nat)) (l:List Bool) (i:Nat):Bool:=match T[i]? with
 | some r=>r.2.all (fun j=>l.getD j true)
 | none=>false
def zcN (T:List (List Nat × List Nat)) (l:List Bool):Bool:=(List.range T.length).all fun j=>!l.getD j false || match T[j]? with
 | some r=>r.1.all (fun k=>l.getD k false)
 | none=>true
def zbc (T:List (List Nat × List Nat)) (i:Nat):Nat→Nat→Bool
 | 0,_=>false
 | fuel+1,d=>match T[d]? with
  | some r=>r.1.any fun j=>j==i || zbc T i fuel j
  | none=>false
def lastT (T:List (List Nat × List Nat)) (l:List Bool) (ds:List Nat) (i:Nat):Bool:=ds.all fun d=>l.getD d true || zbc T i T.length d
section
variable {md : Region.Mode} {ops : Array Oper} {T : Bool × List (List Nat × List Nat)} {l l' li lj lk : Array Bool} {ds : List Nat} {i j k : Nat}
theorem gd (l:Array Bool) (j:Nat) (b:Bool):l.getD j b=l.toList.getD j b:=by simp[Array.getD_eq_getD_getElem?,List.getD_eq_getElem?_getD]
theorem needs_all (o:Oper) (p:Nat→Bool):o.after.all (fun e=>!Region.binds md e || p e.on)=(zaZ md o).all p:=by
 unfold zaZ;rw[←Array.all_toList]
 induction o.after.toList with
 | nil=>rfl
 | cons e r ih=>
  rw[List.all_cons,ih,List.filter_cons];cases h:Region.binds md e<;>simp
theorem needs_any (o:Oper) (p:Nat→Bool):o.after.any (fun e=>Region.binds md e&&p e.on)=(zaZ md o).any p:=by
 unfold zaZ;rw[←Array.any_toList]
 induction o.after.toList with
 | nil=>rfl
 | cons e r ih=>
  rw[List.any_cons,ih,List.filter_cons];cases h:Region.binds md e<;>simp
theorem wD:(rtab md ops).2.length=ops.size:=by simp[rtab]
theorem zab {o:Oper}(h:ops[i]?=some o):(rtab md ops).2[i]?=some (zaZ md o,clashOf md ops i o):=by
 have hi:=(Array.getElem?_eq_some_iff.1 h).1;unfold rtab;rw[List.getElem?_map,List.getElem?_range hi,Option.map_some,h]
theorem zac (h:ops[i]?=none):(rtab md ops).2[i]?=none:=by
 have hi:ops.size≤i:=Array.getElem?_eq_none_iff.1 h;exact List.getElem?_eq_none (by rw[wD];exact hi)
theorem readyAt_eq:vY (rtab md ops).2 l.toList i=(!l.getD i true&&((ops[i]?).map (·.after.all fun e=>!Region.binds md e || l.getD e.on false)).getD false):=by
 unfold vY;rw[gd];cases h:ops[i]? with
 | none=>rw[zac h];rfl
 | some o=>
  rw[zab h];simp only[Option.map_some,Option.getD_some];rw[←needs_all];simp only[gd]
theorem ready_eq:Region.ready md ops l=readyT (rtab md ops).2 l.toList:=by
 unfold Region.ready readyT;rw[wD];refine List.filter_congr (fun i _=>?_);rw[readyAt_eq]
theorem free_eq:Region.free md ops l i=freeT (rtab md ops).2 l.toList i:=by
 unfold Region.free freeT;cases h:ops[i]? with
 | none=>rw[zac h]
 | some oi=>
  rw[zab h];simp only[clashOf];rw[List.all_filter]
  congr 1
  funext j
  rw[gd];cases hj:ops[j]? with
  | none=>cases(j==i)<;>cases(l.toList.getD j true)<;>simp
  | some oj=>
   cases(j==i)<;>cases(l.toList.getD j true)<;>cases(oj.after.any (fun e=>Region.binds md e&&e.on==i) || oi.apart ops oj)<;>simp_all
theorem closed_eq:Region.zbJ md ops l=zcN (rtab md ops).2 l.toList:=by
 unfold Region.zbJ zcN;rw[wD]
 congr 1
 funext j
 rw[gd];cases h:ops[j]? with
 | none=>rw[zac h]
 | some o=>
  rw[zab h];simp only;rw[←needs_all];simp only[gd]
theorem reach_eq:∀(fuel d:Nat),Region.vE md ops i fuel d=zbc (rtab md ops).2 i fuel d
 | 0,_=>rfl
 | fuel+1,d=>by
  unfold Region.vE zbc;cases h:ops[d]? with
  | none=>rw[zac h]
  | some o=>
   rw[zab h];simp only;rw[←needs_any]
   congr 1
   funext e
   rw[reach_eq fuel]
theorem last_eq:Region.lastB md ops l ds i=lastT (rtab md ops).2 l.toList ds i:=by
 unfold Region.lastB lastT;rw[wD]
 congr 1
 funext d
 rw[gd,reach_eq]
theorem zby (h:vY T.2 l.toList i=true) (hT:rtab md ops=T):(Region.ready md ops l).contains i=true:=by
 subst hT;rw[ready_eq];unfold readyT;rw[List.contains_iff_mem,List.mem_filter,List.mem_range];refine⟨?_,h⟩;unfold vY at h;rw[Bool.and_eq_true]at h;cases hq:(rtab md ops).2[i]? with
 | none=>rw[hq]at h;simp at h
 | some r=>exact(List.getElem?_eq_some_iff.1 hq).1
theorem set_of (h:(l.toList.set i true==l'.toList)=true):(l.setIfInBounds i true==l')=true:=by
 rw[beq_iff_eq]at h⊢;apply Array.ext';rw[Array.toList_setIfInBounds];exact h
def anyT (T:Bool × List (List Nat × List Nat)) (l l':List Bool) (i:Nat):Bool:=T.1&&freeT T.2 l i&&vY T.2 l i&&(l.set i true==l')
theorem zaw (hT:rtab md ops=T) (h:anyT T l.toList l'.toList i=true):anyB md ops l l' i=true:=by
 simp only[anyT,Bool.and_eq_true]at h;obtain⟨⟨⟨h1,h2⟩,h3⟩,h4⟩:=h;have h5:=zby h3 hT;have h6:=set_of h4;subst hT;simp only[anyB,Bool.and_eq_true];exact⟨⟨⟨h1,by rw[free_eq];exact h2⟩,h5⟩,h6⟩
def takeT (T:Bool × List (List Nat × List Nat)) (ds:List Nat) (l l':List Bool) (i:Nat):Bool:=T.1&&freeT T.2 l i&&vY T.2 l i&&zcN T.2 l&&lastT T.2 l ds i&&(l.set i true==l')
theorem take_of (hT:rtab md ops=T) (h:takeT T ds l.toList l'.toList i=true):takeB md ops ds l l' i=true:=by
 simp only[takeT,Bool.and_eq_true]at h;obtain⟨⟨⟨⟨⟨h1,h2⟩,h3⟩,h4⟩,h5⟩,h6⟩:=h;have h7:=zby h3 hT;have h8:=set_of h6;subst hT;simp only[takeB,Bool.and_eq_true];exact⟨⟨⟨⟨⟨h1,by rw[free_eq];exact h2⟩,h7⟩,by rw[closed_eq];exact h4⟩,by rw[last_eq];exact h5⟩,h8⟩
theorem zbd (hT:rtab md ops=T) (h:(readyT T.2 l.toList==[i]&&l.toList.set i true==l'.toList)=true):wH md ops l l' i=true:=by
 simp only[Bool.and_eq_true]at h;obtain⟨h1,h2⟩:=h;subst hT;simp only[wH,Bool.and_eq_true];exact⟨by rw[ready_eq];exact h1,set_of h2⟩
theorem done_of (hT:rtab md ops=T) (h:(readyT T.2 l.toList==[])=true):(Region.ready md ops l==[])=true:=by
 subst hT;rw[ready_eq];exact h
def upM (B:List Nat) (d:Nat):List Nat→Nat
 | []=>0
 | n::r=>(2 ^ n ||| (if n<d then B.getD n 0 else 0)) ||| upM B d r
def zbD (T:List (List Nat × List Nat)) (B:List Nat):Bool:=(List.range T.length).all fun d=>match T[d]? with
 | some r=>(B.getD d 0 ||| upM B d r.1)==upM B d r.1
 | none=>false
theorem upM_bit {B:List Nat}{d i:Nat}:∀{ns:List Nat},(upM B d ns).testBit i=true→∃n∈ns,n=i∨(n<d∧(B.getD n 0).testBit i=true)
 | [],h=>by simp[upM]at h
 | n::r,h=>by
  unfold upM at h;rw[Nat.testBit_or,Nat.testBit_or,Bool.or_eq_true,Bool.or_eq_true]at h;rcases h with(h|h)|h
  ·rw[Nat.testBit_two_pow]at h;exact⟨n,List.mem_cons_self,.inl (by simpa using h)⟩
  ·by_cases hn:n<d
   ·rw[if_pos hn]at h;exact⟨n,List.mem_cons_self,.inr ⟨hn,h⟩⟩
   ·rw[if_neg hn]at h;simp at h
  ·obtain⟨m,hm,h2⟩:=upM_bit h;exact⟨m,List.mem_cons_of_mem _ hm,h2⟩
theorem reach_bit {T:List (List Nat × List Nat)}{B:List Nat}(hB:zbD T B=true):∀(fuel d:Nat),d<fuel→d<T.length→(B.getD d 0).testBit i=true→zbc T i fuel d=true
 | 0,d,h,_,_=>by omega
 | fuel+1,d,h,hd,hb=>by
  have h1:=List.all_eq_true.1 hB d (List.mem_range.2 hd);cases hr:T[d]? with
  | none=>rw[hr]at h1;simp at h1
  | some r=>
   rw[hr]at h1;simp only[beq_iff_eq]at h1;have h2:(upM B d r.1).testBit i=true:=by rw[←h1,Nat.testBit_or,hb,Bool.true_or]
   obtain⟨n,hn,h3⟩:=upM_bit h2;unfold zbc;rw[hr];simp only;rw[List.any_eq_true];refine⟨n,hn,?_⟩;rcases h3 with rfl|⟨h4,h5⟩
   ·simp
   ·rw[reach_bit hB fuel n (by omega) (by omega) h5,Bool.or_true]
def lastW (T:List (List Nat × List Nat)) (B:List Nat) (l:List Bool) (ds:List Nat) (i:Nat):Bool:=ds.all fun d=>l.getD d true || (decide (d<T.length)&&(B.getD d 0).testBit i)
def takeW (T:Bool × List (List Nat × List Nat)) (B:List Nat) (ds:List Nat) (l l':List Bool) (i:Nat):Bool:=T.1&&freeT T.2 l i&&vY T.2 l i&&zcN T.2 l&&lastW T.2 B l ds i&&(l.set i true==l')
theorem zbM {B:List Nat}(hT:rtab md ops=T) (hB:zbD T.2 B=true) (h:takeW T B ds l.toList l'.toList i=true):takeB md ops ds l l' i=true:=by
 refine take_of hT ?_;simp only[takeW,takeT,Bool.and_eq_true]at h⊢;obtain⟨⟨⟨⟨⟨h1,h2⟩,h3⟩,h4⟩,h5⟩,h6⟩:=h;refine⟨⟨⟨⟨⟨h1,h2⟩,h3⟩,h4⟩,?_⟩,h6⟩;unfold lastW at h5;unfold lastT;rw[List.all_eq_true]at h5⊢;intro d hd;have h7:=h5 d hd;rw[Bool.or_eq_true,Bool.and_eq_true,decide_eq_true_eq]at h7;rcases h7 with h7|⟨h8,h9⟩
 ·rw[h7,Bool.true_or]
 ·rw[reach_bit hB _ d h8 h8 h9,Bool.or_true]
theorem with_tabW {P:Program}{Q:Exit→Act→World→Prop}{S:World→Prop}{n:Nat}{a:Act}{w:World}{B:List Nat}(hT:rtab md ops=T) (hB:zbD T.2 B=true) (h:zA (rtab md ops=T)→zA (zbD T.2 B=true)→zR P md ops Q S ds n l a w):zR P md ops Q S ds n l a w:=h ⟨hT⟩ ⟨hB⟩
end
def zan:Code→Nat→Option (Array Oper)
 | .region id ops _,k=>if id==k then some ops else none
 | .seq a b,k=>match zan a k with
  | some o=>some o
  | none=>zan b k
 | .cond _ a b,k=>match zan a k with
  | some o=>some o
  | none=>zan b k
 | .block _ c,k=>zan c k
 | .loop c,k=>zan c k
 | .scope c,k=>zan c k
 | .rangeFunc _ _ a b,k=>match zan a k with
  | some o=>some o
  | none=>zan b k
 | _,_=>none
def opsOf (f:Func) (k:Nat):Array Oper:=((f.body.bind fun c=>zan c k)).getD #[]
end Go.Proofs.YtnkhnnojdlgfjaaGreatDoor.PB
end
section
namespace Go.Proofs.YtnkhnnojdlgfjaaGreatDoor.PA
open RowKit
namespace Kd
section
variable {α : Type} {d : Kd α} {e base n m : Nat} {ok : Nat → Prop} {w w' : World} {v : Value} {A : Option Addr} {xs : List α}
theorem C_at (hq:w.drewN m=w') (h:d.C w A n xs):d.C w' A n xs:=by subst hq;exact C_drewN h m
end
end Kd
end Go.Proofs.YtnkhnnojdlgfjaaGreatDoor.PA
end
section
namespace Go.Proofs.YtnkhnnojdlgfjaaGreatDoor.PA
theorem Reps.one {α:Type}{R:α→List Value→Prop}{ps:List α}{cs:List Value}{p:α}{v:Value}(hp:R p [v]) (h:Reps R 1 ps cs):Reps R 1 (p::ps) (v::cs):=by
 refine⟨by simp[h.1],fun j q hq=>?_⟩;cases j with
 | zero=>
  simp only[List.getElem?_cons_zero,Option.some.injEq]at hq;subst hq
  simpa using hp
 | succ j=>
  simp only[List.getElem?_cons_succ]at hq;have h1:=h.2 j q hq
  simpa [Nat.mul_one]using h1
end Go.Proofs.YtnkhnnojdlgfjaaGreatDoor.PA
end
section
namespace Go.Proofs.YtnkhnnojdlgfjaaGreatDoor.PB
def up (b:Nat→Bool) (i:Nat):Nat→Bool:=fun j=>if j=i then true else b j
end Go.Proofs.YtnkhnnojdlgfjaaGreatDoor.PB
end
