/- Parts of the proof, joined: Rm6, Rm7, Rm8. -/
import Derived.Test.YtnkhnnojdlgfjaaGreatDoorUI27
import Derived.Deep.RegionHeld3
set_option linter.unusedVariables false
set_option linter.unusedSimpArgs false
set_option maxHeartbeats 32000000
set_option maxRecDepth 100000
section
namespace Go.Proofs.YtnkhnnojdlgfjaaGreatDoor.Tm
open RowKit Tr Tk PA PB PC
variable {w : World} {t : St}
theorem rin_ (A:Option Addr) (c:Nat) (l:List Int) (hr:(Kd.int .i64).C w A l.length l) (hl:l.length≤1000000) (x:Int) :
  Calls Tryz.prog 150 #[.slice A l.length c,.int .i64 x] w fun e w'=>e=.returned (.bool (decide (x∈l)))∧w'=w:=by
 have HR:=Z hr;clear hr;go_enter Tryz.func150,Tryz.ntmps150;go_wp2
 go_loopw [5] (fun vi wr=>∃i:Nat,i≤l.length∧vi=.int .i64 i∧zA (wr=w)∧zA (x∉l.take i)) (fun vi _=>l.length-(intOf vi).toNat)
 case atStart=>exact⟨0,Nat.zero_le _,rfl,⟨rfl⟩,⟨by simp⟩⟩
 case round=>
  obtain⟨i,hi,rfl,HW,HP⟩:=hrel;obtain rfl:=HW.o;clear HW;by_cases hlt:i<l.length;rotate_left
  ·obtain rfl:i=l.length:=by omega
   have HS:=Z (show decide (x∈l)=false from decide_eq_false (by have:=HP.o;rw[List.take_length]at this;exact this));go_wp2;go_ret;rw[HS.o];exact⟨rfl,rfl⟩
  have hn:(i:Int)<(l.length:Int):=by omega
  have HN1:=Z (show((i:Int)+1).toNat=i+1 by omega);obtain⟨ad,e1,c1⟩:=wK HR.o i hlt;subst e1;obtain⟨y,hy⟩:∃y,y=l.getD i 0:=⟨_,rfl⟩;rw[←hy]at c1;have HY:=Z (show y=l[i]by rw[hy,List.getD_eq_getElem?_getD,List.getElem?_eq_getElem hlt];rfl);have HTK:=Z (List.take_succ_eq_append_getElem hlt);clear hy;by_cases he:y=x
  ·have hq:(y==x)=true:=by simpa using he
   have HS:=Z (show decide (x∈l)=true from decide_eq_true (by rw[←he,HY.o];exact List.getElem_mem hlt));clear he;go_wp2;go_ret;rw[HS.o];exact⟨rfl,rfl⟩
  have hq:(y==x)=false:=by simpa using he
  have HE:=Z he;clear he;go_wp2;refine⟨⟨i+1,by omega,by simp,⟨by first|trivial|rfl⟩,⟨?_⟩⟩,?_⟩
  ·rw[HTK.o,←HY.o];intro h;rcases List.mem_append.1 h with h|h
   ·exact HP.o h
   ·exact HE.o (List.mem_singleton.1 h).symm
  ·show l.length-((i:Int)+1).toNat<l.length-(i:Int).toNat;rw[HN1.o];omega
structure Nb (w0 w:World) (g k:Nat) (t:St) (A:Option Addr) (c:Nat) (n:Nd):Prop where mk::
 tb:w.heap[g]?=some (.cells #[.int .i64 t.rt,.slice A t.ns.length c] 27 (0,0))
 nb:w.heap[k]?=some (.cells #[.bool n.inn,.bool n.red,.int .u64 n.v,.int .i64 n.l,.int .i64 n.r,.int .i64 n.u] 72 (0,0))
 bb:Below w0.heap.size w0 w
 rd:kn.C w A t.ns.length t.ns
section
variable {w0 w1 : World} {g k : Nat} {A : Option Addr} {c : Nat} {n : Nd}
theorem Nb.below (h:Nb w0 w g k t A c n) (hb:Below w.heap.size w w1):Nb w0 w1 g k t A c n:=⟨zH h.tb hb,zH h.nb hb,zD h.bb hb,Kd.zU h.rd hb⟩
theorem Nb.drew (h:Nb w0 w g k t A c n):Nb w0 w.drew g k t A c n:=h.below (Below.drew (Below.refl _ _))
theorem Nb.a0 (h:Nb w0 w g k t A c n):w.cell? ⟨g,0,none⟩=some (.int .i64 t.rt):=(zC h.tb 0).trans rfl
theorem Nb.a1 (h:Nb w0 w g k t A c n):w.cell? ⟨g,1,none⟩=some (.slice A t.ns.length c):=(zC h.tb 1).trans rfl
theorem Nb.b0 (h:Nb w0 w g k t A c n):w.cell? ⟨k,0,none⟩=some (.bool n.inn):=(zC h.nb 0).trans rfl
theorem Nb.b1 (h:Nb w0 w g k t A c n):w.cell? ⟨k,1,none⟩=some (.bool n.red):=(zC h.nb 1).trans rfl
theorem Nb.b3 (h:Nb w0 w g k t A c n):w.cell? ⟨k,3,none⟩=some (.int .i64 n.l):=(zC h.nb 3).trans rfl
theorem Nb.b4 (h:Nb w0 w g k t A c n):w.cell? ⟨k,4,none⟩=some (.int .i64 n.r):=(zC h.nb 4).trans rfl
theorem Nb.b5 (h:Nb w0 w g k t A c n):w.cell? ⟨k,5,none⟩=some (.int .i64 n.u):=(zC h.nb 5).trans rfl
end
def blR (a:T):Int:=if (blA a).2=true then (blA a).1 else -1
theorem blR_B (cl:Bool) (l:T) (x:Nat) (r:T):blR (.B cl l x r)=if blR l<0 then -1 else if blR l≠blR r then -1 else if cl=true∧(l.red=true∨r.red=true)then -1 else if cl=true then blR l else blR l+1:=by
 have h1:=zaC l;have h2:=zaC r;unfold blR;rw[blA];cases e1:(blA l).2<;>cases e2:(blA r).2<;>simp only[reduceCtorEq,if_true,if_false]<;>repeat' split
 all_goals first|rfl|omega|simp_all
theorem rblacks_:∀(a:T) (w:World) (u:Option Int) (A:Option Addr) (c:Nat),kn.C w A t.ns.length t.ns→Lay t a u→a.size≤1000000→
  Calls Tryz.prog 109 #[.agg #[.int .i64 t.rt,.slice A t.ns.length c],.int .i64 a.rt] w fun e w'=>e=.returned (.int .i64 (blR a))∧Below w.heap.size w w':=by
 intro a
 induction a with
 | E=>
  intro w u A c hr _ _;have HB1:=Z (zB (Below.refl w.heap.size w) (.cells #[.int .i64 t.rt,.slice A t.ns.length c] 27));clear hr;change Calls Tryz.prog 109 #[.agg #[.int .i64 t.rt,.slice A t.ns.length c],.int .i64 (-1)] w _;go_enter Tryz.func109,Tryz.ntmps109;go_wp2;go_ret;exact⟨rfl,HB1.o⟩
 | B cl l x r ihl ihr=>
  intro w u A c hr hL hs;have hs2:l.size+r.size+1≤1000000:=hs;obtain⟨h1,h2,h3,h4,h5,h6,h7,h8⟩:=hL;have HIL:=Z (fun(W:World) (hr:kn.C W A t.ns.length t.ns)=>ihl W _ A c hr h7 (by omega));have HIR:=Z (fun(W:World) (hr:kn.C W A t.ns.length t.ns)=>ihr W _ A c hr h8 (by omega));have HRL:=Z (jP h7);have HRR:=Z (jP h8);have HLN:=Z (wX h7.loose);have HRN:=Z (wX h8.loose);have HBL:=Z (show -1≤blR l∧blR l≤1000000 by have:=zaC l;unfold blR;split<;>omega);have HBB:=Z (blR_B cl l x r);have hx0:(0:Int)≤(x:Int):=by omega
  have hx1:(x:Int)<(t.ns.length:Int):=by omega
  have HB1:=Z (zB (Below.refl w.heap.size w) (.cells #[.int .i64 t.rt,.slice A t.ns.length c] 27));have HX1:=Z (zQ w (.cells #[.int .i64 t.rt,.slice A t.ns.length c] 27));have HR1:=Z (Kd.zU hr HB1.o);change Calls Tryz.prog 109 #[.agg #[.int .i64 t.rt,.slice A t.ns.length c],.int .i64 (x:Int)] w _;obtain⟨X,hX⟩:∃X:Int,(x:Int)=X:=⟨_,rfl⟩;have HD:=Z (show redA t X=cl by rw[←hX];unfold redA;rw[decide_eq_true hx0,Int.toNat_natCast,h3];rfl);have HDL:=Z (show kidA t X false=l.rt by rw[←hX];unfold kidA;rw[Int.toNat_natCast,←h4];rfl);have HDR:=Z (show kidA t X true=r.rt by rw[←hX];unfold kidA;rw[Int.toNat_natCast,←h5];rfl);rw[hX]at hx0 hx1⊢;clear hX;clear hr ihl ihr h2 h3 h4 h5 h6 h7 h8 hs hs2;go_enter Tryz.func109,Tryz.ntmps109;go_upto_region 1 with(fail);generalize w.alloc (.cells #[.int .i64 t.rt,.slice A t.ns.length c] 27)=W1 at HB1 HX1 HR1⊢;have a0:=(show W1.cell? ⟨w.heap.size,0,none⟩=some (.int .i64 t.rt)from(zC HX1.o 0).trans rfl);have a1:=(show W1.cell? ⟨w.heap.size,1,none⟩=some (.slice A t.ns.length c)from(zC HX1.o 1).trans rfl);obtain⟨ad,rfl,d0,d1,d2,d3,d4,d5⟩:=zbs HR1.o X hx0 hx1;rw[HD.o]at d1;rw[HDL.o]at d3;rw[HDR.o]at d4;go_upto_region 4 with(fail);obtain⟨n,hn⟩:∃n:Nd,n=⟨(gn t X.toNat).inn,cl,(gn t X.toNat).v,l.rt,r.rt,upA t X⟩:=⟨_,rfl⟩;have NB:zA (Nb w (W1.alloc (.cells #[.bool (gn t X.toNat).inn,.bool cl,.int .u64 (gn t X.toNat).v,.int .i64 l.rt,.int .i64 r.rt,.int .i64 (upA t X)] 72)) w.heap.size W1.heap.size t (some ad) c n):=
   ⟨⟨zH HX1.o (zB (Below.refl _ _) _),by rw[hn];exact zQ _ _,zD HB1.o (zB (Below.refl _ _) _),Kd.zU HR1.o (zB (Below.refl _ _) _)⟩⟩
  have HNL:=Z (show n.l=l.rt by rw[hn]);have HNR:=Z (show n.r=r.rt by rw[hn]);have HNC:=Z (show n.red=cl by rw[hn]);clear a0 a1 d0 d1 d2 d3 d4 d5 hn;generalize W1.alloc (.cells #[.bool (gn t X.toNat).inn,.bool cl,.int .u64 (gn t X.toNat).v,.int .i64 l.rt,.int .i64 r.rt,.int .i64 (upA t X)] 72)=W2 at NB⊢;generalize W1.heap.size=kb at NB⊢;have a0:=NB.o.a0;have a1:=NB.o.a1;have b1:=NB.o.b1;have b3:=NB.o.b3;have b4:=NB.o.b4;rw[HNL.o]at b3;rw[HNR.o]at b4;rw[HNC.o]at b1;obtain⟨bl,hbl⟩:∃bl,bl=blR l:=⟨_,rfl⟩;obtain⟨br,hbr⟩:∃br,br=blR r:=⟨_,rfl⟩;have HL:=Z hbl.symm;have HR:=Z hbr.symm;rw[←hbl,←hbr]at HBB;rw[←hbl]at HBL;clear hbl hbr;have hb1:=HBL.o.1;have hb2:=HBL.o.2;go_upto_region 5 with(go_at_call 109;(with_reducible refine(HIL.o _ NB.o.rd).mono ?_);rintro e wq ⟨rfl,hB⟩;rw[HL.o];replace NB:=Z (NB.o.below hB);replace a0:=NB.o.a0;replace a1:=NB.o.a1;replace b1:=NB.o.b1;replace b3:=NB.o.b3;replace b4:=NB.o.b4;rw[HNL.o]at b3;rw[HNR.o]at b4;rw[HNC.o]at b1;clear hB);go_upto_region 6 with(go_at_call 109;(with_reducible refine(HIR.o _ NB.o.rd).mono ?_);rintro e wq ⟨rfl,hB⟩;rw[HR.o];replace NB:=Z (NB.o.below hB);replace a0:=NB.o.a0;replace a1:=NB.o.a1;replace b1:=NB.o.b1;replace b3:=NB.o.b3;replace b4:=NB.o.b4;rw[HNL.o]at b3;rw[HNR.o]at b4;rw[HNC.o]at b1;clear hB);by_cases c1:bl<0
  ·have e1:decide (bl<0)=true:=decide_eq_true c1;have HE:=Z (show blR (.B cl l x r)=-1 by rw[HBB.o,if_pos c1]);clear c1;go_wp2;go_ret;rw[HE.o];exact⟨rfl,NB.o.bb⟩
  have e1:decide (bl<0)=false:=decide_eq_false c1;by_cases c2:bl=br;rotate_left
  ·have e2:(bl != br)=true:=by simpa using c2
   have HE:=Z (show blR (.B cl l x r)=-1 by rw[HBB.o,if_neg c1,if_pos c2]);clear c2;go_wp2;go_ret;rw[HE.o];exact⟨rfl,NB.o.bb⟩
  ·subst c2;have e2:(bl != bl)=false:=by simp
   cases cl with
   | false=>
    have HE:=Z (show blR (.B false l x r)=bl+1 by rw[HBB.o,if_neg c1,if_neg (by simp),if_neg (by simp),if_neg (by simp)]);go_wp2;go_ret;rw[HE.o];exact⟨rfl,NB.o.bb⟩
   | true=>
    cases hrl:l.red with
    | true=>
     have HRL2:=Z (HRL.o.trans hrl);have HE:=Z (show blR (.B true l x r)=-1 by rw[HBB.o,if_neg c1,if_neg (by simp),if_pos ⟨rfl,Or.inl hrl⟩]);clear hrl;go_wp2_with ((go_at_call_of 108 (Value.int IntKind.i64 l.rt);(with_reducible refine(xK (t:=t) (some ad) c NB.o.rd l.rt HLN.o true HRL2.o).mono ?_);rintro e wq ⟨rfl,hB⟩;replace NB:=Z (NB.o.below hB);replace a0:=NB.o.a0;replace a1:=NB.o.a1;replace b1:=NB.o.b1;replace b3:=NB.o.b3;replace b4:=NB.o.b4;rw[HNL.o]at b3;rw[HNR.o]at b4;rw[HNC.o]at b1;clear hB));go_ret;rw[HE.o];exact⟨rfl,NB.o.bb⟩
    | false=>
     have HRL2:=Z (HRL.o.trans hrl);cases hrr:r.red with
     | true=>
      have HRR2:=Z (HRR.o.trans hrr);have HE:=Z (show blR (.B true l x r)=-1 by rw[HBB.o,if_neg c1,if_neg (by simp),if_pos ⟨rfl,Or.inr hrr⟩]);clear hrl hrr;go_wp2_with (first|(go_at_call_of 108 (Value.int IntKind.i64 l.rt);(with_reducible refine(xK (t:=t) (some ad) c NB.o.rd l.rt HLN.o false HRL2.o).mono ?_);rintro e wq ⟨rfl,hB⟩;replace NB:=Z (NB.o.below hB);replace a0:=NB.o.a0;replace a1:=NB.o.a1;replace b1:=NB.o.b1;replace b3:=NB.o.b3;replace b4:=NB.o.b4;rw[HNL.o]at b3;rw[HNR.o]at b4;rw[HNC.o]at b1;clear hB)|(go_at_call_of 108 (Value.int IntKind.i64 r.rt);(with_reducible refine(xK (t:=t) (some ad) c NB.o.rd r.rt HRN.o true HRR2.o).mono ?_);rintro e wq ⟨rfl,hB⟩;replace NB:=Z (NB.o.below hB);replace a0:=NB.o.a0;replace a1:=NB.o.a1;replace b1:=NB.o.b1;replace b3:=NB.o.b3;replace b4:=NB.o.b4;rw[HNL.o]at b3;rw[HNR.o]at b4;rw[HNC.o]at b1;clear hB));go_ret;rw[HE.o];exact⟨rfl,NB.o.bb⟩
     | false=>
      have HRR2:=Z (HRR.o.trans hrr);have HE:=Z (show blR (.B true l x r)=bl by rw[HBB.o,if_neg c1,if_neg (by simp),if_neg (by rw[hrl,hrr];simp),if_pos rfl]);clear hrl hrr;go_wp2_with (first|(go_at_call_of 108 (Value.int IntKind.i64 l.rt);(with_reducible refine(xK (t:=t) (some ad) c NB.o.rd l.rt HLN.o false HRL2.o).mono ?_);rintro e wq ⟨rfl,hB⟩;replace NB:=Z (NB.o.below hB);replace a0:=NB.o.a0;replace a1:=NB.o.a1;replace b1:=NB.o.b1;replace b3:=NB.o.b3;replace b4:=NB.o.b4;rw[HNL.o]at b3;rw[HNR.o]at b4;rw[HNC.o]at b1;clear hB)|(go_at_call_of 108 (Value.int IntKind.i64 r.rt);(with_reducible refine(xK (t:=t) (some ad) c NB.o.rd r.rt HRN.o false HRR2.o).mono ?_);rintro e wq ⟨rfl,hB⟩;replace NB:=Z (NB.o.below hB);replace a0:=NB.o.a0;replace a1:=NB.o.a1;replace b1:=NB.o.b1;replace b3:=NB.o.b3;replace b4:=NB.o.b4;rw[HNL.o]at b3;rw[HNR.o]at b4;rw[HNC.o]at b1;clear hB));go_ret;rw[HE.o];exact⟨rfl,NB.o.bb⟩
theorem blR_iff (a:T):decide (0≤blR a)=(blA a).2:=by
 have:=zaC a;unfold blR;cases e:(blA a).2 with
 | true=>rw[if_pos rfl];exact decide_eq_true (by omega)
 | false=>rw[if_neg (by simp)];rfl
end Go.Proofs.YtnkhnnojdlgfjaaGreatDoor.Tm
end
section
namespace Go.Proofs.YtnkhnnojdlgfjaaGreatDoor.Tm
open RowKit Tr Tk PA PB PC
variable {w : World} {t : St}
structure Hb (w0 w:World) (g:Nat) (t:St) (A:Option Addr) (c:Nat):Prop where mk::
 tb:w.heap[g]?=some (.cells #[.int .i64 t.rt,.slice A t.ns.length c] 27 (0,0))
 bb:Below w0.heap.size w0 w
 rd:kn.C w A t.ns.length t.ns
section
variable {w0 w1 : World} {g k : Nat} {A : Option Addr} {c : Nat}
theorem Hb.below (h:Hb w0 w g t A c) (hb:Below w.heap.size w w1):Hb w0 w1 g t A c:=⟨zH h.tb hb,zD h.bb hb,Kd.zU h.rd hb⟩
theorem Hb.drew (h:Hb w0 w g t A c):Hb w0 w.drew g t A c:=h.below (Below.drew (Below.refl _ _))
theorem Hb.a0 (h:Hb w0 w g t A c):w.cell? ⟨g,0,none⟩=some (.int .i64 t.rt):=(zC h.tb 0).trans rfl
theorem Hb.a1 (h:Hb w0 w g t A c):w.cell? ⟨g,1,none⟩=some (.slice A t.ns.length c):=(zC h.tb 1).trans rfl
theorem Hb.start (h:kn.C w A t.ns.length t.ns):Hb w (w.alloc (.cells #[.int .i64 t.rt,.slice A t.ns.length c] 27)) w.heap.size t A c:=
 ⟨zQ _ _,zB (Below.refl _ _) _,Kd.zU h (zB (Below.refl _ _) _)⟩
end
end Go.Proofs.YtnkhnnojdlgfjaaGreatDoor.Tm
end
section
namespace Go.Proofs.YtnkhnnojdlgfjaaGreatDoor.Tm
open RowKit Tr Tk PA PB PC
variable {w : World} {t : St}
def mOf (l:List Nat):Nat→Bool:=fun z=>decide (z∈l)
theorem mOf_snoc (l:List Nat) (x:Nat):mOf (l++[x])=setM (mOf l) x:=by
 funext z
 unfold mOf setM;by_cases h1:z∈l<;>by_cases h2:z=x<;>simp[h1,h2]
theorem mOf_iz {l:List Nat}{x:Int}(h0:0≤x):decide (x∈iz l)=mOf l x.toNat:=by
 unfold mOf iz;rw[decide_eq_decide,List.mem_map];constructor
 ·rintro⟨z,hz,rfl⟩;rw[Int.toNat_natCast];exact hz
 ·intro h;exact⟨x.toNat,h,by omega⟩
theorem WRes.shift {x u:Int}{M M':Nat→Bool}{L:List Int}{r:Bool}(P:List Int) (h:WRes t x u M [] r M' L):WRes t x u M P r M' (P++L):=by
 refine⟨fun e=>?_,h.no⟩;obtain⟨a,h1,h2,h3,h4,h5,h6⟩:=h.yes e;exact⟨a,h1,h2,h3,h4,by rw[h5];rfl,h6⟩
theorem rin_iz {w:World}(A:Option Addr) (c:Nat) (Ms:List Nat) (hr:(Kd.int .i64).C w A Ms.length (iz Ms)) (hl:Ms.length≤1000000) (x:Int) :
  Calls Tryz.prog 150 #[.slice A Ms.length c,.int .i64 x] w fun e w'=>e=.returned (.bool (decide (x∈iz Ms)))∧w'=w:=by
 have h:=rin_ (w:=w) A c (iz Ms) (by rw[wJ];exact hr) (by rw[wJ];exact hl) x;rw[wJ]at h;exact h
structure vK (w:World) (t:St) (Ms:List Nat) (x u:Int) (e:Ending) (w':World):Prop where mk::
 o:∃(A1:Option Addr) (c1:Nat) (A2:Option Addr) (c2:Nat) (L:List Int) (Ms':List Nat) (r:Bool),e=.returned (.tuple #[.slice A1 L.length c1,.slice A2 Ms'.length c2,.bool r])∧(Kd.int .i64).C w' A1 L.length L∧(Kd.int .i64).C w' A2 Ms'.length (iz Ms')∧Ms'.Nodup∧(∀z∈Ms',z<t.ns.length)∧L.length+Ms.length≤Ms'.length∧WRes t x u (mOf Ms) [] r (mOf Ms') L∧Below w.heap.size w w'
theorem vK.ways {w w':World}{Ms:List Nat}{x u:Int}{A:Option Addr}{c:Nat}{r:Bool}(hb:Below w.heap.size w w') (hm:(Kd.int .i64).C w A Ms.length (iz Ms)) (hn:Ms.Nodup) (hl:∀z∈Ms,z<t.ns.length) (h:WRes t x u (mOf Ms) [] r (mOf Ms) []) :
  vK w t Ms x u (.returned (.tuple #[.slice none 0 0,.slice A Ms.length c,.bool r])) w':=
 ⟨none,0,A,c,[],Ms,r,rfl,⟨rfl,by simp,fun h=>absurd h (by simp)⟩,Kd.zU hm hb,hn,hl,by simp,h,hb⟩
theorem zaG {Ms:List Nat}{x:Nat}(hn:Ms.Nodup) (hx:x∉Ms):(Ms++[x]).Nodup:=by
 rw[List.nodup_append];exact⟨hn,by simp,fun a ha b hb=>by rw[List.mem_singleton.1 hb];exact fun e=>hx (e ▸ ha)⟩
theorem rgather_:∀(k:Nat) (w:World) (A:Option Addr) (c:Nat) (x u:Int) (Ms:List Nat) (AM:Option Addr) (cM:Nat),t.ns.length≤Ms.length+k→kn.C w A t.ns.length t.ns→t.ns.length≤1000000→(Kd.int .i64).C w AM Ms.length (iz Ms)→Ms.Nodup→(∀z∈Ms,z<t.ns.length)→
  Calls Tryz.prog 139 #[.agg #[.int .i64 t.rt,.slice A t.ns.length c],.int .i64 x,.int .i64 u,.slice AM Ms.length cM] w fun e w'=>vK w t Ms x u e w':=by
 intro k
 induction k with
 | zero=>
  intro w A c x u Ms AM cM hk hr hl hm hmn hml;have HK:=Z hk;have HL:=Z hl;have HM:=Z hm;have HMN:=Z hmn;have HML:=Z hml;have SB:=Z (Hb.start (c:=c) hr);have HB0:=Z (zB (Below.refl w.heap.size w) (.cells #[.int .i64 t.rt,.slice A t.ns.length c] 27));clear hr hm hmn hml hk;go_enter Tryz.func139,Tryz.ntmps139;go_upto_region 1 with(fail);generalize w.alloc (.cells #[.int .i64 t.rt,.slice A t.ns.length c] 27)=W1 at SB HB0⊢;have a0:=SB.o.a0;have a1:=SB.o.a1;have HMC:=Z (Kd.zU HM.o HB0.o);by_cases hx1:x=-1
  ·subst hx1;go_wp2
   go_ret3
   exact vK.ways SB.o.bb HM.o HMN.o HML.o (WRes.nil _ _ _ _)
  have q1:(x==-1)=false:=by simpa using hx1
  have HX:=Z hx1;clear hx1;by_cases h0:x<0
  ·have HO:=Z h0;go_wp2
   go_ret3
   exact vK.ways SB.o.bb HM.o HMN.o HML.o (WRes.off HX.o (Or.inl HO.o))
  have h1:decide (x<0)=false:=decide_eq_false h0;have h2:0≤x:=by omega
  clear h0;by_cases h3:(t.ns.length:Int)≤x
  ·have HO:=Z h3;go_wp2
   go_ret3
   exact vK.ways SB.o.bb HM.o HMN.o HML.o (WRes.off HX.o (Or.inr (Or.inl HO.o)))
  have h4:x<(t.ns.length:Int):=by omega
  have h5:decide ((t.ns.length:Int)≤x)=false:=decide_eq_false h3;have H2:=Z h2;have H4:=Z h4;clear h3;have HMLE:=Z (xC HMN.o HML.o);cases hin:mOf Ms x.toNat with
  | true=>
   have HIN:=Z hin;go_wp2_with (go_at_call 150;(with_reducible refine(rin_iz AM cM Ms HMC.o (by have:=HMLE.o;have:=HL.o;omega) x).mono ?_);rintro e wq ⟨rfl,rfl⟩;rw[mOf_iz H2.o,HIN.o])
   go_ret3
   exact vK.ways SB.o.bb HM.o HMN.o HML.o (WRes.off HX.o (Or.inr (Or.inr (Or.inl HIN.o))))
  | false=>
  have HIN:=Z hin;clear hin;obtain⟨ad,rfl,d0,d1,d2,d3,d4,d5⟩:=zbs SB.o.rd x h2 h4;go_upto_region 6 with(go_at_call 150;(with_reducible refine(rin_iz AM cM Ms HMC.o (by have:=HMLE.o;have:=HL.o;omega) x).mono ?_);rintro e wq ⟨rfl,rfl⟩;rw[mOf_iz H2.o,HIN.o]);have NB:zA (Nb w (wq.alloc (.cells #[.bool (gn t x.toNat).inn,.bool (redA t x),.int .u64 (gn t x.toNat).v,.int .i64 (kidA t x false),.int .i64 (kidA t x true),.int .i64 (upA t x)] 72)) w.heap.size wq.heap.size t (some ad) c ⟨(gn t x.toNat).inn,redA t x,(gn t x.toNat).v,kidA t x false,kidA t x true,upA t x⟩):=⟨⟨zH SB.o.tb (zB (Below.refl _ _) _),zQ _ _,zD SB.o.bb (zB (Below.refl _ _) _),Kd.zU SB.o.rd (zB (Below.refl _ _) _)⟩⟩;clear a0 a1 d0 d1 d2 d3 d4 d5 HMC HB0 SB;generalize wq.alloc (.cells #[.bool (gn t x.toNat).inn,.bool (redA t x),.int .u64 (gn t x.toNat).v,.int .i64 (kidA t x false),.int .i64 (kidA t x true),.int .i64 (upA t x)] 72)=W2 at NB⊢;generalize wq.heap.size=kb at NB⊢;have b0:=NB.o.b0;have b5:=NB.o.b5;simp only at b0 b5;cases hi:(gn t x.toNat).inn with
  | false=>
   have HI:=Z hi;rw[hi]at b0;clear hi;go_wp2
   go_ret3
   exact vK.ways NB.o.bb HM.o HMN.o HML.o (WRes.off HX.o (Or.inr (Or.inr (Or.inr (Or.inl HI.o)))))
  | true=>
  have HI:=Z hi;rw[hi]at b0;clear hi;by_cases hu:upA t x=u;rotate_left
  ·have HU:=Z hu;obtain⟨y,hy⟩:∃y,y=upA t x:=⟨_,rfl⟩;rw[←hy]at b5;have hq:(y != u)=true:=by rw[hy];simpa using hu
   clear hu hy;go_wp2
   go_ret3
   exact vK.ways NB.o.bb HM.o HMN.o HML.o (WRes.off HX.o (Or.inr (Or.inr (Or.inr (Or.inr HU.o)))))
  have HU:=Z hu;rw[hu]at b5;have hq:(u != u)=false:=by simp
  clear hu;have HLT:=Z (show Ms.length+1≤t.ns.length by
   have h:=xC (n:=t.ns.length) (zaG HMN.o (x:=x.toNat) (by intro h;have:=HIN.o;unfold mOf at this;rw[decide_eq_true h]at this;cases this)) (fun z hz=>by
    rcases List.mem_append.1 hz with h|h
    ·exact HML.o z h
    ·rw[List.mem_singleton.1 h];omega)
   rw[List.length_append]at h;exact h)
  exfalso;have:=HK.o;have:=HLT.o;omega
 | succ k ih=>
  intro w A c x u Ms AM cM hk hr hl hm hmn hml;have HK:=Z hk;have HL:=Z hl;have HM:=Z hm;have HMN:=Z hmn;have HML:=Z hml;have SB:=Z (Hb.start (c:=c) hr);have HB0:=Z (zB (Below.refl w.heap.size w) (.cells #[.int .i64 t.rt,.slice A t.ns.length c] 27));have IH:=Z ih;clear ih;clear hr hm hmn hml hk;go_enter Tryz.func139,Tryz.ntmps139;go_upto_region 1 with(fail);generalize w.alloc (.cells #[.int .i64 t.rt,.slice A t.ns.length c] 27)=W1 at SB HB0⊢;have a0:=SB.o.a0;have a1:=SB.o.a1;have HMC:=Z (Kd.zU HM.o HB0.o);by_cases hx1:x=-1
  ·subst hx1;go_wp2
   go_ret3
   exact vK.ways SB.o.bb HM.o HMN.o HML.o (WRes.nil _ _ _ _)
  have q1:(x==-1)=false:=by simpa using hx1
  have HX:=Z hx1;clear hx1;by_cases h0:x<0
  ·have HO:=Z h0;go_wp2
   go_ret3
   exact vK.ways SB.o.bb HM.o HMN.o HML.o (WRes.off HX.o (Or.inl HO.o))
  have h1:decide (x<0)=false:=decide_eq_false h0;have h2:0≤x:=by omega
  clear h0;by_cases h3:(t.ns.length:Int)≤x
  ·have HO:=Z h3;go_wp2
   go_ret3
   exact vK.ways SB.o.bb HM.o HMN.o HML.o (WRes.off HX.o (Or.inr (Or.inl HO.o)))
  have h4:x<(t.ns.length:Int):=by omega
  have h5:decide ((t.ns.length:Int)≤x)=false:=decide_eq_false h3;have H2:=Z h2;have H4:=Z h4;clear h3;have HMLE:=Z (xC HMN.o HML.o);cases hin:mOf Ms x.toNat with
  | true=>
   have HIN:=Z hin;go_wp2_with (go_at_call 150;(with_reducible refine(rin_iz AM cM Ms HMC.o (by have:=HMLE.o;have:=HL.o;omega) x).mono ?_);rintro e wq ⟨rfl,rfl⟩;rw[mOf_iz H2.o,HIN.o])
   go_ret3
   exact vK.ways SB.o.bb HM.o HMN.o HML.o (WRes.off HX.o (Or.inr (Or.inr (Or.inl HIN.o))))
  | false=>
  have HIN:=Z hin;clear hin;obtain⟨ad,rfl,d0,d1,d2,d3,d4,d5⟩:=zbs SB.o.rd x h2 h4;go_upto_region 6 with(go_at_call 150;(with_reducible refine(rin_iz AM cM Ms HMC.o (by have:=HMLE.o;have:=HL.o;omega) x).mono ?_);rintro e wq ⟨rfl,rfl⟩;rw[mOf_iz H2.o,HIN.o]);have NB:zA (Nb w (wq.alloc (.cells #[.bool (gn t x.toNat).inn,.bool (redA t x),.int .u64 (gn t x.toNat).v,.int .i64 (kidA t x false),.int .i64 (kidA t x true),.int .i64 (upA t x)] 72)) w.heap.size wq.heap.size t (some ad) c ⟨(gn t x.toNat).inn,redA t x,(gn t x.toNat).v,kidA t x false,kidA t x true,upA t x⟩):=⟨⟨zH SB.o.tb (zB (Below.refl _ _) _),zQ _ _,zD SB.o.bb (zB (Below.refl _ _) _),Kd.zU SB.o.rd (zB (Below.refl _ _) _)⟩⟩;clear a0 a1 d0 d1 d2 d3 d4 d5 HMC HB0 SB;generalize wq.alloc (.cells #[.bool (gn t x.toNat).inn,.bool (redA t x),.int .u64 (gn t x.toNat).v,.int .i64 (kidA t x false),.int .i64 (kidA t x true),.int .i64 (upA t x)] 72)=W2 at NB⊢;generalize wq.heap.size=kb at NB⊢;have b0:=NB.o.b0;have b5:=NB.o.b5;simp only at b0 b5;cases hi:(gn t x.toNat).inn with
  | false=>
   have HI:=Z hi;rw[hi]at b0;clear hi;go_wp2
   go_ret3
   exact vK.ways NB.o.bb HM.o HMN.o HML.o (WRes.off HX.o (Or.inr (Or.inr (Or.inr (Or.inl HI.o)))))
  | true=>
  have HI:=Z hi;rw[hi]at b0;clear hi;by_cases hu:upA t x=u;rotate_left
  ·have HU:=Z hu;obtain⟨y,hy⟩:∃y,y=upA t x:=⟨_,rfl⟩;rw[←hy]at b5;have hq:(y != u)=true:=by rw[hy];simpa using hu
   clear hu hy;go_wp2
   go_ret3
   exact vK.ways NB.o.bb HM.o HMN.o HML.o (WRes.off HX.o (Or.inr (Or.inr (Or.inr (Or.inr HU.o)))))
  have HU:=Z hu;rw[hu]at b5;have hq:(u != u)=false:=by simp
  clear hu;have HLT:=Z (show Ms.length+1≤t.ns.length by
   have h:=xC (n:=t.ns.length) (zaG HMN.o (x:=x.toNat) (by intro h;have:=HIN.o;unfold mOf at this;rw[decide_eq_true h]at this;cases this)) (fun z hz=>by
    rcases List.mem_append.1 hz with h|h
    ·exact HML.o z h
    ·rw[List.mem_singleton.1 h];omega)
   rw[List.length_append]at h;exact h)
  have HMX:=Z (zaG HMN.o (x:=x.toNat) (by intro h;have:=HIN.o;unfold mOf at this;rw[decide_eq_true h]at this;cases this));have HMLX:=Z (show ∀z∈Ms++[x.toNat],z<t.ns.length from fun z hz=>by
   rcases List.mem_append.1 hz with h|h
   ·exact HML.o z h
   ·rw[List.mem_singleton.1 h];omega)
  have HLX:=Z (show(Ms++[x.toNat]).length=Ms.length+1 by simp);have HIZ:=Z (show iz Ms++[x]=iz (Ms++[x.toNat])by unfold iz;rw[List.map_append];show _=_++[((x.toNat:Nat):Int)];rw[show((x.toNat:Nat):Int)=x by omega]);go_upto_region 8 with(fail);refine qK (n:=17) (S:=fun w'=>w'.cell? ⟨w.heap.size,0,none⟩=some (.int .i64 t.rt)∧w'.cell? ⟨w.heap.size,1,none⟩=some (.slice (some ad) t.ns.length c)∧w'.cell? ⟨kb,3,none⟩=some (.int .i64 (kidA t x false))) (ds:=[]) #[false,false,false,false,false,false,false,false,false,false,false,false,false,false,false,false,false] (by kernel_rfl) rfl rfl ⟨NB.o.drew.a0,NB.o.drew.a1,NB.o.drew.b3⟩ (fun hHeld=>?_);replace NB:=Z NB.o.drew;clear b0 b5 hq;generalize World.drew _=V0 at NB hHeld⊢;refine pu_ 1 53 ?_;refine pu_ 3 55 ?_;refine pu_ 4 56 ?_;refine pu_ 6 58 ?_;refine ld_ 0 52 hHeld ?_;refine ld_ 2 54 hHeld ?_;have HMV:=Z (Kd.zU HM.o NB.o.bb);refine join_ (σ:=Value × Value) 9 #[true,true,true,true,true,true,true,true,false,false,false,false,false,false,false,false,false] (fun s_=>[(57,s_.1),(59,s_.2)]) (fun s_ w'=>Nb w w' w.heap.size kb t (some ad) c ⟨(gn t x.toNat).inn,redA t x,(gn t x.toNat).v,kidA t x false,kidA t x true,upA t x⟩∧Below V0.heap.size V0 w'∧Kd.R (Kd.int .i64) 3 w' V0.heap.size (fun k=>some k≠(s_.2:Value).ownBlock) s_.1 (iz Ms)∧Kd.R (Kd.int .i64) 3 w' V0.heap.size (fun _=>True) s_.2 [x]) (fun s_ w' hF=>?_) (fun hCont=>?_);rotate_left
  ·refine two_ (i:=5) (j:=7) (Ni:=some 57) (Nj:=some 59) #[true,true,true,true,true,true,true,false,false,false,false,false,false,false,false,false,false] #[true,true,true,true,true,false,true,true,false,false,false,false,false,false,false,false,false] rfl rfl rfl rfl (by kernel_rfl) (by decide) (by decide) (fun K hK=>?_) (fun K hK=>?_)
   ·skip
    refine Kd.xI (Kd.int .i64) (Rr:=(Kd.int .i64).K V0) (w0:=V0) V0.heap.size (by rfl) (.const (.slice none 0 0)) (.tmp 56) 28 3 (.int .i64 0) 8 rfl Tryz.underlying28 infoI rfl (by decide) (by omega) (.slice none 0 0) ([]:List Int) (iz Ms) AM Ms.length cM (fun _=>True) (fun _=>False) rfl rfl (Kd.jT _ _ _ _ _) HMV.o (fun _ _ h=>h) (fun _ h=>h.elim) (fun _ _=>trivial) (Below.refl _ _) (Nat.le_refl _) (by have:=HMLE.o;have:=HL.o;simp;omega) ?_;intro v1 w1 hR1 hB1 hg1 _;have N1:=NB.o.below hB1;refine hK.out _ _ ⟨N1.a0,N1.a1,N1.b3⟩ (fun hHeld=>?_);clear hK K;refine xG (a':=?_) ?_ ?_;rotate_left
    ·(show Act.put _ (some 57) _=_;(simp only[Act.put,List.setIfInBounds_toArray,List.set_cons_zero,List.set_cons_succ,yO,yP];rfl))
    refine one_ (i:=7) (N:=some 59) #[true,true,true,true,true,true,true,true,false,false,false,false,false,false,false,false,false] rfl rfl (by kernel_rfl) (by decide) (fun K hK=>?_);refine Kd.jR (Kd.int .i64) (w0:=V0) V0.heap.size 3 ?hg (N:=59) ?hd (xs:=([x]:List Int)) (inner:=[.int .i64 x]) (ok:=fun _=>True) (okp:=fun _=>True) ?hr ?hp (fun _ hk=>hk) trivial hB1 hB1.size (by simp) ?_;(case hd=>rfl);(case hg=>rfl);(case hr=>first|(go_simp;done)|(go_simp;rfl));(case hp=>exact(Reps.one (show Kd.M (Kd.int .i64) _ _ _ x [.int .i64 x]from rfl) (Reps.none _ _)))
    intro v2 w2 hR2 hB2 hg2 hn2;have N2:=NB.o.below hB2;refine hK.out _ _ ⟨N2.a0,N2.a1,N2.b3⟩ (fun hHeld=>?_);clear hK K;refine xG (a':=?_) ?_ ?_;rotate_left
    ·(show Act.put _ (some 59) _=_;(simp only[Act.put,List.setIfInBounds_toArray,List.set_cons_zero,List.set_cons_succ,yO,yP];rfl))
    obtain⟨b2,e2,l2⟩:=hn2;have hlt:=Kd.R_lt hR1;exact xG (by simp only[wY,Act.put,List.setIfInBounds_toArray,List.set_cons_zero,List.set_cons_succ]) (hCont (v1,v2) _ ⟨N2,hB2,Kd.zbg rfl (Kd.zcR hR1 hg2 (fun _ _ h=>by cases h)) (fun k hk he=>by have:=hlt k hk;rw[show(v2:Value).ownBlock=some b2 from e2]at he;have:=Option.some.inj he;omega),hR2⟩)
   ·skip
    refine Kd.jR (Kd.int .i64) (w0:=V0) V0.heap.size 3 ?hg (N:=59) ?hd (xs:=([x]:List Int)) (inner:=[.int .i64 x]) (ok:=fun _=>True) (okp:=fun _=>True) ?hr ?hp (fun _ hk=>hk) trivial (Below.refl _ _) (Nat.le_refl _) (by simp) ?_;(case hd=>rfl);(case hg=>rfl);(case hr=>first|(go_simp;done)|(go_simp;rfl));(case hp=>exact(Reps.one (show Kd.M (Kd.int .i64) _ _ _ x [.int .i64 x]from rfl) (Reps.none _ _)))
    intro v2 w1 hR2 hB1 hg1 hn2;have N1:=NB.o.below hB1;refine hK.out _ _ ⟨N1.a0,N1.a1,N1.b3⟩ (fun hHeld=>?_);clear hK K;refine xG (a':=?_) ?_ ?_;rotate_left
    ·(show Act.put _ (some 59) _=_;(simp only[Act.put,List.setIfInBounds_toArray,List.set_cons_zero,List.set_cons_succ,yO,yP];rfl))
    refine one_ (i:=5) (N:=some 57) #[true,true,true,true,true,true,true,true,false,false,false,false,false,false,false,false,false] rfl rfl (by kernel_rfl) (by decide) (fun K hK=>?_);refine Kd.xI (Kd.int .i64) (Rr:=(Kd.int .i64).K w1) (w0:=V0) V0.heap.size (by rfl) (.const (.slice none 0 0)) (.tmp 56) 28 3 (.int .i64 0) 8 rfl Tryz.underlying28 infoI rfl (by decide) (by omega) (.slice none 0 0) ([]:List Int) (iz Ms) AM Ms.length cM (fun _=>True) (fun _=>False) rfl rfl (Kd.jT _ _ _ _ _) (Kd.zU HMV.o hB1) (fun _ _ h=>h) (fun _ h=>h.elim) (fun _ _=>trivial) hB1 hB1.size (by have:=HMLE.o;have:=HL.o;simp;omega) ?_;intro v1 w2 hR1 hB2 hg2 hat;have N2:=NB.o.below hB2;refine hK.out _ _ ⟨N2.a0,N2.a1,N2.b3⟩ (fun hHeld=>?_);clear hK K;refine xG (a':=?_) ?_ ?_;rotate_left
    ·(show Act.put _ (some 57) _=_;(simp only[Act.put,List.setIfInBounds_toArray,List.set_cons_zero,List.set_cons_succ,yO,yP];rfl))
    obtain⟨b2,e2,l2⟩:=hn2;have hlt:=Kd.R_lt hR2;exact xG (by simp only[wY,Act.put,List.setIfInBounds_toArray,List.set_cons_zero,List.set_cons_succ]) (hCont (v1,v2) _ ⟨N2,hB2,Kd.zbg rfl hR1 (fun k hk he=>by
     have h1:=hlt k he.symm;rcases hat with h|⟨b,h,hb⟩
     ·rw[hk]at h;simp[Value.ownBlock]at h
     ·rw[hk]at h;have:=Option.some.inj h;omega),Kd.zcR hR2 hg2 (fun _ _ h=>by simp[Value.ownBlock]at h)⟩)
  obtain⟨s1,s2⟩:=s_;obtain⟨hN,hBV,hR1,hR2⟩:=hF;simp only at hN hBV hR1 hR2;obtain⟨A9,c9,rfl,hl9,hC9⟩:=Kd.yE hR2;have NV:=hN;refine xG (a':=?_) ?_ ?_;rotate_left
  ·(simp only[wY,Act.put,List.setIfInBounds_toArray,List.set_cons_zero,List.set_cons_succ];rfl)
  refine one_ (i:=8) (N:=some 60) #[true,true,true,true,true,true,true,true,true,false,false,false,false,false,false,false,false] rfl rfl (by kernel_rfl) (by decide) (fun K hK=>?_);refine Kd.xI (Kd.int .i64) (Rr:=(Kd.int .i64).K w') (w0:=V0) V0.heap.size (by rfl) (.tmp 57) (.tmp 59) 28 3 (.int .i64 0) 8 rfl Tryz.underlying28 infoI rfl (by decide) (by omega) s1 (iz Ms) [x] A9 1 c9 (fun k=>some k≠(.slice A9 1 c9:Value).ownBlock) (fun _=>False) rfl rfl hR1 hC9 (fun _ _ h=>h) (fun _ h=>h.elim) (fun k hk he=>by have:=Kd.R_lt hR2 k he.symm;omega) hBV hBV.size (by rw[wJ];have:=HMLE.o;have:=HL.o;omega) ?_;intro v3 w3 hR3 hB3 _ _;rw[HIZ.o]at hR3;replace NB:=Z (NB.o.below hB3);obtain⟨A3,c3,rfl,hl3,hC3⟩:=Kd.yE hR3;rw[wJ]at hC3;have HC3:=Z hC3;refine hK.out _ _ ⟨NB.o.a0,NB.o.a1,NB.o.b3⟩ (fun hHeld=>?_);clear hK K;refine xG (a':=?_) ?_ ?_;rotate_left
  ·(show Act.put _ (some 60) _=_;(simp only[Act.put,List.setIfInBounds_toArray,List.set_cons_zero,List.set_cons_succ,yO,yP];rfl))
  clear hN hBV hR1 hR2 hC9 hl9 hR3 hB3 hl3 hC3 NV HMV;refine one_ (i:=9) (N:=some 61) #[true,true,true,true,true,true,true,true,true,true,false,false,false,false,false,false,false] rfl rfl (by kernel_rfl) (by decide) (fun K hK=>?_);rw[wJ];refine qY Tryz.func139 (by kernel_rfl) rfl #[.agg #[.int .i64 t.rt,.slice (some ad) t.ns.length c],.int .i64 (kidA t x false),.int .i64 x,.slice A3 (Ms++[x.toNat]).length c3] (by rfl) rfl rfl (by(try simp only[List.map_toArray,List.map_cons,List.map_nil]);first|done|rfl) ?_
  with_reducible refine(IH.o _ (some ad) c (kidA t x false) x (Ms++[x.toNat]) A3 c3 (by rw[HLX.o];have:=HK.o;omega) NB.o.rd HL.o HC3.o HMX.o HMLX.o).mono ?_
  rintro e w4 ⟨B1,e1,B2,e2,Lf,M1,r1,rfl,hL1,hM1,hn1,hl1,hs1,hW1,hB⟩;refine⟨_,rfl,?_⟩;replace NB:=Z (NB.o.below hB);have HL1:=Z hL1;have HM1:=Z hM1;have HN1:=Z hn1;have HQ1:=Z hl1;have HS1:=Z hs1;have HW1:=Z hW1;have HC4:=Z HC3.o;clear hL1 hM1 hn1 hl1 hs1 hW1 hB HC3 HC4;refine hK.out _ _ ⟨NB.o.a0,NB.o.a1,NB.o.b3⟩ (fun hHeld=>?_);clear hK K;refine xG (a':=?_) ?_ ?_;rotate_left
  ·(show Act.put _ (some 61) _=_;(simp only[Act.put,List.setIfInBounds_toArray,List.set_cons_zero,List.set_cons_succ,yO,yP];rfl))
  refine pu_ 10 51 ?_;refine pu_ 11 62 ?_;refine pu_ 12 63 ?_;refine pu_ 13 64 ?_;refine pu_ 14 12 ?_;refine pu_ 15 13 ?_;refine pu_ 16 14 ?_;refine qG (by kernel_rfl) ?_;clear hHeld;go_upto_region 9 with(fail);cases r1 with
  | false=>
   go_wp2
   go_ret3
   exact⟨none,0,B2,e2,[],M1,false,rfl,⟨rfl,by simp,fun h=>absurd h (by simp)⟩,HM1.o,HN1.o,HQ1.o,by have:=HS1.o;rw[HLX.o]at this;simp;omega,(by have h:=HW1.o;rw[mOf_snoc]at h;exact⟨(fun h=>by cases h),(WRes.noL HX.o h).no⟩),NB.o.bb⟩
  | true=>
  have a0:=NB.o.a0;have a1:=NB.o.a1;have b4:=NB.o.b4;simp only at b4;have HLE1:=Z (xC HN1.o HQ1.o);go_upto_region 12 with(go_at_call 139;with_reducible refine(IH.o _ (some ad) c (kidA t x true) x M1 B2 e2 (by have:=HS1.o;rw[HLX.o]at this;have:=HK.o;omega) NB.o.rd HL.o HM1.o HN1.o HQ1.o).mono ?_;rintro e w5 ⟨C1,f1,C2,f2,Lr,M2,r2,rfl,hL2,hM2,hn2,hl2,hs2,hW2,hB⟩;replace NB:=Z (NB.o.below hB);have HL1':=Z (Kd.zU HL1.o hB);have HL2:=Z hL2;have HM2:=Z hM2;have HN2:=Z hn2;have HQ2:=Z hl2;have HS2:=Z hs2;have HW2:=Z hW2;clear hL2 hM2 hn2 hl2 hs2 hW2 hB);have HLE2:=Z (xC HN2.o HQ2.o);clear a0 a1 b4;have HB5:=Z (Below.refl w5.heap.size w5);go_wp2_with (first|(at_builtin;refine Kd.qL (Kd.int .i64) (Rr:=(Kd.int .i64).K w5) (w0:=w5) w5.heap.size rfl (.const (.slice none 0 0)) (.tmp 78) 28 3 (.int .i64 0) 8 rfl Tryz.underlying28 infoI rfl (by decide) (by omega) (.slice none 0 0) ([]:List Int) Lf B1 Lf.length e1 (fun _=>True) (fun _=>False) rfl rfl (Kd.jT _ _ _ _ _) HL1'.o (fun _ _ h=>h) (fun _ h=>h.elim) (fun _ _=>trivial) (Below.refl _ _) (Nat.le_refl _) (by have:=HS1.o;have:=HLE1.o;have:=HL.o;rw[HLX.o]at *;simp;omega) ?_;intro v1 w6 hR6 hB6 _ _;have HR6:=Z hR6;have HB6:=Z hB6;clear hR6 hB6)|(at_builtin;refine Kd.kE (Kd.int .i64) (w0:=w5) w5.heap.size rfl (.tmp 79) (.tmp 81) 28 3 (.int .i64 0) 8 rfl Tryz.underlying28 infoI rfl (by decide) (by omega) _ ([]++Lf) x [.int .i64 x] (fun _=>True) (fun _=>False) rfl rfl (show Kd.M (Kd.int .i64) _ _ _ x [.int .i64 x]from rfl) (fun _ hk=>hk.elim) (fun _ _=>trivial) HR6.o HB6.o HB6.o.size (by have:=HS1.o;have:=HLE1.o;have:=HL.o;rw[HLX.o]at *;simp;omega) ?_;intro v2 w7 hR7 hB7 _ _;have HR7:=Z hR7;have HB7:=Z hB7;clear hR7 hB7)|(at_builtin;refine Kd.qL (Kd.int .i64) (Rr:=(Kd.int .i64).K w7) (w0:=w5) w5.heap.size rfl (.tmp 82) (.tmp 83) 28 3 (.int .i64 0) 8 rfl Tryz.underlying28 infoI rfl (by decide) (by omega) _ (([]++Lf)++[x]) Lr C1 Lr.length f1 (fun _=>True) (fun _=>False) rfl rfl HR7.o (Kd.zU HL2.o HB7.o) (fun _ _ h=>h) (fun _ h=>h.elim) (fun _ _=>trivial) HB7.o HB7.o.size (by have:=HS1.o;have:=HS2.o;have:=HLE2.o;have:=HL.o;rw[HLX.o]at *;simp;omega) ?_;intro v3 w8 hR8 hB8 _ _;have HR8:=Z hR8;have HB8:=Z hB8;clear hR8 hB8))
  go_ret3
  obtain⟨D1,g1,hv3,hl3,hC3⟩:=Kd.yE HR8.o;subst hv3;refine⟨D1,g1,C2,f2,_,M2,r2,rfl,hC3,Kd.zU HM2.o HB8.o,HN2.o,HQ2.o,?_,?_,zD NB.o.bb HB8.o⟩
  ·have h1:=HS1.o;have h2:=HS2.o;rw[HLX.o]at h1;simp only[List.nil_append,List.length_append,List.length_cons,List.length_nil];omega
  ·have h1:=HW1.o;rw[mOf_snoc]at h1;exact WRes.both H2.o H4.o HIN.o HI.o HU.o h1 (HW2.o.shift (Lf++[x]))
end Go.Proofs.YtnkhnnojdlgfjaaGreatDoor.Tm
end
