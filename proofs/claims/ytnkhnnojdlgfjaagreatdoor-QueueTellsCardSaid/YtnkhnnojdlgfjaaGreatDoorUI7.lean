/- Parts of the proof, joined: Tm6, WEqStruct, Tm7. -/
import Derived.Test.YtnkhnnojdlgfjaaGreatDoorUI6
import Derived.Laws.StructEq
import Derived.Deep.OwnRows
set_option linter.unusedVariables false
set_option linter.unusedSimpArgs false
set_option maxHeartbeats 32000000
set_option maxRecDepth 100000
section
namespace Go.Proofs.YtnkhnnojdlgfjaaGreatDoor.Tm
open RowKit Tr PA PB PC
theorem Lay.uniq {t:St}:∀{a b:T}{u v:Option Int},Lay t a u→Lay t b v→a.rt=b.rt→a=b
 | .E,.E,_,_,_,_,_=>rfl
 | .E,.B c l x r,_,_,_,_,e=>by
  have e:(-1:Int)=(x:Int):=e;omega
 | .B c l x r,.E,_,_,_,_,e=>by
  have e:(x:Int)=(-1:Int):=e;omega
 | .B c l x r,.B c' l' x' r',_,_,⟨h1,h2,h3,h4,h5,h6,h7,h8⟩,⟨k1,k2,k3,k4,k5,k6,k7,k8⟩,e=>by
  have e:(x:Int)=(x':Int):=e;have e2:x=x':=by omega
  subst e2;rw[Lay.uniq h7 k7 (h4.symm.trans k4),Lay.uniq h8 k8 (h5.symm.trans k5),←h3,←k3]
def setM (M:Nat→Bool) (x:Nat):Nat→Bool:=fun z=>decide (z=x) || M z
def unM (M:Nat→Bool) (l:List Nat):Nat→Bool:=fun z=>decide (z∈l) || M z
def iz (l:List Nat):List Int:=l.map fun z:Nat=>(z:Int)
def Found (t:St) (x u:Int) (M:Nat→Bool):Prop:=∃a,Lay t a (some u)∧a.rt=x∧a.ids.Nodup∧∀z∈a.ids,M z=false
structure WRes (t:St) (x u:Int) (M:Nat→Bool) (L:List Int) (r:Bool) (M':Nat→Bool) (L':List Int):Prop where
 yes:r=true→∃a,Lay t a (some u)∧a.rt=x∧a.ids.Nodup∧(∀z∈a.ids,M z=false)∧L'=L++iz a.ids∧M'=unM M a.ids
 no:r=false→¬Found t x u M
theorem WRes.nil (t:St) (u:Int) (M:Nat→Bool) (L:List Int):WRes t (-1) u M L true M L:=
 ⟨fun _=>⟨.E,trivial,rfl,List.nodup_nil,(fun z hz=>by cases hz),by simp[iz,T.ids],by funext z;simp[unM,T.ids]⟩,fun h=>by cases h⟩
theorem found_B {t:St}{x u:Int}{M:Nat→Bool}(h:Found t x u M) (hx:x≠-1):∃c l r,0≤x∧Lay t (.B c l x.toNat r) (some u)∧(T.B c l x.toNat r).ids.Nodup∧(∀z∈(T.B c l x.toNat r).ids,M z=false):=by
 obtain⟨a,h1,h2,h3,h4⟩:=h;cases a with
 | E=>exact absurd h2.symm hx
 | B c l y r=>
  have e:(y:Int)=x:=h2;have e2:x.toNat=y:=by omega
  subst e2;exact⟨c,l,r,by omega,h1,h3,h4⟩
theorem WRes.off {t:St}{x u:Int}{M:Nat→Bool}{L:List Int}(hx:x≠-1) (h:x<0∨(t.ns.length:Int)≤x∨M x.toNat=true∨(gn t x.toNat).inn=false∨upA t x≠u):WRes t x u M L false M L:=by
 refine⟨(fun h=>by cases h),fun _ hf=>?_⟩;obtain⟨c,l,r,h0,⟨h1,h2,h3,h4,h5,h6,h7,h8⟩,n1,n2⟩:=found_B hf hx;have hm:=n2 x.toNat (by simp[T.ids]);have hu:=h6 u rfl;rcases h with h|h|h|h|h
 ·omega
 ·omega
 ·rw[hm]at h;cases h
 ·rw[h2]at h;cases h
 ·exact h hu
theorem WRes.noL {t:St}{x u:Int}{M M1:Nat→Bool}{L L1:List Int}(hx:x≠-1) (h:WRes t (kidA t x false) x (setM M x.toNat) L false M1 L1):WRes t x u M L false M1 L1:=by
 refine⟨(fun h=>by cases h),fun _ hf=>h.no rfl ?_⟩;obtain⟨c,l,r,h0,⟨h1,h2,h3,h4,h5,h6,h7,h8⟩,n1,n2⟩:=found_B hf hx;have n3:(l.ids++x.toNat::r.ids).Nodup:=n1;obtain⟨m1,m2,m3⟩:=List.nodup_append.1 n3;refine⟨l,by rw[show((x.toNat:Nat):Int)=x by omega]at h7;exact h7,h4.symm,m1,fun z hz=>?_⟩;have:=n2 z (by simp[T.ids,hz]);have hne:z≠x.toNat:=fun e=>m3 z hz x.toNat List.mem_cons_self e
 simp[setM,this,hne]
theorem WRes.both {t:St}{x u:Int}{M M1 M2:Nat→Bool}{L L1 L2:List Int}{r:Bool}(h0:0≤x) (hx:x<t.ns.length) (hm:M x.toNat=false) (hin:(gn t x.toNat).inn=true) (hu:upA t x=u)
  (h:WRes t (kidA t x false) x (setM M x.toNat) L true M1 L1) (k:WRes t (kidA t x true) x M1 (L1++[x]) r M2 L2):WRes t x u M L r M2 L2:=by
 obtain⟨l,l1,l2,l3,l4,l5,l6⟩:=h.yes rfl;have hxx:((x.toNat:Nat):Int)=x:=by omega
 have hxl:x.toNat∉l.ids:=fun e=>by
  have:=l4 _ e;simp[setM]at this
 refine⟨fun hr=>?_,fun hr hf=>k.no hr ?_⟩
 ·obtain⟨q,q1,q2,q3,q4,q5,q6⟩:=k.yes hr;have hql:∀z∈q.ids,z∉l.ids∧z≠x.toNat∧M z=false:=fun z hz=>by
   have:=q4 z hz;rw[l6]at this
   simpa [unM,setM]using this
  refine⟨.B (gn t x.toNat).red l x.toNat q,⟨by omega,hin,rfl,l2.symm,q2.symm,fun p hp=>by rw[←Option.some.inj hp];exact hu,by rw[hxx];exact l1,by rw[hxx];exact q1⟩,hxx,?_,fun z hz=>?_,?_,?_⟩
  ·show(l.ids++x.toNat::q.ids).Nodup;refine List.nodup_append.2 ⟨l3,List.nodup_cons.2 ⟨fun e=>(hql _ e).2.1 rfl,q3⟩,fun a ha z hz e=>?_⟩;subst e;rcases List.mem_cons.1 hz with h|h
   ·subst h;exact hxl ha
   ·exact(hql _ h).1 ha
  ·have hz:z∈l.ids++x.toNat::q.ids:=hz;rcases List.mem_append.1 hz with h|h
   ·have:=l4 z h;simp[setM]at this;exact this.2
   ·rcases List.mem_cons.1 h with rfl|h
    ·exact hm
    ·exact(hql z h).2.2
  ·rw[q5,l5];show _=L++iz (l.ids++x.toNat::q.ids);simp only[iz,List.map_append,List.map_cons,hxx,List.append_assoc,List.cons_append,List.nil_append]
  ·rw[q6,l6]
   funext z
   show _=(decide (z∈l.ids++x.toNat::q.ids) || M z);simp only[unM,setM,List.mem_append,List.mem_cons];by_cases a1:z∈q.ids<;>by_cases a2:z∈l.ids<;>by_cases a3:z=x.toNat<;>simp[a1,a2,a3]
 ·obtain⟨c,l',q,_,⟨h1,h2,h3,h4,h5,h6,h7,h8⟩,n1,n2⟩:=found_B hf (by omega);have n3:(l'.ids++x.toNat::q.ids).Nodup:=n1;obtain⟨m1,m2,m3⟩:=List.nodup_append.1 n3;have el:l'=l:=Lay.uniq h7 l1 (h4.symm.trans l2.symm);subst el;rw[hxx]at h8;refine⟨q,h8,h5.symm,(List.nodup_cons.1 m2).2,fun z hz=>?_⟩;have a1:z∉l'.ids:=fun e=>m3 z e z (List.mem_cons_of_mem _ hz) rfl
  have a2:z≠x.toNat:=fun e=>by subst e;exact(List.nodup_cons.1 m2).1 hz
  have a3:=n2 z (by simp[T.ids,hz]);rw[l6];simp[unM,setM,a1,a2,a3]
def cntM (M:Nat→Bool) (n:Nat):Nat:=((List.range n).filter fun z=>!M z).length
theorem cnt_set {M:Nat→Bool}{n x:Nat}(hx:x<n) (hm:M x=false):cntM (setM M x) n+1=cntM M n:=by
 unfold cntM
 induction n with
 | zero=>omega
 | succ n ih=>
  rw[List.range_succ,List.filter_append,List.filter_append,List.length_append,List.length_append];by_cases e:x=n;rotate_left
  ·have h2:=ih (by omega);have h3:([n].filter fun z=>!setM M x z).length=([n].filter fun z=>!M z).length:=by
    have:n≠x:=fun h=>e h.symm
    simp[List.filter,setM,this]
   omega
  subst e;have h1:((List.range x).filter fun z=>!setM M x z)=(List.range x).filter fun z=>!M z:=by
   refine List.filter_congr (fun z hz=>?_);have:z≠x:=by have:=List.mem_range.1 hz;omega
   simp[setM,this]
  rw[h1];simp[List.filter,setM,hm]
theorem infoI:(Tryz.prog.info? 3).map (fun i=>(i.zero,i.size,i.bytes))=some (some (.int .i64 0),1,8):=by kernel_rfl
structure Ws (w0 W:World) (m o n:Nat) (M:Nat→Bool) (L:List Int):Prop where mk::
 below:Below w0.heap.size w0 W
 met:∃cs:Array Value,W.heap[m]?=some (.cells cs 4 (0,0))∧∀j,j<n→cs[j]?=some (.bool (M j))
 box:∃v,W.heap[o]?=some (.cells #[v] 28 (0,0))∧(Kd.int .i64).R 3 W w0.heap.size (fun k=>k≠m∧k≠o) v L
 hm:w0.heap.size≤m
 ho:w0.heap.size≤o
 ne:m≠o
section
variable {w0 W W1 : World} {m o n : Nat} {M : Nat → Bool} {L : List Int}
theorem Ws.ltm (h:Ws w0 W m o n M L):m<W.heap.size:=by
 obtain⟨cs,h1,_⟩:=h.met;exact(Array.getElem?_eq_some_iff.1 h1).1
theorem Ws.lto (h:Ws w0 W m o n M L):o<W.heap.size:=by
 obtain⟨v,h1,_⟩:=h.box;exact(Array.getElem?_eq_some_iff.1 h1).1
theorem Ws.metc (h:Ws w0 W m o n M L) (j:Nat) (hj:j<n):W.cell? ⟨m,j,none⟩=some (.bool (M j)):=by
 obtain⟨cs,h1,h2⟩:=h.met;rw[zC h1];exact h2 j hj
theorem Ws.metf (h:Ws w0 W m o n M L) (j:Nat):W.frozen? ⟨m,j,none⟩=false:=by
 obtain⟨cs,h1,h2⟩:=h.met;exact zK h1 j
theorem Ws.step (h:Ws w0 W m o n M L) (hb:Below W.heap.size W W1):Ws w0 W1 m o n M L:=by
 obtain⟨cs,h1,h2⟩:=h.met;obtain⟨v,h3,h4⟩:=h.box;exact⟨zD h.below hb,⟨cs,(hb.block m h.ltm).trans h1,h2⟩,⟨v,(hb.block o h.lto).trans h3,Kd.wC h4 hb⟩,h.hm,h.ho,h.ne⟩
theorem Ws.setMet (h:Ws w0 W m o n M L) (x:Nat) (hx:x<n):Ws w0 (W.setCell ⟨m,x,none⟩ (.bool true)) m o n (setM M x) L:=by
 obtain⟨cs,h1,h2⟩:=h.met;obtain⟨v,h3,h4⟩:=h.box;have hs:x<cs.size:=(Array.getElem?_eq_some_iff.1 (h2 x hx)).1;refine⟨Below.setCell h.below (p:=⟨m,x,none⟩) h.hm _,⟨_,yR h1 x _,fun j hj=>?_⟩,⟨v,?_,Kd.zax h4 (fun k hk _=>Below.heap_setCell _ _ _ _ (by simpa using hk.1))⟩,h.hm,h.ho,h.ne⟩
 ·rw[Array.getElem?_setIfInBounds];by_cases e:x=j
  ·subst e;rw[if_pos rfl,if_pos hs];simp[setM]
  have e2:j≠x:=fun h=>e h.symm
  rw[if_neg e,h2 j hj];simp[setM,e2]
 ·rw[Below.heap_setCell _ _ _ _ (by simpa using fun e:o=m=>h.ne e.symm)];exact h3
end
theorem Ws.same {w0 W W1:World}{m o n:Nat}{M:Nat→Bool}{L:List Int}(h:Ws w0 W m o n M L) {v:Value}(hv:W.heap[o]?=some (.cells #[v] 28 (0,0))) (hR:(Kd.int .i64).R 3 W w0.heap.size (fun k=>k≠m∧k≠o) v L) (hg:W.grownBy W1 v.ownBlock):W1.heap[m]?=W.heap[m]?∧W1.heap[o]?=W.heap[o]?:=
 ⟨hg.block m h.ltm (fun e=>(hR.1 m e.symm).1 rfl),hg.block o h.lto (fun e=>(hR.1 o e.symm).2 rfl)⟩
theorem Ws.appended {w0 W W1:World}{m o n:Nat}{M:Nat→Bool}{L L1:List Int}(h:Ws w0 W m o n M L) {v v1:Value}(hv:W.heap[o]?=some (.cells #[v] 28 (0,0))) (hR:(Kd.int .i64).R 3 W w0.heap.size (fun k=>k≠m∧k≠o) v L) (hg:W.grownBy W1 v.ownBlock) (hb:Below w0.heap.size w0 W1) (hR1:(Kd.int .i64).R 3 W1 w0.heap.size (fun k=>k≠m∧k≠o) v1 L1):Ws w0 (W1.setCell ⟨o,0,none⟩ v1) m o n M L1:=by
 obtain⟨e1,e2⟩:=h.same hv hR hg;obtain⟨cs,h1,h2⟩:=h.met;refine⟨Below.setCell hb (p:=⟨o,0,none⟩) h.ho _,⟨cs,?_,h2⟩,⟨v1,yR (e2.trans hv) 0 v1,Kd.zax hR1 (fun k hk _=>Below.heap_setCell _ _ _ _ (by simpa using hk.2))⟩,h.hm,h.ho,h.ne⟩;rw[Below.heap_setCell _ _ _ _ (by simpa using h.ne)];exact e1.trans h1
structure WPost (w0:World) (t:St) (m o:Nat) (M:Nat→Bool) (L:List Int) (x u:Int) (e:Ending) (w':World):Prop where mk::
 o:∃r M' L',e=.returned (.bool r)∧Ws w0 w' m o t.ns.length M' L'∧L'.length+cntM M' t.ns.length≤L.length+cntM M t.ns.length∧cntM M' t.ns.length≤cntM M t.ns.length∧WRes t x u M L r M' L'
section
variable {A : Option Addr} {c : Nat} {w0 : World} {g b : Nat} {t : St}
theorem Wk.at0 {W:World}(h:Wk A c w0 g b t) (hb:Below w0.heap.size w0 W):Wk A c W g b t:=h.below hb
theorem walk_ (m o cm:Nat) (h:Wk A c w0 g b t):∀(k:Nat) (W:World) (M:Nat→Bool) (L:List Int) (x u:Int),cntM M t.ns.length<k→Ws w0 W m o t.ns.length M L→L.length+cntM M t.ns.length≤t.ns.length→
  Calls Tryz.prog 141 #[.pointer (some ⟨g,0,none⟩),.int .i64 x,.int .i64 u,.slice (some ⟨m,0,none⟩) t.ns.length cm,.pointer (some ⟨o,0,none⟩)] W fun e w'=>WPost w0 t m o M L x u e w':=by
 have H:=Z h;clear h;intro k
 induction k with
 | zero=>intro W M L x u h;omega
 | succ k ih=>
  intro W M L x u hk hS hcl;have IH:=Z ih;have HS:=Z hS;have HK:=Z hk;have HCL:=Z hcl;clear ih hS hk hcl;by_cases hx1:x=-1
  ·subst hx1;go_enter Tryz.func141,Tryz.ntmps141;go_wp2;go_ret;exact⟨true,M,L,rfl,HS.o,Nat.le_refl _,Nat.le_refl _,WRes.nil _ _ _ _⟩
  have hxb:(x==-1)=false:=by simpa using hx1
  have HX1:=Z hx1;have hw:=H.o.at0 HS.o.below;have off:(x<0∨(t.ns.length:Int)≤x∨M x.toNat=true∨(gn t x.toNat).inn=false∨upA t x≠u)→WRes t x u M L false M L:=
   fun hh=>WRes.off HX1.o hh
  have OFF:=Z off;have hc0:=hw.c0;have HW:=Z hw;clear off hx1 hw;by_cases h0:x<0
  ·go_enter Tryz.func141,Tryz.ntmps141;go_wp2;go_ret;exact⟨false,M,L,rfl,HS.o,Nat.le_refl _,Nat.le_refl _,OFF.o (Or.inl h0)⟩
  have h01:decide (x<0)=false:=decide_eq_false h0;have h00:0≤x:=by omega
  by_cases hn:(t.ns.length:Int)≤x
  ·go_enter Tryz.func141,Tryz.ntmps141;go_wp2;go_ret;exact⟨false,M,L,rfl,HS.o,Nat.le_refl _,Nat.le_refl _,OFF.o (Or.inr (Or.inl hn))⟩
  have hn1:decide ((t.ns.length:Int)≤x)=false:=decide_eq_false hn;have hxn:x<(t.ns.length:Int):=by omega
  have hm1:=HS.o.metc x.toNat (by omega);cases hM:M x.toNat with
  | true=>
   rw[hM]at hm1;have HM:=Z hM;clear hM;go_enter Tryz.func141,Tryz.ntmps141;go_wp2;go_ret;exact⟨false,M,L,rfl,HS.o,Nat.le_refl _,Nat.le_refl _,OFF.o (Or.inr (Or.inr (Or.inl HM.o)))⟩
  | false=>
  rw[hM]at hm1;have HM:=Z hM;clear hM;rw[HW.o.addr (by omega)]at hc0;have hf1:=HW.o.fin x h00 hxn;cases hI:(gn t x.toNat).inn with
  | false=>
   rw[hI]at hf1;have HI:=Z hI;clear hI;go_enter Tryz.func141,Tryz.ntmps141;go_wp2;go_ret;exact⟨false,M,L,rfl,HS.o,Nat.le_refl _,Nat.le_refl _,OFF.o (Or.inr (Or.inr (Or.inr (Or.inl HI.o))))⟩
  | true=>
  rw[hI]at hf1;have HI:=Z hI;clear hI;have HXN:=Z hxn;have H00:=Z h00;obtain⟨up,hup⟩:∃q,q=upA t x:=⟨_,rfl⟩;have HUP:=Z hup.symm;clear hup;by_cases hu:up=u;rotate_left
  ·have hub:(up==u)=false:=by simpa using hu
   have hub2:(up != u)=true:=by simpa using hu
   have HU:=Z hu;clear hu;go_enter Tryz.func141,Tryz.ntmps141;go_wp2_with (go_at_call 80;refine(up_v HW.o x H00.o HXN.o up HUP.o).mono ?_;rintro e wq ⟨rfl,rfl⟩);go_ret;exact⟨false,M,L,rfl,HS.o,Nat.le_refl _,Nat.le_refl _,OFF.o (Or.inr (Or.inr (Or.inr (Or.inr (by rw[HUP.o];exact HU.o)))))⟩
  subst hu;clear OFF;have hmf:=HS.o.metf x.toNat;have hc1:=HW.o.fl x h00 hxn;have S1:=Z (HS.o.setMet x.toNat (by omega));have HC1:=Z (cnt_set (n:=t.ns.length) (show x.toNat<t.ns.length by omega) HM.o);go_enter Tryz.func141,Tryz.ntmps141;go_upto_region 6 with(go_at_call 80;refine(up_v HW.o x H00.o HXN.o up HUP.o).mono ?_;rintro e wq ⟨rfl,rfl⟩);clear hmf hc1 hf1 hm1 hc0;generalize World.setCell _ _ _=W1 at S1⊢;have HW1:=Z (H.o.at0 S1.o.below);have hd1:=HW1.o.fl x H00.o HXN.o;go_upto_region 8 with(first
   | (go_at_call 78;refine(left_ HW1.o x H00.o HXN.o).mono ?_;rintro e wq ⟨rfl,rfl⟩)
   | (go_at_call 141;refine(IH.o _ (setM M x.toNat) L (kidA t x false) x (by have:=HC1.o;have:=HK.o;omega) S1.o (by have:=HC1.o;have:=HCL.o;omega)).mono ?_;rintro e wq ⟨rr,M2,L2,rfl,hS2,hl2,hle2,hres2⟩;have S2:=Z hS2;have L2H:=Z hl2;have C2H:=Z hle2;have R2:=Z hres2;clear hS2 hl2 hle2 hres2;cases rr))
  ·go_ret;exact⟨false,M2,L2,rfl,S2.o,by have:=HC1.o;have:=L2H.o;omega,by have:=HC1.o;have:=C2H.o;omega,WRes.noL HX1.o R2.o⟩
  obtain⟨v,hbx,hR⟩:=S2.o.box;obtain⟨A0,n0,hv,_,_⟩:=Kd.yE hR;subst hv;have HBX:=Z hbx;have HR:=Z hR;have HL:=Z H.o.len;have hce:=(show _=some (Value.slice A0 L2.length n0)from(zC hbx 0).trans rfl);have hbd1:=S2.o.ltm;have hbd2:=S2.o.lto;clear hbx hR hd1;go_upto_region 9 with(at_builtin;refine Kd.kE (Kd.int .i64) (w0:=w0) w0.heap.size rfl (.tmp 71) (.tmp 73) 28 3 (.int .i64 0) 8 rfl Tryz.underlying28 infoI rfl (by show 0<1;omega) (by omega) (.slice A0 L2.length n0) L2 x [.int .i64 x] (fun k=>k≠m∧k≠o) (fun _=>False) rfl rfl rfl (fun _ hk=>hk.elim) (fun q hq=>⟨by omega,by omega⟩) HR.o S2.o.below S2.o.below.size (by have:=L2H.o;have:=HL.o;have:=HCL.o;have:=HC1.o;omega) ?_;intro v1 w1 hR1 hB1 hg1 hat1;obtain⟨A5,n5,hv5,_,_⟩:=Kd.yE hR1;rw[show(L2++[x]).length=L2.length+1 by rw[List.length_append];rfl]at hv5;subst hv5;have S3:=Z (S2.o.appended HBX.o HR.o hg1 hB1 hR1);have e2:=(S2.o.same HBX.o HR.o hg1).2.trans HBX.o;have hf3:=zK e2 0;have hc3:w1.cell? ⟨o,0,none⟩=some (Value.slice A0 L2.length n0):=(zC e2 0).trans rfl;clear hR1 hB1 hg1 hat1 e2);clear hce hf3 hc3 hbd1 hbd2 HBX HR S2;generalize World.setCell _ _ _=W3 at S3⊢;have HW3:=Z (H.o.at0 S3.o.below);have hd3:=HW3.o.fr x H00.o HXN.o;have HCN:=Z (show cntM M2 t.ns.length<k by have:=HC1.o;have:=C2H.o;have:=HK.o;omega);go_wp2_with (first
   | (go_at_call 81;refine(zaQ HW3.o x H00.o HXN.o).mono ?_;rintro e wq ⟨rfl,rfl⟩)
   | (go_at_call 141;refine(IH.o _ M2 (L2++[x]) (kidA t x true) x HCN.o S3.o (by rw[List.length_append];have:=L2H.o;have:=HC1.o;have:=HCL.o;show L2.length+1+_≤_;omega)).mono ?_;rintro e wq ⟨r4,M4,L4,rfl,hS4,hl4,hle4,hres4⟩;have S4:=Z hS4;have L4H:=Z hl4;have C4H:=Z hle4;have R4:=Z hres4;clear hS4 hl4 hle4 hres4))
  go_ret;exact⟨r4,M4,L4,rfl,S4.o,by rw[List.length_append]at L4H;have:=L4H.o;have e1:[x].length=1:=rfl;rw[e1]at this;have:=L2H.o;have:=HC1.o;omega,by have:=HC1.o;have:=C2H.o;have:=C4H.o;omega,WRes.both H00.o HXN.o HM.o HI.o HUP.o R2.o R4.o⟩
end
end Go.Proofs.YtnkhnnojdlgfjaaGreatDoor.Tm
end
section
namespace Go.Proofs.YtnkhnnojdlgfjaaGreatDoor.PA
open RowKit
section
variable {P : Program} {d : Nat} {xs ys : Array Value} {f : Field} {fs : List Field} {a b : Value} {r s : Bool} {w : World}
theorem eqf_last (hn : (f.name == "_") = false) (ha : (part f.type xs f.offset).run P w = .ok a w) (hb : (part f.type ys f.offset).run P w = .ok b w) (he : (Op.equalIn d f.type a b).run P w = .ok r w) : (Op.eqFields d xs ys [f]).run P w = .ok r w := by
 have hn' : f.name ≠ "_" := by simpa using hn
 simp only[Op.eqFields,if_pos hn',Sem.run_bind,ha,hb,he,Result.andThen_ok];cases r<;>simp
theorem zaU (hn : (f.name == "_") = false) (ha : (part f.type xs f.offset).run P w = .ok a w) (hb : (part f.type ys f.offset).run P w = .ok b w) (he : (Op.equalIn d f.type a b).run P w = .ok r w) (hr : (Op.eqFields d xs ys fs).run P w = .ok s w) : (Op.eqFields d xs ys (f :: fs)).run P w = .ok (r && s) w := by
 have hn' : f.name ≠ "_" := by simpa using hn
 rw[Op.eqFields];simp only[if_pos hn',Sem.run_bind,ha,hb,he,Result.andThen_ok];cases r
 ·simp
 ·simpa using hr
theorem eqA_of {t:TypeId}{fs:Array Field}(hu:P.underlying t=some (.struct fs)) (hp:P.stoodInHeld t=false) (h:(Op.eqFields d xs ys fs.toList).run P w=.ok r w):(Op.equalIn (d+1) t (.agg xs) (.agg ys)).run P w=.ok r w:=by
 have hf:P.fieldsOf t=fs:=by simp[Program.fieldsOf,hu]
 rw[run_equalIn_struct (P:=P) w d t xs ys (by rw[hf];exact hu) hp,hf];exact h
end
end Go.Proofs.YtnkhnnojdlgfjaaGreatDoor.PA
end
section
namespace Go.Proofs.YtnkhnnojdlgfjaaGreatDoor.Tm
open RowKit Tr PA PB PC
structure Emp (w:World):Prop where
 lt:0<w.heap.size
 c0:w.cell? ⟨0,0,none⟩=some (.bool false)
 c1:w.cell? ⟨0,1,none⟩=some (.bool false)
 c2:w.cell? ⟨0,2,none⟩=some (.int .u64 0)
 c3:w.cell? ⟨0,3,none⟩=some (.int .i64 (-1))
 c4:w.cell? ⟨0,4,none⟩=some (.int .i64 (-1))
 c5:w.cell? ⟨0,5,none⟩=some (.int .i64 (-1))
theorem Emp.below {w W:World}(h:Emp w) (hb:Below w.heap.size w W):Emp W:=
 ⟨Nat.lt_of_lt_of_le h.lt hb.size,(hb.cell (p:=⟨0,0,none⟩) h.lt).trans h.c0,(hb.cell (p:=⟨0,1,none⟩) h.lt).trans h.c1,(hb.cell (p:=⟨0,2,none⟩) h.lt).trans h.c2,(hb.cell (p:=⟨0,3,none⟩) h.lt).trans h.c3,(hb.cell (p:=⟨0,4,none⟩) h.lt).trans h.c4,(hb.cell (p:=⟨0,5,none⟩) h.lt).trans h.c5⟩
theorem Emp.drewN {w:World}(h:Emp w) (n:Nat):Emp (w.drewN n):=⟨h.lt,h.c0,h.c1,h.c2,h.c3,h.c4,h.c5⟩
theorem Emp.drew {w:World}(h:Emp w):Emp w.drew:=⟨h.lt,h.c0,h.c1,h.c2,h.c3,h.c4,h.c5⟩
theorem eqN (d:Nat) (w:World) (x0 y0:Bool) (x1 y1:Bool) (x2 y2:Int) (x3 y3:Int) (x4 y4:Int) (x5 y5:Int) :
  (Op.equalIn (d+2) 72 (.agg #[.bool x0,.bool x1,.int .u64 x2,.int .i64 x3,.int .i64 x4,.int .i64 x5]) (.agg #[.bool y0,.bool y1,.int .u64 y2,.int .i64 y3,.int .i64 y4,.int .i64 y5])).run Tryz.prog w=.ok (x0==y0&&(x1==y1&&(x2==y2&&(x3==y3&&(x4==y4&&(x5==y5)))))) w:=by
 refine eqA_of Tryz.underlying72 (by kernel_rfl) ?_;refine zaU (by rfl) (by go_simp;rfl) (by go_simp;rfl) (by go_simp) ?_;refine zaU (by rfl) (by go_simp;rfl) (by go_simp;rfl) (by go_simp) ?_;refine zaU (by rfl) (by go_simp;rfl) (by go_simp;rfl) (by go_simp) ?_;refine zaU (by rfl) (by go_simp;rfl) (by go_simp;rfl) (by go_simp) ?_;refine zaU (by rfl) (by go_simp;rfl) (by go_simp;rfl) (by go_simp) ?_;exact eqf_last (by rfl) (by go_simp;rfl) (by go_simp;rfl) (by go_simp)
attribute [local go_sem high] eqN
deriving instance DecidableEq for Tr.Nd
structure Whole (t:St) (a:T):Prop where
 lay:Lay t a (some (-1))
 rt:t.rt=a.rt
 nd:a.ids.Nodup
 o:∀z,z<t.ns.length→z∉a.ids→gn t z=emp
def build:Nat→St→Int→Int→Option T
 | 0,_,_,_=>none
 | k+1,t,x,u=>if x=-1 then some .E else
  if 0≤x∧x<t.ns.length∧(gn t x.toNat).inn=true∧(gn t x.toNat).u=u then
   match build k t (gn t x.toNat).l x,build k t (gn t x.toNat).r x with
   | some l,some r=>some (.B (gn t x.toNat).red l x.toNat r)
   | _,_=>none
  else none
theorem build_lay {t:St}:∀{k:Nat}{x u:Int}{a:T},build k t x u=some a→Lay t a (some u)∧a.rt=x:=by
 intro k
 induction k with
 | zero=>intro x u a h;cases h
 | succ k ih=>
  intro x u a h;rw[build]at h;split at h
  ·rename_i hx
   cases h;exact⟨trivial,hx.symm⟩
  ·split at h
   ·rename_i hx
    obtain⟨h1,h2,h3,h4⟩:=hx;split at h
    ·rename_i l r el er
     cases h;obtain⟨l1,l2⟩:=ih el;obtain⟨r1,r2⟩:=ih er;have hxx:((x.toNat:Nat):Int)=x:=by omega
     exact⟨⟨by omega,h3,rfl,l2.symm,r2.symm,fun p hp=>by rw[←Option.some.inj hp];exact h4,by rw[hxx];exact l1,by rw[hxx];exact r1⟩,hxx⟩
    ·cases h
   ·cases h
theorem zbo {t:St}:∀{a:T}{k:Nat}{u:Int},a.size<k→Lay t a (some u)→build k t a.rt u=some a
 | .E,0,_,h,_=>absurd h (by omega)
 | .E,k+1,u,_,_=>by rw[build];exact if_pos rfl
 | .B c l x r,0,_,h,_=>absurd h (by omega)
 | .B c l x r,k+1,u,h,⟨h1,h2,h3,h4,h5,h6,h7,h8⟩=>by
  have hs:l.size+r.size+1<k+1:=h;rw[build,if_neg (by show ¬(x:Int)=-1;omega),show(T.B c l x r).rt=(x:Int)from rfl,Int.toNat_natCast,if_pos ⟨by omega,by omega,h2,h6 u rfl⟩,h4,h5,zbo (by omega) h7,zbo (by omega) h8,h3]
def wholeA (t:St):Option T:=
 match build (t.ns.length+1) t t.rt (-1)with
 | some a=>if a.ids.Nodup∧∀z∈List.range t.ns.length,z∈a.ids∨gn t z=emp then some a else none
 | none=>none
theorem wholeA_iff {t:St}{a:T}:wholeA t=some a↔Whole t a:=by
 constructor
 ·intro h;unfold wholeA at h;split at h
  ·rename_i a' ha
   split at h
   ·rename_i hc
    cases h;obtain⟨h1,h2⟩:=build_lay ha;exact⟨h1,h2.symm,hc.1,fun z hz hn=>(hc.2 z (List.mem_range.2 hz)).resolve_left hn⟩
   ·cases h
  ·cases h
 ·intro h;have hs:a.size<t.ns.length+1:=by
   rw[←wN];have:=xC h.nd (fun x hx=>h.lay.lt x hx);omega
  unfold wholeA;rw[h.rt,zbo hs h.lay];simp only;rw[if_pos ⟨h.nd,fun z hz=>by
   by_cases e:z∈a.ids
   ·exact Or.inl e
   exact Or.inr (h.o z (List.mem_range.1 hz) e)⟩]
def ordA (t:St):Option T:=if t.ns.length≤64 then wholeA t else none
theorem xS {t:St}{a:T}:ordA t=some a↔t.ns.length≤64∧Whole t a:=by
 unfold ordA;split
 ·rename_i h
  rw[wholeA_iff];exact⟨fun k=>⟨h,k⟩,fun k=>k.2⟩
 ·rename_i h
  exact⟨(fun k=>by cases k),fun k=>absurd k.1 h⟩
structure OPost (w:World) (t:St) (e:Ending) (w':World):Prop where mk::
 below:Below w.heap.size w w'
 no:ordA t=none→e=.returned (.tuple #[.slice none 0 0,.bool false])
 yes:∀a,ordA t=some a→∃v,e=.returned (.tuple #[v,.bool true])∧(Kd.int .i64).R 3 w' w.heap.size (fun _=>True) v (iz a.ids)
variable {A : Option Addr} {c : Nat} {w : World} {g b : Nat} {t : St}
theorem infoB:(Tryz.prog.info? 4).map (fun i=>(i.zero,i.size,i.bytes))=some (some (.bool false),1,1):=by kernel_rfl
theorem order_ (h:Wk A c w g b t) (hT:Emp w):Calls Tryz.prog 112 #[.pointer (some ⟨g,0,none⟩)] w fun e w'=>OPost w t e w':=by
 have H:=Z h;have HT:=Z hT;have c0:=h.c0;have HL:=Z h.len;have hl:=h.len;clear h hT;by_cases hn:64<t.ns.length
 ·have hd:(64:Int)<(t.ns.length:Int):=by omega
  have HO:=Z (show ordA t=none by unfold ordA;rw[if_neg (by omega)]);go_enter Tryz.func112,Tryz.ntmps112;go_wp2
  go_ret2
  exact⟨Below.refl _ _,fun _=>rfl,fun a h=>by rw[HO.o]at h;cases h⟩
 have hd:¬(64:Int)<(t.ns.length:Int):=by omega
 have hdd:decide ((64:Int)<(t.ns.length:Int))=false:=decide_eq_false hd;have HN:=Z hn;have hmk:=run_make_row' (P:=Tryz.prog) 147 4 (.bool false) 1 Tryz.underlying147 infoB rfl .i64 .i64 t.ns.length (by omega) (by omega);clear hl hn;go_enter Tryz.func112,Tryz.ntmps112;go_upto_region 4 with(fail);have hB1:=zB (Below.refl w.heap.size w) (.cells #[.slice none 0 0] 28);have HB1:=Z hB1;have HO1:=Z (show(w.alloc (.cells #[.slice none 0 0] 28)).heap[w.heap.size]?=some (.cells #[.slice none 0 0] 28 (0,0))from zQ w _);have HS1:=Z (show(w.alloc (.cells #[.slice none 0 0] 28)).heap.size=w.heap.size+1 by simp);clear hB1 c0;generalize w.alloc (.cells #[.slice none 0 0] 28)=W1 at HB1 HO1 HS1⊢;have c0:=(H.o.below HB1.o).c0;go_upto_region 5 with(fail);have hB2:=zB HB1.o (.cells (madeCells #[.bool false] t.ns.length) 4);have S2:=Z (show Ws w (W1.alloc (.cells (madeCells #[.bool false] t.ns.length) 4)) (w.heap.size+1) w.heap.size t.ns.length (fun _=>false) []from
  ⟨hB2,⟨madeCells #[.bool false] t.ns.length,by rw[←HS1.o];exact zQ W1 _,fun j hj=>by rw[←Array.getElem?_toList,toList_madeCells_one,List.getElem?_replicate,if_pos hj]⟩,
   ⟨_,zH HO1.o (zB (Below.refl _ _) _),Kd.jT _ _ _ _ _⟩,by omega,Nat.le_refl _,by omega⟩)
 rw[HS1.o];clear hB2 c0 hmk;generalize W1.alloc _=W2 at S2⊢;have c1:=(H.o.at0 S2.o.below).c1;have hcn:cntM (fun _=>false) t.ns.length≤t.ns.length:=by
  unfold cntM;exact Nat.le_trans (List.length_filter_le _ _) (by rw[List.length_range];exact Nat.le_refl _)
 have HCN:=Z hcn;clear hcn;go_upto_region 7 with(go_at_call 141;refine(walk_ (w.heap.size+1) w.heap.size t.ns.length H.o (t.ns.length+1) _ (fun _=>false) [] t.rt (-1) (by have:=HCN.o;omega) S2.o (by have:=HCN.o;show 0+_≤_;omega)).mono ?_;rintro e wq ⟨rr,M3,L3,rfl,hS3,hl3,hle3,hres3⟩;have S3:=Z hS3;have R3:=Z hres3;clear hS3 hl3 hle3 hres3;cases rr)
 ·go_ret2
  refine⟨S3.o.below,fun _=>rfl,fun a ha=>?_⟩;obtain⟨h1,h2⟩:=xS.1 ha;exact absurd ⟨a,h2.lay,h2.rt.symm,h2.nd,fun z _=>rfl⟩ (R3.o.no rfl)
 obtain⟨a,a1,a2,a3,a4,a5,a6⟩:=R3.o.yes rfl;have A1:=Z a1;have A2:=Z a2;have A3:=Z a3;have AM:=Z (show ∀z,M3 z=decide (z∈a.ids)by intro z;rw[a6];simp[unM]);have AL:=Z (show L3=iz a.ids by rw[a5];simp);clear a1 a2 a3 a4 a5 a6 R3 c1;have c0:=(H.o.at0 S3.o.below).c0;go_upto_region 8 with(fail)
 go_loopw [37] (fun i wr=>∃k:Nat,k≤t.ns.length∧i=.int .i64 k∧zA (Ws w wr (w.heap.size+1) w.heap.size t.ns.length M3 L3)∧zA (∀z,z<k→M3 z=true∨gn t z=emp)) (fun i _=>t.ns.length-(intOf i).toNat)
 case atStart=>exact⟨0,Nat.zero_le _,rfl,S3,⟨fun z hz=>absurd hz (by omega)⟩⟩
 case round=>
  clear S3 c0;obtain⟨k,hk,rfl,S4,HE⟩:=hrel;by_cases hlt:k<t.ns.length;rotate_left
  ·obtain rfl:k=t.ns.length:=by omega
   obtain⟨v,hbx,hR⟩:=S4.o.box;obtain⟨A0,n0,hv,_,_⟩:=Kd.yE hR;subst hv;have c5:=(show wr.cell? ⟨w.heap.size,0,none⟩=some (Value.slice A0 L3.length n0)from(zC hbx 0).trans rfl);have HR:=Z hR;clear hbx hR;go_wp2
   go_ret2
   have hW:Whole t a:=⟨A1.o,A2.o.symm,A3.o,fun z hz hn=>(HE.o z hz).resolve_left (fun h=>hn (by rw[AM.o z]at h;exact of_decide_eq_true h))⟩;have hO:=xS.2 ⟨by have:=HN.o;omega,hW⟩;refine⟨S4.o.below,fun h=>(by rw[hO]at h;cases h),fun a' ha=>?_⟩;rw[hO]at ha;cases ha;exact⟨_,rfl,by rw[←AL.o];exact Kd.zbh HR.o (fun _ _=>trivial)⟩
  have hn1:(k:Int)<(t.ns.length:Int):=by omega
  have HK:=Z hlt;have hw:=H.o.at0 S4.o.below;have hA:=H.o.addr (by omega);subst hA;have f0:=hw.fin (k:Int) (by omega) hn1;have f1:=hw.at_ k 1 hlt (by omega);have f2:=hw.fv (k:Int) (by omega) hn1;have f3:=hw.fl (k:Int) (by omega) hn1;have f4:=hw.fr (k:Int) (by omega) hn1;have f5:=hw.fu (k:Int) (by omega) hn1;have g1:wr.cell? ⟨b,k*6+1,none⟩=some (.bool (gn t k).red):=f1;have g3:wr.cell? ⟨b,k*6+3,none⟩=some (.int .i64 (gn t k).l):=f3;have g4:wr.cell? ⟨b,k*6+4,none⟩=some (.int .i64 (gn t k).r):=f4;have g5:wr.cell? ⟨b,k*6+5,none⟩=some (.int .i64 (gn t k).u):=f5;simp only[Int.toNat_natCast]at f0 f2;clear f1 f3 f4 f5;have HW:=Z hw;have S5:=fun o=>S4.o.step (zB (Below.refl wr.heap.size wr) o)
  have HT4:=Z (HT.o.below S4.o.below);clear hw;generalize hgn:gn t k=nd at f0 g1 f2 g3 g4 g5;have HGN:=Z hgn;clear hgn;obtain⟨x0,x1,x2,x3,x4,x5⟩:=nd;simp only at f0 g1 f2 g3 g4 g5;have S6:=Z (S5 (.cells #[.bool x0,.bool x1,.int .u64 x2,.int .i64 x3,.int .i64 x4,.int .i64 x5] 72));have HT6:=Z (HT4.o.below (zB (Below.refl wr.heap.size wr) (.cells #[.bool x0,.bool x1,.int .u64 x2,.int .i64 x3,.int .i64 x4,.int .i64 x5] 72)));have HN6:=Z (show(wr.alloc (.cells #[.bool x0,.bool x1,.int .u64 x2,.int .i64 x3,.int .i64 x4,.int .i64 x5] 72)).heap[wr.heap.size]?=some (.cells #[.bool x0,.bool x1,.int .u64 x2,.int .i64 x3,.int .i64 x4,.int .i64 x5] 72 (0,0))from zQ wr _);clear S5;go_upto_region 10 with(fail);generalize wr.alloc _=W6 at S6 HT6 HN6⊢;have m1:=S6.o.metc k HK.o;have n0:=(show W6.cell? ⟨wr.heap.size,0,none⟩=some (.bool x0)from(zC HN6.o 0).trans rfl);have n1:=(show W6.cell? ⟨wr.heap.size,1,none⟩=some (.bool x1)from(zC HN6.o 1).trans rfl);have n2:=(show W6.cell? ⟨wr.heap.size,2,none⟩=some (.int .u64 x2)from(zC HN6.o 2).trans rfl);have n3:=(show W6.cell? ⟨wr.heap.size,3,none⟩=some (.int .i64 x3)from(zC HN6.o 3).trans rfl);have n4:=(show W6.cell? ⟨wr.heap.size,4,none⟩=some (.int .i64 x4)from(zC HN6.o 4).trans rfl);have n5:=(show W6.cell? ⟨wr.heap.size,5,none⟩=some (.int .i64 x5)from(zC HN6.o 5).trans rfl);have e0:=HT6.o.c0;have e1:=HT6.o.c1;have e2:=HT6.o.c2;have e3:=HT6.o.c3;have e4:=HT6.o.c4;have e5:=HT6.o.c5;clear f0 f2 g1 g3 g4 g5;have next:(M3 k=true∨gn t k=emp)→∀z,z<k+1→M3 z=true∨gn t z=emp:=fun h z hz=>by
   by_cases e:z=k
   ·subst e;exact h
   exact HE.o z (by omega)
  have NEXT:=Z next;clear next
  cases hM:M3 k with
  | true=>
   have HM:=Z hM;rw[hM]at m1;clear hM;go_wp2;refine⟨⟨k+1,by omega,by simp,S6,⟨NEXT.o (Or.inl HM.o)⟩⟩,?_⟩;show t.ns.length-((k:Int)+1).toNat<t.ns.length-(k:Int).toNat;omega
  | false=>
   have HM:=Z hM;rw[hM]at m1;clear hM;by_cases he:(⟨x0,x1,x2,x3,x4,x5⟩:Nd)=emp
   ·have HE2:=Z he;unfold emp at he;injection he with h0 h1 h2 h3 h4 h5;subst h0 h1 h2 h3 h4 h5;go_wp2;refine⟨⟨k+1,by omega,by simp,S6,⟨NEXT.o (Or.inr (HGN.o.trans HE2.o))⟩⟩,?_⟩;show t.ns.length-((k:Int)+1).toNat<t.ns.length-(k:Int).toNat;omega
   have HE2:=Z he;clear he;go_wp2
   ·go_ret2
    refine⟨S6.o.below,fun _=>rfl,fun a' ha=>?_⟩;obtain⟨_,hw2⟩:=xS.1 ha;have ea:a'=a:=Lay.uniq hw2.lay A1.o (hw2.rt.symm.trans A2.o.symm);subst ea;have:=hw2.o k HK.o (fun h=>by have:=AM.o k;rw[HM.o]at this;exact of_decide_eq_false this.symm h);rw[HGN.o]at this;exact absurd this HE2.o
   ·rename_i hq
    have hq2:x0=false∧x1=false∧x2=0∧x3=-1∧x4=-1∧x5=-1:=by simpa using hq
    obtain⟨h0,h1,h2,h3,h4,h5⟩:=hq2;subst h0 h1 h2 h3 h4 h5;exact absurd rfl HE2.o
end Go.Proofs.YtnkhnnojdlgfjaaGreatDoor.Tm
end
