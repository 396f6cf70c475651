/- Parts of the proof, joined: Open, Op6, Tells, TmL. -/
import Derived.Test.YtnkhnnojdlgfjaaGreatDoorProg
import Derived.WalkKit
import Derived.ProofKit
import Derived.OpenShut
import Derived.ChangeOld
import Derived.Below
import Derived.Carry
import Derived.SizedLaws
import Derived.ChangeSlices
import Derived.ChangeSame
import Derived.ChangeArms
import Derived.Deep.Slices
import Derived.DataElems
import Derived.Test.YtnkhnnojdlgfjaaGreatDoorUI43
import Derived.Test.YtnkhnnojdlgfjaaGreatDoorRows
import Derived.LaidMore
import Derived.Lib.LaidTab
import Derived.FnData
import Derived.MakeChecks
set_option linter.unusedVariables false
set_option linter.unusedSimpArgs false
set_option maxHeartbeats 32000000
set_option maxRecDepth 100000
section
namespace Go.Proofs.YtnkhnnojdlgfjaaGreatDoor.Opn
open RowKit Deep ChangeShapes WideShapes ChangeAt PA PB PC
def Op (P:Program) (W:World) (t:TypeId) {α:Type}(d:Kd α) (G:α→Prop):Prop:=
 ∀(H:Type) (enc:TypeId × Value→H) (fuel:Nat) (cs:List Value) (x:DataW H × List MemPlace),DataW.trod enc P W 0 (fun _=>true) true fuel t cs=some x→(∀n∈DataW.weights P t x.1,n≤reachBytes)→∃p,d.K W p cs∧G p
variable {P : Program} {W : World}
theorem Op.int {t:TypeId}{k:IntKind}(ht:P.underlying t=some (.int k)):Op P W t (Kd.int k) (fun x=>(Lit.int k x).wf=true):=by
 intro H enc fuel cs x h hw;obtain⟨n,rfl,_,hwf⟩:=DataW.trod_int ht h;exact⟨n,rfl,hwf⟩
theorem Op.bool {t:TypeId}(ht:P.underlying t=some .bool):Op P W t Kd.bool (fun _=>True):=by
 intro H enc fuel cs x h hw;obtain⟨n,rfl,_⟩:=DataW.trod_bool ht h;exact⟨n,rfl,trivial⟩
theorem choose_list {α:Type}(n:Nat) (Q:Nat→α→Prop) (h:∀i,i<n→∃p,Q i p):∃l:List α,l.length=n∧∀i p,l[i]?=some p→Q i p:=by
 induction n with
 | zero=>exact⟨[],rfl,fun i p hp=>by simp at hp⟩
 | succ n ih=>
  obtain⟨l,hl,hq⟩:=ih (fun i hi=>h i (by omega));obtain⟨p,hp⟩:=h n (by omega);refine⟨l++[p],by simp[hl],fun i q hq2=>?_⟩;by_cases hi:i<l.length
  ·rw[List.getElem?_append_left hi]at hq2;exact hq i q hq2
  rw[List.getElem?_append_right (by omega)]at hq2;have h0:i-l.length=0:=by
   apply Classical.byContradiction;intro hn;rw[List.getElem?_eq_none (by simp;omega)]at hq2;cases hq2
  rw[h0]at hq2;obtain rfl:p=q:=by simpa using hq2
  obtain rfl:i=n:=by omega
  exact hp
theorem zaY {H:Type}{e:TypeId}{d:DataW H}{n:Nat}(hn:n∈DataW.weights P e d):∀{ds:List (DataW H)},d∈ds→n∈DataW.weightsAll P e ds
 | a::r,h=>by
  rw[DataW.weightsAll,List.mem_append];rcases List.mem_cons.1 h with rfl|h
  ·exact Or.inl hn
  ·exact Or.inr (zaY hn h)
theorem Op.slice {t e:TypeId}{α:Type}{d:Kd α}{G:α→Prop}(ht:P.underlying t=some (.slice e)) (hc:P.cellsOf e=d.sz) (he:Op P W e d G):Op P W t (Kd.slice e d) (fun l=>l.length*P.bytesOf e≤reachBytes∧∀x∈l,G x):=by
 intro H enc fuel cs x h hw;rcases open_slice ht h with⟨rfl,_⟩|⟨a,len,cap,m,n,D,Pl,rfl,_,hl,hm,hmm,rfl,hel⟩
 ·exact⟨[],⟨none,0,rfl,Nat.le_refl _,rfl,by simp,fun h=>absurd h (by simp)⟩,by simp,fun x hx=>by simp at hx⟩
 have hm2:m=cap:=by simpa using hmm
 subst hm2;rw[DataW.weights,ht]at hw;simp only[List.length_map,List.length_range]at hw;have hw0:=hw _ List.mem_cons_self;have hwe:∀i,i<len→∀n∈DataW.weights P e (D i),n≤reachBytes:=fun i hi n hn=>hw n (List.mem_cons_of_mem _ (List.mem_append.2 (Or.inl (zaY hn (List.mem_map.2 ⟨i,List.mem_range.2 hi,rfl⟩)))))
 obtain⟨l,hlen,hq⟩:=choose_list len (fun i p=>∃c,W.cells? 0 (a.add (i*P.cellsOf e)) (P.cellsOf e)=some c∧d.K W p c∧G p) (fun i hi=>by
  obtain⟨cs',h1,h2⟩:=hel i (by omega);obtain⟨p,h3,h4⟩:=he H enc n cs' _ h2 (hwe i hi);exact⟨p,cs',h1,h3,h4⟩)
 refine⟨l,⟨some a,m,by rw[hlen],by omega,rfl,by rw[hlen];unfold maxLen at hm;omega,fun _=>⟨a,rfl,fun j p hp=>?_⟩⟩,by rw[hlen];exact Nat.le_trans (Nat.mul_le_mul_right _ (Nat.le_add_right _ _)) hw0,fun x hx=>?_⟩
 ·obtain⟨c,h1,h2,_⟩:=hq j p hp;obtain⟨_,h4,h5⟩:=World.cells?_some h1;refine⟨c,by rw[h4,hc],h2,fun i u hu=>?_⟩;have hi:i<P.cellsOf e:=by
   rw[←h4];exact(List.getElem?_eq_some_iff.1 hu).1
  have:=h5 i hi;rw[hu]at this;rw[←this,←hc,Addr.add_add]
 ·obtain⟨i,hi⟩:=List.getElem?_of_mem hx;obtain⟨_,_,_,h6⟩:=hq i x hi;exact h6
theorem Op.st2 {t:TypeId}{f0 f1:Field}{α β γ:Type}{d0:Kd α}{d1:Kd β}{G0:α→Prop}{G1:β→Prop}(ht:P.underlying t=some (.struct #[f0,f1])) (g:γ→α × β) (gi:α→β→γ) (hg:∀x y,g (gi x y)=(x,y)) (ho:f0.offset=0) (ho1:f1.offset=d0.sz) (h0:P.cellsOf f0.type=d0.sz) (h1:P.cellsOf f1.type=d1.sz) (hn:P.cellsOf t=d0.sz+d1.sz)
  (he0:Op P W f0.type d0 G0) (he1:Op P W f1.type d1 G1):Op P W t (Kd.iso (Kd.pair d0 d1) g) (fun x=>G0 (g x).1∧G1 (g x).2):=by
 intro H enc fuel cs x h hw;obtain⟨y0,y1,n,rfl,hl,e0,e1⟩:=trod_struct2 ht h;rw[DataW.weights,ht]at hw;rw[ho,List.drop_zero,h0]at e0;rw[ho1,h1]at e1;obtain⟨p,hp,hG⟩:=he0 H enc n _ _ e0 (fun n hn=>hw n (List.mem_append.2 (Or.inl hn)));obtain⟨q,hq,hG1⟩:=he1 H enc n _ _ e1 (fun n hn=>hw n (List.mem_append.2 (Or.inr (List.mem_append.2 (Or.inl hn)))));have hcs:cs=cs.take d0.sz++(cs.drop d0.sz).take d1.sz:=by
  rw[List.take_of_length_le (l:=cs.drop d0.sz) (by rw[List.length_drop];omega),List.take_append_drop]
 refine⟨gi p q,⟨_,_,hcs,?_,?_⟩,?_,?_⟩
 ·show d0.K W (g (gi p q)).1 _;rw[hg];exact hp
 ·show d1.K W (g (gi p q)).2 _;rw[hg];exact hq
 ·show G0 (g (gi p q)).1;rw[hg];exact hG
 ·show G1 (g (gi p q)).2;rw[hg];exact hG1
theorem Op.st4 {t:TypeId}{f0 f1 f2 f3:Field}{α β γ δ:Type}{d0:Kd α}{d1:Kd β}{d2:Kd γ}{d3:Kd δ}{G0:α→Prop}{G1:β→Prop}{G2:γ→Prop}{G3:δ→Prop}(ht:P.underlying t=some (.struct #[f0,f1,f2,f3]))
  (o0:f0.offset=0) (o1:f1.offset=d0.sz) (o2:f2.offset=d0.sz+d1.sz) (o3:f3.offset=d0.sz+d1.sz+d2.sz) (c0:P.cellsOf f0.type=d0.sz) (c1:P.cellsOf f1.type=d1.sz) (c2:P.cellsOf f2.type=d2.sz) (c3:P.cellsOf f3.type=d3.sz)
  (he0:Op P W f0.type d0 G0) (he1:Op P W f1.type d1 G1) (he2:Op P W f2.type d2 G2) (he3:Op P W f3.type d3 G3)
  {H:Type}{enc:TypeId × Value→H}{fuel:Nat}{cs:List Value}{x:DataW H × List MemPlace}(hn:P.cellsOf t=d0.sz+d1.sz+d2.sz+d3.sz) (h:DataW.trod enc P W 0 (fun _=>true) true fuel t cs=some x) (hw:∀n∈DataW.weights P t x.1,n≤reachBytes) :
  ∃p q r s k0 k1 k2 k3,cs=k0++(k1++(k2++k3))∧d0.K W p k0∧G0 p∧d1.K W q k1∧G1 q∧d2.K W r k2∧G2 r∧d3.K W s k3∧G3 s:=by
 obtain⟨xs,n,_,rfl,hl,hlen,hf⟩:=DataW.trod_struct ht h
 match xs,hlen with
 | [y0,y1,y2,y3],_=>
  rw[DataW.weights,ht]at hw;have e0:=hf 0 f0 rfl;have e1:=hf 1 f1 rfl;have e2:=hf 2 f2 rfl;have e3:=hf 3 f3 rfl;rw[o0,List.drop_zero,c0]at e0;rw[o1,c1]at e1;rw[o2,c2]at e2;rw[o3,c3]at e3;obtain⟨p,hp,hG⟩:=he0 H enc n _ _ e0 (fun n hn=>hw n (List.mem_append.2 (Or.inl hn)));obtain⟨q,hq,hG1⟩:=he1 H enc n _ _ e1 (fun n hn=>hw n (List.mem_append.2 (Or.inr (List.mem_append.2 (Or.inl hn)))));obtain⟨r,hr,hG2⟩:=he2 H enc n _ _ e2 (fun n hn=>hw n (List.mem_append.2 (Or.inr (List.mem_append.2 (Or.inr (List.mem_append.2 (Or.inl hn)))))));obtain⟨s,hs,hG3⟩:=he3 H enc n _ _ e3 (fun n hn=>hw n (List.mem_append.2 (Or.inr (List.mem_append.2 (Or.inr (List.mem_append.2 (Or.inr (List.mem_append.2 (Or.inl hn)))))))));refine⟨p,q,r,s,_,_,_,_,?_,hp,hG,hq,hG1,hr,hG2,hs,hG3⟩;rw[List.take_of_length_le (l:=cs.drop (d0.sz+d1.sz+d2.sz)) (by rw[List.length_drop];omega),←List.drop_drop (i:=d2.sz) (j:=d0.sz+d1.sz),List.take_append_drop,←List.drop_drop (i:=d1.sz) (j:=d0.sz),List.take_append_drop,List.take_append_drop]
theorem Op.six {t:TypeId}{f0 f1 f2 f3 f4 f5:Field}{α0 α1 α2 α3 α4 α5 γ:Type}{d0:Kd α0}{d1:Kd α1}{d2:Kd α2}{d3:Kd α3}{d4:Kd α4}{d5:Kd α5}{G0:α0→Prop}{G1:α1→Prop}{G2:α2→Prop}{G3:α3→Prop}{G4:α4→Prop}{G5:α5→Prop}(ht:P.underlying t=some (.struct #[f0,f1,f2,f3,f4,f5])) (g:γ→α0 × α1 × α2 × α3 × α4 × α5) (gi:α0→α1→α2→α3→α4→α5→γ) (hg:∀a0 a1 a2 a3 a4 a5,g (gi a0 a1 a2 a3 a4 a5)=(a0,a1,a2,a3,a4,a5))
  (o0:f0.offset=0) (o1:f1.offset=1) (o2:f2.offset=2) (o3:f3.offset=3) (o4:f4.offset=4) (o5:f5.offset=5) (c0:P.cellsOf f0.type=1) (c1:P.cellsOf f1.type=1) (c2:P.cellsOf f2.type=1) (c3:P.cellsOf f3.type=1) (c4:P.cellsOf f4.type=1) (c5:P.cellsOf f5.type=1) (hn:P.cellsOf t=6)
  (he0:Op P W f0.type d0 G0) (he1:Op P W f1.type d1 G1) (he2:Op P W f2.type d2 G2) (he3:Op P W f3.type d3 G3) (he4:Op P W f4.type d4 G4) (he5:Op P W f5.type d5 G5):Op P W t (Kd.iso (Kd.pair d0 (Kd.pair d1 (Kd.pair d2 (Kd.pair d3 (Kd.pair d4 d5))))) g) (fun x=>G0 (g x).1∧G1 (g x).2.1∧G2 (g x).2.2.1∧G3 (g x).2.2.2.1∧G4 (g x).2.2.2.2.1∧G5 (g x).2.2.2.2.2):=by
 intro H enc fuel cs x h hw;obtain⟨xs,n,_,rfl,hl,hlen,hf⟩:=DataW.trod_struct ht h;rw[hn]at hl
 match xs,hlen,cs,hl with
 | [y0,y1,y2,y3,y4,y5],_,[v0,v1,v2,v3,v4,v5],_=>
  rw[DataW.weights,ht]at hw;have e0:=hf 0 f0 rfl;rw[o0,c0]at e0;obtain⟨p0,h0,g0⟩:=he0 H enc n [v0] _ e0 (fun n hn=>hw n (List.mem_append.2 (Or.inl hn)));have e1:=hf 1 f1 rfl;rw[o1,c1]at e1;obtain⟨p1,h1,g1⟩:=he1 H enc n [v1] _ e1 (fun n hn=>hw n (List.mem_append.2 (Or.inr (List.mem_append.2 (Or.inl hn)))));have e2:=hf 2 f2 rfl;rw[o2,c2]at e2;obtain⟨p2,h2,g2⟩:=he2 H enc n [v2] _ e2 (fun n hn=>hw n (List.mem_append.2 (Or.inr (List.mem_append.2 (Or.inr (List.mem_append.2 (Or.inl hn)))))));have e3:=hf 3 f3 rfl;rw[o3,c3]at e3;obtain⟨p3,h3,g3⟩:=he3 H enc n [v3] _ e3 (fun n hn=>hw n (List.mem_append.2 (Or.inr (List.mem_append.2 (Or.inr (List.mem_append.2 (Or.inr (List.mem_append.2 (Or.inl hn)))))))));have e4:=hf 4 f4 rfl;rw[o4,c4]at e4;obtain⟨p4,h4,g4⟩:=he4 H enc n [v4] _ e4 (fun n hn=>hw n (List.mem_append.2 (Or.inr (List.mem_append.2 (Or.inr (List.mem_append.2 (Or.inr (List.mem_append.2 (Or.inr (List.mem_append.2 (Or.inl hn)))))))))));have e5:=hf 5 f5 rfl;rw[o5,c5]at e5;obtain⟨p5,h5,g5⟩:=he5 H enc n [v5] _ e5 (fun n hn=>hw n (List.mem_append.2 (Or.inr (List.mem_append.2 (Or.inr (List.mem_append.2 (Or.inr (List.mem_append.2 (Or.inr (List.mem_append.2 (Or.inr (List.mem_append.2 (Or.inl hn)))))))))))));refine⟨gi p0 p1 p2 p3 p4 p5,?_,?_⟩
  ·show Kd.K (Kd.pair d0 (Kd.pair d1 (Kd.pair d2 (Kd.pair d3 (Kd.pair d4 d5))))) W (g (gi p0 p1 p2 p3 p4 p5)) _;rw[hg];exact⟨[v0],_,rfl,h0,⟨[v1],_,rfl,h1,⟨[v2],_,rfl,h2,⟨[v3],_,rfl,h3,⟨[v4],_,rfl,h4,h5⟩⟩⟩⟩⟩
  ·show G0 (g (gi p0 p1 p2 p3 p4 p5)).1∧G1 (g (gi p0 p1 p2 p3 p4 p5)).2.1∧G2 (g (gi p0 p1 p2 p3 p4 p5)).2.2.1∧G3 (g (gi p0 p1 p2 p3 p4 p5)).2.2.2.1∧G4 (g (gi p0 p1 p2 p3 p4 p5)).2.2.2.2.1∧G5 (g (gi p0 p1 p2 p3 p4 p5)).2.2.2.2.2;rw[hg];exact⟨g0,g1,g2,g3,g4,g5⟩
end Go.Proofs.YtnkhnnojdlgfjaaGreatDoor.Opn
end
section
namespace Go.Proofs.YtnkhnnojdlgfjaaGreatDoor.Opn
open RowKit Deep ChangeShapes WideShapes ChangeAt PA PB PC
variable {P : Program} {W : World}
theorem Op.st6 {t:TypeId}{f0 f1 f2 f3 f4 f5:Field}{α0 α1 α2 α3 α4 α5 γ:Type}{d0:Kd α0}{d1:Kd α1}{d2:Kd α2}{d3:Kd α3}{d4:Kd α4}{d5:Kd α5}{G0:α0→Prop}{G1:α1→Prop}{G2:α2→Prop}{G3:α3→Prop}{G4:α4→Prop}{G5:α5→Prop}(ht:P.underlying t=some (.struct #[f0,f1,f2,f3,f4,f5])) (g:γ→α0 × α1 × α2 × α3 × α4 × α5) (gi:α0→α1→α2→α3→α4→α5→γ) (hg:∀a b c d e f,g (gi a b c d e f)=(a,b,c,d,e,f))
  (o0:f0.offset=0) (o1:f1.offset=d0.sz) (o2:f2.offset=d0.sz+d1.sz) (o3:f3.offset=d0.sz+d1.sz+d2.sz) (o4:f4.offset=d0.sz+d1.sz+d2.sz+d3.sz) (o5:f5.offset=d0.sz+d1.sz+d2.sz+d3.sz+d4.sz) (c0:P.cellsOf f0.type=d0.sz) (c1:P.cellsOf f1.type=d1.sz) (c2:P.cellsOf f2.type=d2.sz) (c3:P.cellsOf f3.type=d3.sz) (c4:P.cellsOf f4.type=d4.sz) (c5:P.cellsOf f5.type=d5.sz) (hn:P.cellsOf t=d0.sz+d1.sz+d2.sz+d3.sz+d4.sz+d5.sz)
  (he0:Op P W f0.type d0 G0) (he1:Op P W f1.type d1 G1) (he2:Op P W f2.type d2 G2) (he3:Op P W f3.type d3 G3) (he4:Op P W f4.type d4 G4) (he5:Op P W f5.type d5 G5):Op P W t (Kd.iso (Kd.pair d0 (Kd.pair d1 (Kd.pair d2 (Kd.pair d3 (Kd.pair d4 d5))))) g) (fun x=>G0 (g x).1∧G1 (g x).2.1∧G2 (g x).2.2.1∧G3 (g x).2.2.2.1∧G4 (g x).2.2.2.2.1∧G5 (g x).2.2.2.2.2):=by
 intro H enc fuel cs x h hw;obtain⟨xs,n,_,rfl,hl,hlen,hf⟩:=DataW.trod_struct ht h;rw[hn]at hl
 match xs,hlen with
 | [y0,y1,y2,y3,y4,y5],_=>
  rw[DataW.weights,ht]at hw;have e0:=hf 0 f0 rfl;have e1:=hf 1 f1 rfl;have e2:=hf 2 f2 rfl;have e3:=hf 3 f3 rfl;have e4:=hf 4 f4 rfl;have e5:=hf 5 f5 rfl;rw[o0,List.drop_zero,c0]at e0;rw[o1,c1]at e1;rw[o2,c2]at e2;rw[o3,c3]at e3;rw[o4,c4]at e4;rw[o5,c5]at e5;obtain⟨p0,h0,g0⟩:=he0 H enc n _ _ e0 (fun n hn=>hw n (List.mem_append.2 (Or.inl hn)));obtain⟨p1,h1,g1⟩:=he1 H enc n _ _ e1 (fun n hn=>hw n (List.mem_append.2 (Or.inr (List.mem_append.2 (Or.inl hn)))));obtain⟨p2,h2,g2⟩:=he2 H enc n _ _ e2 (fun n hn=>hw n (List.mem_append.2 (Or.inr (List.mem_append.2 (Or.inr (List.mem_append.2 (Or.inl hn)))))));obtain⟨p3,h3,g3⟩:=he3 H enc n _ _ e3 (fun n hn=>hw n (List.mem_append.2 (Or.inr (List.mem_append.2 (Or.inr (List.mem_append.2 (Or.inr (List.mem_append.2 (Or.inl hn)))))))));obtain⟨p4,h4,g4⟩:=he4 H enc n _ _ e4 (fun n hn=>hw n (List.mem_append.2 (Or.inr (List.mem_append.2 (Or.inr (List.mem_append.2 (Or.inr (List.mem_append.2 (Or.inr (List.mem_append.2 (Or.inl hn)))))))))));obtain⟨p5,h5,g5⟩:=he5 H enc n _ _ e5 (fun n hn=>hw n (List.mem_append.2 (Or.inr (List.mem_append.2 (Or.inr (List.mem_append.2 (Or.inr (List.mem_append.2 (Or.inr (List.mem_append.2 (Or.inr (List.mem_append.2 (Or.inl hn)))))))))))));refine⟨gi p0 p1 p2 p3 p4 p5,?_,?_⟩
  ·show Kd.K (Kd.pair d0 (Kd.pair d1 (Kd.pair d2 (Kd.pair d3 (Kd.pair d4 d5))))) W (g (gi p0 p1 p2 p3 p4 p5)) _;rw[hg];rw[List.take_of_length_le (by rw[List.length_drop];omega)]at h5;have sp:∀a b,cs.drop a=(cs.drop a).take b++cs.drop (a+b):=fun a b=>by
    rw[←List.drop_drop (i:=b) (j:=a)];exact(List.take_append_drop _ _).symm
   refine⟨cs.take d0.sz,cs.drop d0.sz,(List.take_append_drop _ _).symm,h0,(cs.drop d0.sz).take d1.sz,cs.drop (d0.sz+d1.sz),?_,h1,(cs.drop (d0.sz+d1.sz)).take d2.sz,cs.drop (d0.sz+d1.sz+d2.sz),?_,h2,(cs.drop (d0.sz+d1.sz+d2.sz)).take d3.sz,cs.drop (d0.sz+d1.sz+d2.sz+d3.sz),?_,h3,(cs.drop (d0.sz+d1.sz+d2.sz+d3.sz)).take d4.sz,cs.drop (d0.sz+d1.sz+d2.sz+d3.sz+d4.sz),?_,h4,h5⟩
   all_goals exact sp _ _
  ·show G0 (g (gi p0 p1 p2 p3 p4 p5)).1∧G1 (g (gi p0 p1 p2 p3 p4 p5)).2.1∧G2 (g (gi p0 p1 p2 p3 p4 p5)).2.2.1∧G3 (g (gi p0 p1 p2 p3 p4 p5)).2.2.2.1∧G4 (g (gi p0 p1 p2 p3 p4 p5)).2.2.2.2.1∧G5 (g (gi p0 p1 p2 p3 p4 p5)).2.2.2.2.2;rw[hg];exact⟨g0,g1,g2,g3,g4,g5⟩
end Go.Proofs.YtnkhnnojdlgfjaaGreatDoor.Opn
end
section
namespace Go.Proofs.YtnkhnnojdlgfjaaGreatDoor.Qw
open RowKit Tr Tk Tm Qu PA PB PC
variable {A B : Option Addr} {c d : Nat} {w : World} {q : Q}
theorem Tells_ (h:q.t.ns.length≤70→q.ws.length≤70→QIn NS A c B d w q) (hT:Emp w) (id x n:Int):Calls Tryz.prog 5 #[.agg #[.int .i64 q.t.rt,.slice A q.t.ns.length c,.int .i64 q.cur,.int .u64 q.v,.int .u64 q.mn,.int .i64 q.load,.slice B q.ws.length d,.int .i64 id,.int .i64 x,.int .i64 n]] w fun e w'=>e=.returned (.bool true)∧Below w.heap.size w w':=by
 have HQ:=Z h;have HT:=Z hT;have HD:=Z (fun(W:World) (h:QIn NS A c B d W q) (hT:Emp W)=>told_ h hT id x n);clear h hT;obtain⟨⟨ns,rt⟩,cur,v,mn,load,ws⟩:=q;replace HD:zA (∀(W:World),QIn NS A c B d W ⟨⟨ns,rt⟩,cur,v,mn,load,ws⟩→Emp W→Calls Tryz.prog 16 #[.agg #[.int .i64 rt,.slice A ns.length c,.int .i64 cur,.int .u64 v,.int .u64 mn,.int .i64 load,.slice B ws.length d],.int .i64 id,.int .i64 x,.int .i64 n] W fun e w'=>e=.returned (.bool true)∧Below W.heap.size W w'):=HD;show Calls Tryz.prog 5 #[.agg #[.int .i64 rt,.slice A ns.length c,.int .i64 cur,.int .u64 v,.int .u64 mn,.int .i64 load,.slice B ws.length d,.int .i64 id,.int .i64 x,.int .i64 n]] w _;go_enter Tryz.func5,Tryz.ntmps5;go_upto_region 1 with(fail);have HX:=Z (zQ w (.cells #[.int .i64 rt,.slice A ns.length c,.int .i64 cur,.int .u64 v,.int .u64 mn,.int .i64 load,.slice B ws.length d,.int .i64 id,.int .i64 x,.int .i64 n] 48));have HB:=Z (zB (Below.refl w.heap.size w) (.cells #[.int .i64 rt,.slice A ns.length c,.int .i64 cur,.int .u64 v,.int .u64 mn,.int .i64 load,.slice B ws.length d,.int .i64 id,.int .i64 x,.int .i64 n] 48));generalize w.alloc (.cells #[.int .i64 rt,.slice A ns.length c,.int .i64 cur,.int .u64 v,.int .u64 mn,.int .i64 load,.slice B ws.length d,.int .i64 id,.int .i64 x,.int .i64 n] 48)=W1 at HX HB⊢;have HT1:=Z (HT.o.below HB.o);have a1:=(show W1.cell? ⟨w.heap.size,1,none⟩=some (.slice A ns.length c)from(zC HX.o 1).trans rfl);have a6:=(show W1.cell? ⟨w.heap.size,6,none⟩=some (.slice B ws.length d)from(zC HX.o 6).trans rfl);cases b1:decide ((70:Int)<(ns.length:Int))with
 | true=>
  have b1':(70:Int)<(ns.length:Int):=of_decide_eq_true b1;go_wp2_with (go_at_call 8;go_loud (refine(awakeQ_ _ HT1.o).mono ?_;rintro e w2 ⟨rfl,hb⟩;have HB2:=Z (zD HB.o hb);clear hb));go_ret;exact⟨rfl,HB2.o⟩
 | false=>
  have b1':¬(70:Int)<(ns.length:Int):=of_decide_eq_false b1;cases b2:decide ((70:Int)<(ws.length:Int))with
  | true=>
   have b2':(70:Int)<(ws.length:Int):=of_decide_eq_true b2;go_wp2_with (go_at_call 8;go_loud (refine(awakeQ_ _ HT1.o).mono ?_;rintro e w2 ⟨rfl,hb⟩;have HB2:=Z (zD HB.o hb);clear hb));go_ret;exact⟨rfl,HB2.o⟩
  | false=>
   have b2':¬(70:Int)<(ws.length:Int):=of_decide_eq_false b2;have HQ1:=Z ((HQ.o (by show ns.length≤70;omega) (by show ws.length≤70;omega)).below HB.o);go_upto_region 3 with(fail);clear a1 a6;go_wp2_with (first
    | (go_at_call 8;go_loud (refine(awakeQ_ _ HT1.o).mono ?_;rintro e w2 ⟨rfl,hb⟩;have HB2:=Z (zD HB.o hb);have HX2:=Z (zH HX.o hb);have HQ2:=Z (HQ1.o.below hb);have HT2:=Z (HT1.o.below hb);clear hb;have a0:=(show w2.cell? ⟨w.heap.size,0,none⟩=some (.int .i64 rt)from(zC HX2.o 0).trans rfl);have a1:=(show w2.cell? ⟨w.heap.size,1,none⟩=some (.slice A ns.length c)from(zC HX2.o 1).trans rfl);have a2:=(show w2.cell? ⟨w.heap.size,2,none⟩=some (.int .i64 cur)from(zC HX2.o 2).trans rfl);have a3:=(show w2.cell? ⟨w.heap.size,3,none⟩=some (.int .u64 v)from(zC HX2.o 3).trans rfl);have a4:=(show w2.cell? ⟨w.heap.size,4,none⟩=some (.int .u64 mn)from(zC HX2.o 4).trans rfl);have a5:=(show w2.cell? ⟨w.heap.size,5,none⟩=some (.int .i64 load)from(zC HX2.o 5).trans rfl);have a6:=(show w2.cell? ⟨w.heap.size,6,none⟩=some (.slice B ws.length d)from(zC HX2.o 6).trans rfl);have a7:=(show w2.cell? ⟨w.heap.size,7,none⟩=some (.int .i64 id)from(zC HX2.o 7).trans rfl);have a8:=(show w2.cell? ⟨w.heap.size,8,none⟩=some (.int .i64 x)from(zC HX2.o 8).trans rfl);have a9:=(show w2.cell? ⟨w.heap.size,9,none⟩=some (.int .i64 n)from(zC HX2.o 9).trans rfl)))
    | (go_at_call 16;go_loud (refine(HD.o _ HQ2.o HT2.o).mono ?_;rintro e w3 ⟨rfl,hb⟩;have HB3:=Z (zD HB2.o hb);clear hb)))
   go_ret;exact⟨rfl,HB3.o⟩
def toQ (t:St) (a b c d:Int) (l:List Int):Q:=⟨t,a,b,c,d,l⟩
def kt:Kd St:=Kd.iso (Kd.pair (Kd.int .i64) (Kd.slice 72 kn)) (fun x:St=>(x.rt,x.ns))
def kq:Kd Q:=Kd.iso (Kd.pair kt (Kd.pair (Kd.int .i64) (Kd.pair (Kd.int .u64) (Kd.pair (Kd.int .u64) (Kd.pair (Kd.int .i64) (Kd.slice 3 ki)))))) (fun x:Q=>(x.t,x.cur,x.v,x.mn,x.load,x.ws))
theorem kq_open {W:World}{q:Q}{cs:List Value}(h:kq.K W q cs):∃A c B d,cs=[.int .i64 q.t.rt,.slice A q.t.ns.length c,.int .i64 q.cur,.int .u64 q.v,.int .u64 q.mn,.int .i64 q.load,.slice B q.ws.length d]∧q.t.ns.length≤c∧kn.C W A q.t.ns.length q.t.ns∧q.ws.length≤d∧ki.C W B q.ws.length q.ws:=by
 obtain⟨k0,k1,rfl,⟨t0,t1,rfl,rfl,A,c,rfl,hc,hC⟩,u0,u1,rfl,rfl,v0,v1,rfl,rfl,m0,m1,rfl,rfl,l0,l1,rfl,rfl,B,d,rfl,hd,hD⟩:=h;exact⟨A,c,B,d,rfl,hc,hC,hd,hD⟩
end Go.Proofs.YtnkhnnojdlgfjaaGreatDoor.Qw
end
section
namespace Go.Proofs.YtnkhnnojdlgfjaaGreatDoor.Tm
open RowKit Tr
theorem gE : Tryz.prog.globalNamed "turnspit/tree.empty" = some 0 := by kernel_rfl
theorem tE:(Tryz.prog.globals[0]?).map (·.type)=some 72:=by kernel_rfl
theorem u4:Tryz.prog.cellsOf 4=1:=by kernel_rfl
theorem u25:Tryz.prog.cellsOf 22=1:=by kernel_rfl
theorem u3:Tryz.prog.cellsOf 3=1:=by kernel_rfl
theorem one_bool {H:Type}{enc:TypeId × Value→H}{W:World}{base:Nat}{sp:Nat→Bool}{held:Bool}{n:Nat}{cs:List Value}{i:Nat}{y:DataW H × List MemPlace}{b:Bool}(h:DataW.trod enc Tryz.prog W base sp held n 4 ((cs.drop i).take 1)=some y) (hy:y.1=.lit (.bool b)):cs[i]?=some (.bool b):=by
 obtain⟨b',hc,rfl⟩:=DataW.trod_bool Tryz.underlying4 h;simp only[DataW.lit.injEq,Lit.bool.injEq]at hy;subst hy;have:=congrArg (·[0]?) hc
 simpa [List.getElem?_take,List.getElem?_drop]using this
theorem zcJ {H:Type}{enc:TypeId × Value→H}{W:World}{base:Nat}{sp:Nat→Bool}{held:Bool}{n:Nat}{cs:List Value}{i:Nat}{t:TypeId}{k:IntKind}(ht:Tryz.prog.underlying t=some (.int k)) {y:DataW H × List MemPlace}{z:Int}(h:DataW.trod enc Tryz.prog W base sp held n t ((cs.drop i).take 1)=some y) (hy:y.1=.lit (.int k z)):cs[i]?=some (.int k z):=by
 obtain⟨z',hc,rfl,_⟩:=DataW.trod_int ht h;simp only[DataW.lit.injEq,Lit.int.injEq,true_and]at hy;subst hy;have:=congrArg (·[0]?) hc
 simpa [List.getElem?_take,List.getElem?_drop]using this
/-- what the row's condition gives -/
theorem Emp_of_laid {W : World} (h : laidMetH Tryz.prog [("turnspit/tree.empty", Rows.laid_turnspit_tree_empty)] W) : Emp W := by
 rw[MakeChecks.laidMetH_plain _ _ _ (by kernel_rfl)]at h;obtain⟨ps,⟨g',t',cs,fuel,p,q,hg',ht',hvar,hd,_,_⟩,_⟩:=h;obtain rfl:=Option.some.inj (gE.symm.trans hg');obtain rfl:=Option.some.inj (tE.symm.trans ht');obtain⟨xs,n,_,hx,hl,hlen,hf⟩:=DataW.trod_struct Tryz.underlying72 hd;have hc:=fun i=>World.var?_cell gE hvar i
 match xs,hlen with
 | [y0,y1,y2,y3,y4,y5],_=>
  have hx1:=congrArg Prod.fst hx;simp only[Rows.laid_turnspit_tree_empty,List.map_cons,List.map_nil,DataW.agg.injEq,List.cons.injEq,and_true]at hx1;obtain⟨e0,e1,e2,e3,e4,e5⟩:=hx1;have f0:=hf 0 _ rfl;have f1:=hf 1 _ rfl;have f2:=hf 2 _ rfl;have f3:=hf 3 _ rfl;have f4:=hf 4 _ rfl;have f5:=hf 5 _ rfl;simp only[u4,u25,u3,List.getElem_cons_zero,List.getElem_cons_succ,List.getElem?_cons_zero,List.getElem?_cons_succ]at f0 f1 f2 f3 f4 f5;have g0:=one_bool f0 e0.symm;have g1:=one_bool f1 e1.symm;have g2:=zcJ Tryz.underlying22 f2 e2.symm;have g3:=zcJ Tryz.underlying3 f3 e3.symm;have g4:=zcJ Tryz.underlying3 f4 e4.symm;have g5:=zcJ Tryz.underlying3 f5 e5.symm;have c0:=(hc 0).trans ((Array.getElem?_toList).symm.trans g0);exact⟨World.block_lt_of_cell? W _ c0,c0,(hc 1).trans ((Array.getElem?_toList).symm.trans g1),(hc 2).trans ((Array.getElem?_toList).symm.trans g2),(hc 3).trans ((Array.getElem?_toList).symm.trans g3),(hc 4).trans ((Array.getElem?_toList).symm.trans g4),(hc 5).trans ((Array.getElem?_toList).symm.trans g5)⟩
end Go.Proofs.YtnkhnnojdlgfjaaGreatDoor.Tm
end
