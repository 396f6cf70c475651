/- Parts of the proof, joined: Srt, Srt2. -/
import Derived.Test.YtnkhnnojdlgfjaaGreatDoorUI15
import Derived.WalkKit
import Derived.KernelRfl
import Derived.Below
import Derived.Test.YtnkhnnojdlgfjaaGreatDoorProg
import Derived.Lib.Hide
import Derived.Outline
import Derived.WalkSpells
import Derived.RegionTactic
import Derived.ChangeAlike
import Derived.BigRegion
import Derived.Deep.QuietTactic
import Derived.BigQuiet
import Derived.StillTailTactics
import Derived.IntWalk
set_option linter.unusedVariables false
set_option linter.unusedSimpArgs false
set_option maxHeartbeats 32000000
set_option maxRecDepth 100000
section
namespace Go.Proofs.YtnkhnnojdlgfjaaGreatDoor.Srt
open RowKit Ky PA PB PC
def flat:List K→List Value
 | []=>[]
 | x::t=>.int .u64 x.1::.int .i64 x.2::flat t
theorem zY:∀l:List K,(flat l).length=l.length*2
 | []=>rfl
 | x::t=>by rw[flat,List.length_cons,List.length_cons,zY t,List.length_cons];omega
theorem flat_even:∀(l:List K) (i:Nat),i<l.length→(flat l)[i*2]?=some (.int .u64 (gt l i).1)
 | [],i,h=>by simp at h
 | x::t,0,h=>rfl
 | x::t,i+1,h=>by
  rw[show(i+1)*2=i*2+1+1 by omega,flat,List.getElem?_cons_succ,List.getElem?_cons_succ];exact flat_even t i (by simpa using h)
theorem flat_odd:∀(l:List K) (i:Nat),i<l.length→(flat l)[i*2+1]?=some (.int .i64 (gt l i).2)
 | [],i,h=>by simp at h
 | x::t,0,h=>rfl
 | x::t,i+1,h=>by
  rw[show(i+1)*2+1=i*2+1+1+1 by omega,flat,List.getElem?_cons_succ,List.getElem?_cons_succ];exact flat_odd t i (by simpa using h)
theorem wR:∀(l:List K) (i:Nat) (x:K),((flat l).set (i*2) (.int .u64 x.1)).set (i*2+1) (.int .i64 x.2)=flat (l.set i x)
 | [],i,x=>by simp[flat]
 | y::t,0,x=>rfl
 | y::t,i+1,x=>by
  rw[show(i+1)*2=i*2+1+1 by omega,show i*2+1+1+1=(i*2+1)+1+1 by omega,flat,List.set_cons_succ,List.set_cons_succ,List.set_cons_succ,List.set_cons_succ,wR t i x,List.set_cons_succ,flat]
structure Arr (rs:List Value) (w:World) (g:Nat) (l:List K):Prop where mk::
 o:∃(cur:Array Value),w.heap[g]?=some (.cells cur 38 (0,0))∧cur.toList=flat l++rs
variable {rs : List Value}
section
variable {w w1 : World} {g : Nat} {l : List K}
theorem Arr.lt (h:Arr rs w g l):g<w.heap.size:=by
 obtain⟨cur,h1,_⟩:=h.o;exact(Array.getElem?_eq_some_iff.1 h1).1
theorem Arr.even (h:Arr rs w g l) (i:Nat) (hi:i<l.length):w.cell? ⟨g,i*2,none⟩=some (.int .u64 (gt l i).1):=by
 obtain⟨cur,h1,h2⟩:=h.o;rw[zC h1,←Array.getElem?_toList,h2,List.getElem?_append_left (by rw[zY];omega),flat_even l i hi]
theorem Arr.odd (h:Arr rs w g l) (i:Nat) (hi:i<l.length):w.cell? ⟨g,i*2+1,none⟩=some (.int .i64 (gt l i).2):=by
 obtain⟨cur,h1,h2⟩:=h.o;rw[zC h1,←Array.getElem?_toList,h2,List.getElem?_append_left (by rw[zY];omega),flat_odd l i hi]
theorem Arr.frozen (h:Arr rs w g l) (i:Nat):w.frozen? ⟨g,i,none⟩=false:=by
 obtain⟨cur,h1,_⟩:=h.o;exact zK h1 i
theorem Arr.moved (h:Arr rs w g l) (hb:w1.heap[g]?=w.heap[g]?):Arr rs w1 g l:=by
 obtain⟨cur,h1,h2⟩:=h.o;exact⟨cur,hb.trans h1,h2⟩
theorem Arr.below (h:Arr rs w g l) (hb:Below w.heap.size w w1):Arr rs w1 g l:=h.moved (hb.block g h.lt)
theorem Arr.drewN (h:Arr rs w g l) (n:Nat):Arr rs (w.drewN n) g l:=h.moved rfl
theorem Arr.set (h:Arr rs w g l) (i:Nat) (hi:i<l.length) (x:K):Arr rs ((w.setCell ⟨g,i*2,none⟩ (.int .u64 x.1)).setCell ⟨g,i*2+1,none⟩ (.int .i64 x.2)) g (l.set i x):=by
 obtain⟨cur,h1,h2⟩:=h.o;refine⟨_,yR (yR h1 _ _) _ _,?_⟩;rw[Array.toList_setIfInBounds,Array.toList_setIfInBounds,h2,List.set_append_left _ _ (by rw[zY];omega),List.set_append_left _ _ (by rw[List.length_set,zY];omega),wR]
end
structure Sl1 (P:Nat→World→Prop) (u:Value) (w:World):Prop where mk::
 o:∃k:Nat,u=.int .i64 k∧P k w
structure Sl2 (P:Nat→Nat→World→Prop) (u v:Value) (w:World):Prop where mk::
 o:∃j k:Nat,u=.int .i64 j∧v=.int .i64 k∧P j k w
theorem zaE (w:World) (g:Option Nat):w.grownBy w g:=⟨rfl,rfl,rfl,Nat.le_refl _,fun _ _ _=>rfl⟩
theorem jL {a b c:World}{g:Nat}(h:a.grownBy b (some g)) (k:b.grownBy c (some g)):a.grownBy c (some g):=
 ⟨k.os.trans h.os,k.tape.trans h.tape,k.output.trans h.output,Nat.le_trans h.size k.size,fun i hi hne=>(k.block i (Nat.lt_of_lt_of_le hi h.size) hne).trans (h.block i hi hne)⟩
theorem gb_set {a b:World}{g:Nat}(h:a.grownBy b (some g)) (i:Nat) (u:Value):a.grownBy (b.setCell ⟨g,i,none⟩ u) (some g):=
 ⟨h.os,h.tape,h.output,by simp[World.setCell];exact h.size,fun k hk hne=>(Below.heap_setCell b ⟨g,i,none⟩ u k (fun e=>hne (by rw[e]))).trans (h.block k hk hne)⟩
theorem zbH {a b:World}{g:Nat}(h:a.grownBy b (some g)):a.grownBy b.drew (some g):=⟨h.os,h.tape,h.output,h.size,h.block⟩
theorem gb_drewN {a b:World}{g:Nat}(h:a.grownBy b (some g)) (n:Nat):a.grownBy (b.drewN n) (some g):=⟨h.os,h.tape,h.output,h.size,h.block⟩
theorem vB {a b c:World}{g:Nat}(h:a.grownBy b (some g)) (k:Below b.heap.size b c):a.grownBy c (some g):=
 ⟨k.os.trans h.os,k.tape.trans h.tape,k.output.trans h.output,Nat.le_trans h.size k.size,fun i hi hne=>(k.block i (Nat.lt_of_lt_of_le hi h.size)).trans (h.block i hi hne)⟩
theorem kT {a b:World}{g:Nat}(h:a.grownBy b (some g)) {B:Nat}{v:Value}(hne:B≠g) (hc:a.cell? ⟨B,0,none⟩=some v):b.cell? ⟨B,0,none⟩=some v:=h.cell hc (fun e=>hne (by injection e))
theorem zbN {w wr:World}{g i j:Nat}{L:List K}{x y:K}(HA:Arr rs wr g L) (HG:w.grownBy wr (some g)) (hi:i<L.length) (hj:j<L.length) (hx:gt L i=x) (hy:gt L j=y) :
  Arr rs (((((wr.setCell ⟨g,i*2,none⟩ (.int .u64 y.1)).setCell ⟨g,i*2+1,none⟩ (.int .i64 y.2)).setCell ⟨g,j*2,none⟩ (.int .u64 x.1)).setCell ⟨g,j*2+1,none⟩ (.int .i64 x.2)).drew) g (swp L i j)∧
  w.grownBy (((((wr.setCell ⟨g,i*2,none⟩ (.int .u64 y.1)).setCell ⟨g,i*2+1,none⟩ (.int .i64 y.2)).setCell ⟨g,j*2,none⟩ (.int .u64 x.1)).setCell ⟨g,j*2+1,none⟩ (.int .i64 x.2)).drew) (some g):=by
 subst hx;subst hy;exact⟨((HA.set i hi _).set j (by simpa using hj) _).drewN 1,zbH (gb_set (gb_set (gb_set (gb_set HG _ _) _ _) _ _) _ _)⟩
theorem swapRange (g n0 c0 a b n:Nat) (cm:Value) (l:List K) (w:World) (hA:Arr rs w g l) (hn:n0=l.length) (hl:l.length≤1000000) (ha:a+n≤b) (hb:b+n≤l.length) :
  Calls Tryz.prog 159 #[.slice (some ⟨g,0,none⟩) n0 c0,.int .i64 a,.int .i64 b,.int .i64 n,cm] w fun e w'=>e=.returned (.tuple #[])∧Arr rs w' g (swr l a b n)∧w.grownBy w' (some g):=by
 have HA:=Z hA;have HN:=Z hn;clear hA hn;go_enter Tryz.func159,Tryz.ntmps159;go_wp2
 go_loopw [10] (fun i wr=>∃k:Nat,k≤n∧i=.int .i64 k∧zA (Arr rs wr g (swr l a b k))∧zA (w.grownBy wr (some g))) (fun i _=>n-(intOf i).toNat)
 case atStart=>exact⟨0,Nat.zero_le _,rfl,HA,⟨zaE _ _⟩⟩
 case round=>
  clear HA;obtain⟨k,hk,rfl,HA,HG⟩:=hrel;by_cases hlt:k<n;rotate_left
  ·obtain rfl:k=n:=by omega
   go_wp2
   go_end0
   exact⟨rfl,HA.o,HG.o⟩
  have hlen:=jG l a b k;have HNX:=Z (show swr l a b (k+1)=swp (swr l a b k) (a+k) (b+k)from rfl);generalize swr l a b k=L at HA hlen HNX;have HL:=Z hlen;have c1:=HA.o.even (a+k) (by omega);have c2:=HA.o.odd (a+k) (by omega);have c3:=HA.o.even (b+k) (by omega);have c4:=HA.o.odd (b+k) (by omega);have f1:=HA.o.frozen ((a+k)*2);have f2:=HA.o.frozen ((a+k)*2+1);have f3:=HA.o.frozen ((b+k)*2);have f4:=HA.o.frozen ((b+k)*2+1);have n1:((a:Int)+(k:Int))<(n0:Int):=by rw[HN.o];omega
  have n2:((b:Int)+(k:Int))<(n0:Int):=by rw[HN.o];omega
  have n3:((a:Int)+(k:Int)).toNat=a+k:=by omega
  have n4:((b:Int)+(k:Int)).toNat=b+k:=by omega
  clear hlen;generalize hx:gt L (a+k)=x at c1 c2;generalize hy:gt L (b+k)=y at c3 c4;have HX:=Z hx;have HY:=Z hy;clear hx hy;go_wp2
  go_region
  obtain⟨hA2,hG2⟩:=zbN HA.o HG.o (by rw[HL.o];omega) (by rw[HL.o];omega) HX.o HY.o;have HA2:=Z hA2;have HG2:=Z hG2;clear hA2 hG2 c1 c2 c3 c4 f1 f2 f3 f4 n1 n2 n3 n4;generalize((((wr.setCell _ _).setCell _ _).setCell _ _).setCell _ _).drew=w2 at HA2 HG2⊢;go_wp2;refine⟨⟨k+1,by omega,by simp,⟨by rw[HNX.o];exact HA2.o⟩,HG2⟩,?_⟩;show n-((k:Int)+1).toNat<n-(k:Int).toNat;omega
theorem zaz (g n0 c0 a b n:Nat) (A B N:Int) (ea:A=a) (eb:B=b) (en:N=n) (cm:Value) (l:List K) (w:World) (hA:Arr rs w g l) (hn:n0=l.length) (hl:l.length≤1000000) (ha:a+n≤b) (hb:b+n≤l.length) :
  Calls Tryz.prog 159 #[.slice (some ⟨g,0,none⟩) n0 c0,.int .i64 A,.int .i64 B,.int .i64 N,cm] w fun e w'=>e=.returned (.tuple #[])∧Arr rs w' g (swr l a b n)∧w.grownBy w' (some g):=by
 subst ea;subst eb;subst en;exact swapRange g n0 c0 a b n cm l w hA hn hl ha hb
theorem rotate (g n0 c0 a m b:Nat) (cm:Value) (l:List K) (w:World) (hA:Arr rs w g l) (hn:n0=l.length) (hl:l.length≤1000000) (ha:a<m) (hm:m<b) (hb:b≤l.length) :
  Calls Tryz.prog 158 #[.slice (some ⟨g,0,none⟩) n0 c0,.int .i64 a,.int .i64 m,.int .i64 b,cm] w fun e w'=>e=.returned (.tuple #[])∧(∃l',Arr rs w' g l'∧Rot l l' a m b)∧w.grownBy w' (some g):=by
 have HA:=Z hA;have HN:=Z hn;clear hA hn;go_enter Tryz.func158,Tryz.ntmps158;go_wp2
 go_loopw [10,11] (fun i j wr=>∃(p q:Nat) (L:List K),0<p∧0<q∧a+p≤m∧m+q≤b∧i=.int .i64 p∧j=.int .i64 q∧zA (Arr rs wr g L)∧zA (L.length=l.length)∧zA (w.grownBy wr (some g))∧zA (∀l',Rot L l' (m-p) m (m+q)→Rot l l' a m b)) (fun i j _=>(intOf i).toNat+(intOf j).toNat)
 case atStart=>
  refine⟨m-a,b-m,l,by omega,by omega,by omega,by omega,?_,?_,HA,⟨rfl⟩,⟨zaE _ _⟩,⟨fun l' h=>?_⟩⟩
  ·congr 1;omega
  ·congr 1;omega
  ·rwa [show m-(m-a)=a by omega,show m+(b-m)=b by omega]at h
 case round=>
  clear HA;obtain⟨p,q,L,hp,hq,h1,h2,rfl,rfl,HA,HL,HG,HR⟩:=hrel;by_cases heq:p=q
  ·subst heq;go_wp2_with (go_at_call 159;(with_reducible refine(zaz g n0 c0 (m-p) m p _ _ _ ?e1 ?e2 ?e3 cm L _ HA.o ?e4 ?e5 ?e6 ?e7).mono ?_);rotate_left 7;rintro e w' ⟨rfl,hA2,hG2⟩;have HA2:=Z hA2;have HG2:=Z (jL HG.o hG2);clear hA2 hG2)
   case e1=>omega
   case e2=>rfl
   case e3=>rfl
   case e4=>rw[HN.o,HL.o]
   case e5=>rw[HL.o];exact hl
   case e6=>omega
   case e7=>rw[HL.o];omega
   go_end0
   exact⟨rfl,⟨_,HA2.o,HR.o _ (rot_eq (by omega) (by rw[HL.o];omega))⟩,HG2.o⟩
  by_cases hgt:q<p
  ·go_wp2_with (go_at_call 159;(with_reducible refine(zaz g n0 c0 (m-p) m q _ _ _ ?e1 ?e2 ?e3 cm L _ HA.o ?e4 ?e5 ?e6 ?e7).mono ?_);rotate_left 7;rintro e w' ⟨rfl,hA2,hG2⟩;have HA2:=Z hA2;have HG2:=Z (jL HG.o hG2);clear hA2 hG2)
   case e1=>omega
   case e2=>rfl
   case e3=>rfl
   case e4=>rw[HN.o,HL.o]
   case e5=>rw[HL.o];exact hl
   case e6=>omega
   case e7=>rw[HL.o];omega
   refine⟨⟨p-q,q,_,by omega,hq,by omega,h2,by congr 1;omega,rfl,HA2,⟨by rw[jG,HL.o]⟩,HG2,⟨fun l' h=>HR.o l' (rot_more hq hgt (by omega) (by rw[HL.o];omega) h)⟩⟩,?_⟩;show((p:Int)-q).toNat+(q:Int).toNat<(p:Int).toNat+(q:Int).toNat;omega
  go_wp2_with (go_at_call 159;(with_reducible refine(zaz g n0 c0 (m-p) (m+q-p) p _ _ _ ?e1 ?e2 ?e3 cm L _ HA.o ?e4 ?e5 ?e6 ?e7).mono ?_);rotate_left 7;rintro e w' ⟨rfl,hA2,hG2⟩;have HA2:=Z hA2;have HG2:=Z (jL HG.o hG2);clear hA2 hG2)
  case e1=>omega
  case e2=>omega
  case e3=>rfl
  case e4=>rw[HN.o,HL.o]
  case e5=>rw[HL.o];exact hl
  case e6=>omega
  case e7=>rw[HL.o];omega
  refine⟨⟨p,q-p,_,hp,by omega,h1,by omega,rfl,by congr 1;omega,HA2,⟨by rw[jG,HL.o]⟩,HG2,⟨fun l' h=>HR.o l' (rot_less hp (by omega) (by omega) (by rw[HL.o];omega) h)⟩⟩,?_⟩;show(p:Int).toNat+((q:Int)-p).toNat<(p:Int).toNat+(q:Int).toNat;omega
def CmpOk (cv:K→K→Int) (B:Nat) (mn:Int):Prop:=∀(W:World) (x y:K),W.cell? ⟨B,0,none⟩=some (.int .u64 mn)→
 Calls Tryz.prog 120 #[.agg #[.int .u64 x.1,.int .i64 x.2],.agg #[.int .u64 y.1,.int .i64 y.2],.pointer (some ⟨B,0,none⟩)] W fun e w'=>e=.returned (.int .i64 (cv x y))∧Below W.heap.size W w'
theorem CmpOk.at_ {cv:K→K→Int}{B:Nat}{mn:Int}(h:CmpOk cv B mn) (W:World) (x y:K) (hb:W.cell? ⟨B,0,none⟩=some (.int .u64 mn)) :
 Calls Tryz.prog 120 #[.agg #[.int .u64 x.1,.int .i64 x.2],.agg #[.int .u64 y.1,.int .i64 y.2],.pointer (some ⟨B,0,none⟩)] W fun e w'=>e=.returned (.int .i64 (cv x y))∧Below W.heap.size W w':=h W x y hb
section
variable {cv : K → K → Int} (O : Ord cv) {B : Nat} {mn : Int} (hcm : CmpOk cv B mn)
include O hcm
theorem insertion (g n0 c0 a b:Nat) (hBg:B≠g) (l:List K) (w:World) (hA:Arr rs w g l) (hB:w.cell? ⟨B,0,none⟩=some (.int .u64 mn)) (hn:n0=l.length) (hl:l.length≤1000000) (ha:a≤b) (hb:b≤l.length) :
  Calls Tryz.prog 153 #[.slice (some ⟨g,0,none⟩) n0 c0,.int .i64 a,.int .i64 b,.func (.func 120) #[] #[.pointer (some ⟨B,0,none⟩)]] w fun e w'=>e=.returned (.tuple #[])∧(∃l',Arr rs w' g l'∧Rng l l' a b∧Srd cv l' a b)∧w.grownBy w' (some g):=by
 have HA:=Z hA;have HN:=Z hn;have HCM:=Z hcm;have HBX:=Z hB;clear hA hn hcm hB;go_enter Tryz.func153,Tryz.ntmps153;go_wp2
 go_loopw [8] (fun i wr=>∃(k:Nat) (L:List K),a+1≤k∧(k≤b∨k=a+1)∧i=.int .i64 k∧zA (Arr rs wr g L)∧zA (Rng l L a b)∧zA (Srd cv L a k)∧zA (w.grownBy wr (some g))) (fun i _=>b+1-(intOf i).toNat)
 case atStart=>exact⟨a+1,l,Nat.le_refl _,Or.inr rfl,by simp,HA,⟨Rng.refl _ _ _⟩,⟨Srd.one O _ (Nat.le_refl _)⟩,⟨zaE _ _⟩⟩
 case round=>
  clear HA;obtain⟨k,L,h1,h2,rfl,HA,HR,HS,HG⟩:=hrel;have HLL:=Z HR.o.len;by_cases hlt:k<b;rotate_left
  ·go_wp2
   go_end0
   exact⟨rfl,⟨L,HA.o,HR.o,HS.o.part (Nat.le_refl _) (by omega)⟩,HG.o⟩
  go_wp2
  go_loopw [9] (fun j wr2=>∃(q:Nat) (M:List K),a≤q∧q≤k∧j=.int .i64 q∧zA (Arr rs wr2 g M)∧zA (Dn L M a q k b)∧zA (∀t,q≤t→t<k→cv (gt L k) (gt L t)<0)∧zA (w.grownBy wr2 (some g))) (fun j _=>(intOf j).toNat)
  case atStart=>exact⟨k,L,by omega,Nat.le_refl _,rfl,HA,⟨Dn.refl _ _ _ _⟩,⟨fun t h3 h4=>by omega⟩,HG⟩
  case round=>
   clear HA HG;obtain⟨q,M,h3,h4,rfl,HA,HD,HC,HG⟩:=hrel;have HML:=Z HD.o.rng.len;by_cases hq:a<q;rotate_left
   ·have g1:decide ((a:Int)<(q:Int))=false:=decide_eq_false (by omega);go_wp2
    go_quiet (fail)
    go_wp2;have hS:=Dn.srd O HD.o h3 h4 HS.o (fun t h5 h6=>by omega) HC.o;refine⟨⟨k+1,M,by omega,Or.inl (by omega),by simp,⟨HA.o.moved rfl⟩,⟨HR.o.trans HD.o.rng⟩,⟨hS⟩,⟨gb_drewN HG.o _⟩⟩,?_⟩;show b+1-((k:Int)+1).toNat<b+1-(k:Int).toNat;omega
   have c1:=HA.o.even q (by rw[HML.o,HLL.o];omega);have c2:=HA.o.odd q (by rw[HML.o,HLL.o];omega);have c3:=HA.o.even (q-1) (by rw[HML.o,HLL.o];omega);have c4:=HA.o.odd (q-1) (by rw[HML.o,HLL.o];omega);have n1:(q:Int)<(n0:Int):=by rw[HN.o];omega
   have n2:(q:Int)-1<(n0:Int):=by rw[HN.o];omega
   have n3:((q:Int)-1).toNat=q-1:=by omega
   have n4:q<n0:=by rw[HN.o];omega
   have n5:(0:Int)≤(q:Int)-1:=by omega
   have n6:(1:Int)≤(q:Int):=by omega
   have n7:IntKind.i64.wrap ((q:Int)-1)=(q:Int)-1:=IntWalk.i64_in _ (by omega);have g1:(a:Int)<(q:Int):=by omega
   generalize hx:gt M q=x at c1 c2;generalize hy:gt M (q-1)=y at c3 c4;have HX:=Z hx;have HY:=Z hy;clear hx hy;go_wp2
   go_still_tail 14,(by kernel_rfl)
   change wpList _ _ _ _ _ wr.drew;clear c1 c2 c3 c4;have HA1:=Z (HA.o.moved (w1:=wr.drew) rfl);have HG1:=Z (zbH HG.o);have HB1:=Z (kT HG1.o hBg HBX.o);clear HA HG;generalize wr.drew=w2 at HA1 HG1 HB1⊢;by_cases hcv:cv x y<0;rotate_left
   ·have g2:decide (cv x y<0)=false:=decide_eq_false hcv;go_wp2_with (go_at_call 120;(with_reducible refine(HCM.o.at_ _ x y HB1.o).mono ?_);rintro e w3 ⟨rfl,hb⟩;have HA2:=Z (HA1.o.below hb);have HG2:=Z (vB HG1.o hb);clear hb);have hS:=Dn.srd O HD.o h3 h4 HS.o (fun t h5 h6=>le_trans O (HS.o t (q-1) h5 (by omega) (by omega)) (by rw[←HD.o.at_,←HD.o.lo (q-1) (by omega),HX.o,HY.o];show ¬cv x y<0;omega)) HC.o;refine⟨⟨k+1,M,by omega,Or.inl (by omega),by simp,HA2,⟨HR.o.trans HD.o.rng⟩,⟨hS⟩,HG2⟩,?_⟩;show b+1-((k:Int)+1).toNat<b+1-(k:Int).toNat;omega
   have g2:decide (cv x y<0)=true:=decide_eq_true hcv;have HCV:=Z hcv;clear hcv;go_wp2_with (go_at_call 120;(with_reducible refine(HCM.o.at_ _ x y HB1.o).mono ?_);rintro e w3 ⟨rfl,hb⟩;have HA2:=Z (HA1.o.below hb);have HG2:=Z (vB HG1.o hb);have c1:=HA2.o.even q (by rw[HML.o,HLL.o];omega);have c2:=HA2.o.odd q (by rw[HML.o,HLL.o];omega);have c3:=HA2.o.even (q-1) (by rw[HML.o,HLL.o];omega);have c4:=HA2.o.odd (q-1) (by rw[HML.o,HLL.o];omega);clear hb);rw[HX.o]at c1 c2;rw[HY.o]at c3 c4;have f1:=HA2.o.frozen (q*2);have f2:=HA2.o.frozen (q*2+1);have f3:=HA2.o.frozen ((q-1)*2);have f4:=HA2.o.frozen ((q-1)*2+1)
   go_region
   obtain⟨hA3,hG3⟩:=zbN HA2.o HG2.o (i:=q) (j:=q-1) (by rw[HML.o,HLL.o];omega) (by rw[HML.o,HLL.o];omega) HX.o HY.o;have HA3:=Z hA3;have HG3:=Z hG3;clear hA3 hG3 c1 c2 c3 c4 f1 f2 f3 f4 HA1 HG1 HB1;generalize((((w3.setCell _ _).setCell _ _).setCell _ _).setCell _ _).drew=w4 at HA3 HG3⊢;go_wp2;refine⟨⟨q-1,swp M q (q-1),by omega,by omega,by congr 1;omega,HA3,⟨HD.o.step' hq h4 hlt (by rw[HLL.o];exact hb)⟩,⟨fun t h5 h6=>?_⟩,HG3⟩,?_⟩
   ·by_cases ht:t=q-1
    ·subst ht;rw[←HD.o.at_,←HD.o.lo (q-1) (by omega),HX.o,HY.o];exact HCV.o
    ·exact HC.o t (by omega) h6
   ·show((q:Int)-1).toNat<(q:Int).toNat;omega
end
end Go.Proofs.YtnkhnnojdlgfjaaGreatDoor.Srt
end
section
namespace Go.Proofs.YtnkhnnojdlgfjaaGreatDoor.Srt
open RowKit Ky PA PB PC
variable {rs : List Value}
section
variable {cv : K → K → Int} (O : Ord cv) {B : Nat} {mn : Int} (hcm : CmpOk cv B mn)
include O hcm
/-- one in front -/
theorem symFirst (g n0 c0 a m b:Nat) (hm:m=a+1) (hBg:B≠g) (l:List K) (w:World) (hA:Arr rs w g l) (hB:w.cell? ⟨B,0,none⟩=some (.int .u64 mn)) (hn:n0=l.length) (hl:l.length≤1000000) (ha:a+1<b) (hb:b≤l.length) (hs:Srd cv l (a+1) b) :
  Calls Tryz.prog 154 #[.slice (some ⟨g,0,none⟩) n0 c0,.int .i64 a,.int .i64 m,.int .i64 b,.func (.func 120) #[] #[.pointer (some ⟨B,0,none⟩)]] w fun e w'=>e=.returned (.tuple #[])∧(∃l',Arr rs w' g l'∧Rng l l' a b∧Srd cv l' a b)∧w.grownBy w' (some g):=by
 have HA:=Z hA;have HN:=Z hn;have HCM:=Z hcm;have HBX:=Z hB;have HS:=Z hs;have hA1:((m:Int)-(a:Int)==1)=true:=by simp;omega
 have HM:=Z hm;have hma:(a:Int)+1≤m∧m≤l.length:=by omega
 clear hA hn hcm hB hs hm;go_enter Tryz.func154,Tryz.ntmps154;go_wp2
 go_loopw [10,11] (fun i j wr=>Sl2 (fun p q wr=>a+1≤p∧p≤q∧q≤b∧zA (Arr rs wr g l)∧zA (w.grownBy wr (some g))∧zA (∀t,a+1≤t→t<p→cv (gt l t) (gt l a)<0)∧zA (∀t,q≤t→t<b→le cv (gt l a) (gt l t))) i j wr) (fun i j _=>((intOf j)-(intOf i)).toNat)
 case atStart=>exact⟨a+1,b,by rw[HM.o],rfl,Nat.le_refl _,by omega,Nat.le_refl _,HA,⟨zaE _ _⟩,⟨fun t h1 h2=>by omega⟩,⟨fun t h1 h2=>by omega⟩⟩
 case round=>
  clear HA;obtain⟨p,q,rfl,rfl,h1,h2,h3,HA,HG,HP,HQ⟩:=hrel.o;by_cases hlt:p<q;rotate_left
  ·obtain rfl:p=q:=by omega
   go_wp2
   go_loopw [13] (fun i wr=>∃(k:Nat) (L:List K),a≤k∧k+1≤p∧i=.int .i64 k∧zA (Arr rs wr g L)∧zA (w.grownBy wr (some g))∧zA (Up l L a k b)) (fun i _=>p-(intOf i).toNat)
   case atStart=>exact⟨a,l,Nat.le_refl _,by omega,rfl,HA,HG,⟨Up.refl _ _ _⟩⟩
   case round=>
    clear HA HG;obtain⟨k,L,h4,h5,rfl,HA,HG,HU⟩:=hrel;have HL:=Z HU.o.rng.len;by_cases hk:k+1<p;rotate_left
    ·obtain rfl:k=p-1:=by omega
     have n5:¬(((p-1:Nat):Int)<(p:Int)-1):=by omega
     go_wp2;refine bodyPost_ret (results_none rfl _ _ _) rfl ?_;exact⟨rfl,⟨L,HA.o,HU.o.rng,Up.srd O HU.o (by omega) h3 HS.o HP.o HQ.o⟩,HG.o⟩
    have c1:=HA.o.even k (by rw[HL.o];omega);have c2:=HA.o.odd k (by rw[HL.o];omega);have c3:=HA.o.even (k+1) (by rw[HL.o];omega);have c4:=HA.o.odd (k+1) (by rw[HL.o];omega);have f1:=HA.o.frozen (k*2);have f2:=HA.o.frozen (k*2+1);have f3:=HA.o.frozen ((k+1)*2);have f4:=HA.o.frozen ((k+1)*2+1);have n1:(k:Int)+1<(n0:Int):=by rw[HN.o];omega
    have n2:(k:Int)<(n0:Int):=by rw[HN.o];omega
    have n3:((k:Int)+1).toNat=k+1:=by omega
    have n4:k<n0:=by rw[HN.o];omega
    have n5:(k:Int)<(p:Int)-1:=by omega
    generalize hx:gt L k=x at c1 c2;generalize hy:gt L (k+1)=y at c3 c4;have HX:=Z hx;have HY:=Z hy;clear hx hy;go_wp2
    go_region
    obtain⟨hA3,hG3⟩:=zbN HA.o HG.o (i:=k) (j:=k+1) (by rw[HL.o];omega) (by rw[HL.o];omega) HX.o HY.o;have HA3:=Z hA3;have HG3:=Z hG3;clear hA3 hG3 c1 c2 c3 c4 f1 f2 f3 f4 HA HG;generalize((((wr.setCell _ _).setCell _ _).setCell _ _).setCell _ _).drew=w4 at HA3 HG3⊢;go_wp2;refine⟨⟨k+1,_,by omega,by omega,by simp,HA3,HG3,⟨HU.o.step h4 (by omega) hb⟩⟩,?_⟩;show p-((k:Int)+1).toNat<p-(k:Int).toNat;omega
  have eh:((p:Int)+(q:Int)) / 2=(((p+q) / 2:Nat):Int):=by omega
  have EH:=Z eh;have hc1:p≤(p+q) / 2:=by omega
  have hc2:(p+q) / 2<q:=by omega
  clear eh;go_wp2;rw[EH.o];clear EH;generalize(p+q) / 2=c at hc1 hc2⊢;have c1:=HA.o.even c (by omega);have c2:=HA.o.odd c (by omega);have c3:=HA.o.even a (by omega);have c4:=HA.o.odd a (by omega);have n1:(c:Int)<(n0:Int):=by rw[HN.o];omega
  have n2:(a:Int)<(n0:Int):=by rw[HN.o];omega
  have n3:c<n0:=by rw[HN.o];omega
  have n4:a<n0:=by rw[HN.o];omega
  generalize hx:gt l c=x at c1 c2;generalize hy:gt l a=y at c3 c4;have HX:=Z hx;have HY:=Z hy;clear hx hy
  go_still_tail 9,(by kernel_rfl)
  change wpList _ _ _ _ _ wr.drew;clear c1 c2 c3 c4;have HA1:=Z (HA.o.moved (w1:=wr.drew) rfl);have HG1:=Z (zbH HG.o);have HB1:=Z (kT HG1.o hBg HBX.o);clear HA HG;generalize wr.drew=w2 at HA1 HG1 HB1⊢;by_cases hcv:cv x y<0;rotate_left
  ·have g2:decide (cv x y<0)=false:=decide_eq_false hcv;have HCV:=Z hcv;clear hcv;go_wp2_with (go_at_call 120;(with_reducible refine(HCM.o.at_ _ x y HB1.o).mono ?_);rintro e w3 ⟨rfl,hb⟩;have HA2:=Z (HA1.o.below hb);have HG2:=Z (vB HG1.o hb);clear hb);refine⟨⟨p,c,rfl,rfl,h1,hc1,by omega,HA2,HG2,HP,⟨fun t h5 h6=>?_⟩⟩,?_⟩
   ·have hc:le cv (gt l a) (gt l c):=by rw[HX.o,HY.o];have:=HCV.o;show ¬cv x y<0;omega
    exact le_trans O hc (HS.o c t (by omega) h5 h6)
   ·have e1:intOf (.int .i64 (q:Int))=q:=rfl;have e2:intOf (.int .i64 (c:Int))=c:=rfl;have e3:intOf (.int .i64 (p:Int))=p:=rfl;rw[e1,e2,e3];omega
  have g2:decide (cv x y<0)=true:=decide_eq_true hcv;have HCV:=Z hcv;clear hcv;go_wp2_with (go_at_call 120;(with_reducible refine(HCM.o.at_ _ x y HB1.o).mono ?_);rintro e w3 ⟨rfl,hb⟩;have HA2:=Z (HA1.o.below hb);have HG2:=Z (vB HG1.o hb);clear hb);refine⟨⟨c+1,q,by simp,rfl,by omega,by omega,h3,HA2,HG2,⟨fun t h5 h6=>?_⟩,HQ⟩,?_⟩
  ·have hc:cv (gt l c) (gt l a)<0:=by rw[HX.o,HY.o];exact HCV.o
   exact lt_of_le_lt O (HS.o t c h5 (by omega) (by omega)) hc
  ·have e1:intOf (.int .i64 (q:Int))=q:=rfl;have e2:intOf (.int .i64 ((c:Int)+1))=(c:Int)+1:=rfl;have e3:intOf (.int .i64 (p:Int))=p:=rfl;rw[e1,e2,e3];omega
/-- one behind -/
theorem symLast (g n0 c0 a m b:Nat) (hm:b=m+1) (hBg:B≠g) (l:List K) (w:World) (hA:Arr rs w g l) (hB:w.cell? ⟨B,0,none⟩=some (.int .u64 mn)) (hn:n0=l.length) (hl:l.length≤1000000) (ha:a+1<m) (hb:b≤l.length) (hs:Srd cv l a m) :
  Calls Tryz.prog 154 #[.slice (some ⟨g,0,none⟩) n0 c0,.int .i64 a,.int .i64 m,.int .i64 b,.func (.func 120) #[] #[.pointer (some ⟨B,0,none⟩)]] w fun e w'=>e=.returned (.tuple #[])∧(∃l',Arr rs w' g l'∧Rng l l' a b∧Srd cv l' a b)∧w.grownBy w' (some g):=by
 have HA:=Z hA;have HN:=Z hn;have HCM:=Z hcm;have HBX:=Z hB;have HS:=Z hs;have hA1:((m:Int)-(a:Int)==1)=false:=by simp;omega
 have hA2:((b:Int)-(m:Int)==1)=true:=by simp;omega
 have HM:=Z hm;have hma:m+1≤b∧b≤m+1:=by omega
 clear hA hn hcm hB hs hm;go_enter Tryz.func154,Tryz.ntmps154;go_wp2
 go_loopw [14,15] (fun i j wr=>Sl2 (fun p q wr=>a≤p∧p≤q∧q≤m∧zA (Arr rs wr g l)∧zA (w.grownBy wr (some g))∧zA (∀t,a≤t→t<p→le cv (gt l t) (gt l m))∧zA (∀t,q≤t→t<m→cv (gt l m) (gt l t)<0)) i j wr) (fun i j _=>((intOf j)-(intOf i)).toNat)
 case atStart=>exact⟨a,m,rfl,rfl,Nat.le_refl _,by omega,Nat.le_refl _,HA,⟨zaE _ _⟩,⟨fun t h1 h2=>by omega⟩,⟨fun t h1 h2=>by omega⟩⟩
 case round=>
  clear HA;obtain⟨p,q,rfl,rfl,h1,h2,h3,HA,HG,HP,HQ⟩:=hrel.o;by_cases hlt:p<q;rotate_left
  ·obtain rfl:p=q:=by omega
   go_wp2
   go_loopw [17] (fun i wr=>∃(k:Nat) (L:List K),p≤k∧k≤m∧i=.int .i64 k∧zA (Arr rs wr g L)∧zA (w.grownBy wr (some g))∧zA (Dn l L a k m b)) (fun i _=>(intOf i).toNat)
   case atStart=>exact⟨m,l,by omega,Nat.le_refl _,rfl,HA,HG,⟨Dn.refl _ _ _ _⟩⟩
   case round=>
    clear HA HG;obtain⟨k,L,h4,h5,rfl,HA,HG,HU⟩:=hrel;have HL:=Z HU.o.rng.len;by_cases hk:p<k;rotate_left
    ·obtain rfl:k=p:=by omega
     go_wp2;refine bodyPost_ret (results_none rfl _ _ _) rfl ?_;exact⟨rfl,⟨L,HA.o,HU.o.rng,by have:=Dn.srd O HU.o h1 h5 HS.o HP.o HQ.o;rwa [←HM.o]at this⟩,HG.o⟩
    have c1:=HA.o.even k (by rw[HL.o];omega);have c2:=HA.o.odd k (by rw[HL.o];omega);have c3:=HA.o.even (k-1) (by rw[HL.o];omega);have c4:=HA.o.odd (k-1) (by rw[HL.o];omega);have f1:=HA.o.frozen (k*2);have f2:=HA.o.frozen (k*2+1);have f3:=HA.o.frozen ((k-1)*2);have f4:=HA.o.frozen ((k-1)*2+1);have n1:(k:Int)-1<(n0:Int):=by rw[HN.o];omega
    have n2:(k:Int)<(n0:Int):=by rw[HN.o];omega
    have n3:((k:Int)-1).toNat=k-1:=by omega
    have n4:k<n0:=by rw[HN.o];omega
    have n5:(p:Int)<(k:Int):=by omega
    have n6:(1:Int)≤(k:Int):=by omega
    generalize hx:gt L k=x at c1 c2;generalize hy:gt L (k-1)=y at c3 c4;have HX:=Z hx;have HY:=Z hy;clear hx hy;go_wp2
    go_region
    obtain⟨hA3,hG3⟩:=zbN HA.o HG.o (i:=k) (j:=k-1) (by rw[HL.o];omega) (by rw[HL.o];omega) HX.o HY.o;have HA3:=Z hA3;have HG3:=Z hG3;clear hA3 hG3 c1 c2 c3 c4 f1 f2 f3 f4 HA HG;generalize((((wr.setCell _ _).setCell _ _).setCell _ _).setCell _ _).drew=w4 at HA3 HG3⊢;go_wp2;refine⟨⟨k-1,_,by omega,by omega,by congr 1;omega,HA3,HG3,⟨HU.o.step' (by omega) h5 (by omega) hb⟩⟩,?_⟩;show((k:Int)-1).toNat<(k:Int).toNat;omega
  have eh:((p:Int)+(q:Int)) / 2=(((p+q) / 2:Nat):Int):=by omega
  have EH:=Z eh;have hc1:p≤(p+q) / 2:=by omega
  have hc2:(p+q) / 2<q:=by omega
  clear eh;go_wp2;rw[EH.o];clear EH;generalize(p+q) / 2=c at hc1 hc2⊢;have c1:=HA.o.even m (by omega);have c2:=HA.o.odd m (by omega);have c3:=HA.o.even c (by omega);have c4:=HA.o.odd c (by omega);have n1:(c:Int)<(n0:Int):=by rw[HN.o];omega
  have n2:(m:Int)<(n0:Int):=by rw[HN.o];omega
  have n3:c<n0:=by rw[HN.o];omega
  have n4:m<n0:=by rw[HN.o];omega
  generalize hx:gt l m=x at c1 c2;generalize hy:gt l c=y at c3 c4;have HX:=Z hx;have HY:=Z hy;clear hx hy
  go_still_tail 9,(by kernel_rfl)
  change wpList _ _ _ _ _ wr.drew;clear c1 c2 c3 c4;have HA1:=Z (HA.o.moved (w1:=wr.drew) rfl);have HG1:=Z (zbH HG.o);have HB1:=Z (kT HG1.o hBg HBX.o);clear HA HG;generalize wr.drew=w2 at HA1 HG1 HB1⊢;by_cases hcv:cv x y<0
  ·have g2:decide (cv x y<0)=true:=decide_eq_true hcv;have HCV:=Z hcv;clear hcv;go_wp2_with (go_at_call 120;(with_reducible refine(HCM.o.at_ _ x y HB1.o).mono ?_);rintro e w3 ⟨rfl,hb⟩;have HA2:=Z (HA1.o.below hb);have HG2:=Z (vB HG1.o hb);clear hb);refine⟨⟨p,c,rfl,rfl,h1,hc1,by omega,HA2,HG2,HP,⟨fun t h5 h6=>?_⟩⟩,?_⟩
   ·have hc:cv (gt l m) (gt l c)<0:=by rw[HX.o,HY.o];exact HCV.o
    exact lt_of_lt_le O hc (HS.o c t (by omega) h5 h6)
   ·have e1:intOf (.int .i64 (q:Int))=q:=rfl;have e2:intOf (.int .i64 (c:Int))=c:=rfl;have e3:intOf (.int .i64 (p:Int))=p:=rfl;rw[e1,e2,e3];omega
  have g2:decide (cv x y<0)=false:=decide_eq_false hcv;have HCV:=Z hcv;clear hcv;go_wp2_with (go_at_call 120;(with_reducible refine(HCM.o.at_ _ x y HB1.o).mono ?_);rintro e w3 ⟨rfl,hb⟩;have HA2:=Z (HA1.o.below hb);have HG2:=Z (vB HG1.o hb);clear hb);refine⟨⟨c+1,q,by simp,rfl,by omega,by omega,h3,HA2,HG2,⟨fun t h5 h6=>?_⟩,HQ⟩,?_⟩
  ·have hc:le cv (gt l c) (gt l m):=by rw[HX.o,HY.o];have:=HCV.o;show ¬cv x y<0;omega
   exact le_trans O (HS.o t c h5 (by omega) (by omega)) hc
  ·have e1:intOf (.int .i64 (q:Int))=q:=rfl;have e2:intOf (.int .i64 ((c:Int)+1))=(c:Int)+1:=rfl;have e3:intOf (.int .i64 (p:Int))=p:=rfl;rw[e1,e2,e3];omega
end
end Go.Proofs.YtnkhnnojdlgfjaaGreatDoor.Srt
end
