/- Parts of the proof, joined: Q6, Q7, Q8. -/
import Derived.Test.YtnkhnnojdlgfjaaGreatDoorUI21
set_option linter.unusedVariables false
set_option linter.unusedSimpArgs false
set_option maxHeartbeats 32000000
set_option maxRecDepth 100000
section
namespace Go.Proofs.YtnkhnnojdlgfjaaGreatDoor.Qw
open RowKit Tr Tk Tm Qu PA PB PC
variable {S : Nat → Prop} {A B : Option Addr} {c d : Nat} {w w' : World} {q : Q}
theorem qQ {q:Q}(h:zP q=true):yJ q.t q.mn=true∧kH q:=by
 obtain⟨L,hj⟩:=qA h;refine⟨hj.tr.right,⟨?_⟩⟩;by_cases c:q.cur=-1
 ·exact Or.inl c
 have:=hj.c1;exact Or.inr ⟨by omega,hj.o c⟩
theorem KeysQ_ (h:QIn S A c B d w q) (hT:Emp w):Calls Tryz.prog 10 #[.agg (qc A c B d q)] w fun e w'=>jU w (zao q) e w':=by
 have HQ:=Z h;have HT:=Z hT;have HRI:=Z (fun(W:World) (h:QIn S A c B d W q) (hT:Emp W)=>zcP h hT);have HK:=Z (fun(hr:zP q=true) (W:World) (h:QIn S A c B d W q) (hT:Emp W)=>keys_ h (qQ hr).1 (qQ hr).2 hT);unfold zao;generalize yH q=KL at HK⊢;generalize zP q=RQ at HK HRI⊢;clear h hT;obtain⟨⟨ns,rt⟩,cur,v,mn,load,ws⟩:=q;replace HK:zA (RQ=true→∀(W:World),QIn S A c B d W ⟨⟨ns,rt⟩,cur,v,mn,load,ws⟩→Emp W→Calls Tryz.prog 26 #[.agg #[.int .i64 rt,.slice A ns.length c,.int .i64 cur,.int .u64 v,.int .u64 mn,.int .i64 load,.slice B ws.length d]] W fun e w'=>jU W KL e w'):=HK;replace HRI:zA (∀(W:World),QIn S A c B d W ⟨⟨ns,rt⟩,cur,v,mn,load,ws⟩→Emp W→Calls Tryz.prog 22 #[.agg #[.int .i64 rt,.slice A ns.length c,.int .i64 cur,.int .u64 v,.int .u64 mn,.int .i64 load,.slice B ws.length d]] W fun e w'=>e=.returned (.bool RQ)∧Below W.heap.size W w'):=HRI;show Calls Tryz.prog 10 #[.agg #[.int .i64 rt,.slice A ns.length c,.int .i64 cur,.int .u64 v,.int .u64 mn,.int .i64 load,.slice B ws.length d]] w _;go_enter Tryz.func10,Tryz.ntmps10;go_upto_region 1 with(fail);have HX:=Z (QB.new w rt A ns.length c cur v mn load B ws.length d);have HB:=Z (zB (Below.refl w.heap.size w) (.cells #[.int .i64 rt,.slice A ns.length c,.int .i64 cur,.int .u64 v,.int .u64 mn,.int .i64 load,.slice B ws.length d] 30));generalize w.alloc (.cells #[.int .i64 rt,.slice A ns.length c,.int .i64 cur,.int .u64 v,.int .u64 mn,.int .i64 load,.slice B ws.length d] 30)=W1 at HX HB⊢;have HQ1:=Z (HQ.o.below HB.o);have HT1:=Z (HT.o.below HB.o);obtain⟨a0,a1,a2,a3,a4,a5,a6⟩:=HX.o.al;cases RQ with
 | false=>
  go_wp2_with (go_at_call 22;refine(HRI.o _ HQ1.o HT1.o).mono ?_;rintro e w2 ⟨rfl,hb⟩;have HB2:=Z (zD HB.o hb);clear hb);go_ret;exact⟨_,rfl,Kd.jT _ _ _ _ _,HB2.o⟩
 | true=>
  have HK2:=Z (fun(W:World) (h:QIn S A c B d W ⟨⟨ns,rt⟩,cur,v,mn,load,ws⟩) (hT:Emp W)=>HK.o (by first|rfl|trivial) W h hT);clear HK;have HSZ:=Z (HB.o.size);go_wp2_with (first
   | (go_at_call 22;refine(HRI.o _ HQ1.o HT1.o).mono ?_;rintro e w2 ⟨rfl,hb⟩;have HX2:=Z (HX.o.below hb);have HB2:=Z (zD HB.o hb);have HQ2:=Z (HQ1.o.below hb);have HT2:=Z (HT1.o.below hb);clear hb;obtain⟨b0,b1,b2,b3,b4,b5,b6⟩:=HX2.o.al)
   | (go_at_call 26;refine(HK2.o _ HQ2.o HT2.o).mono ?_;rintro e w3 ⟨v3,rfl,hR3,hb3⟩;have HR3:=Z hR3;have HB3:=Z (zD HB2.o hb3);have HZ3:=Z (HB2.o.size);clear hR3 hb3))
  go_ret;exact⟨_,rfl,Kd.qW HR3.o HZ3.o,HB3.o⟩
abbrev ifV (hb eb:Nat):Value:=.func (.func 74) #[] #[.pointer (some ⟨hb,0,none⟩),.pointer (some ⟨eb,0,none⟩)]
theorem if_ (x:Int) (fn:Nat) (cap:Array Value) (w:World):Calls Tryz.prog 28 #[.int .i64 x,.func (.func fn) #[] cap] w fun e w'=>e=.returned (ifV (w.heap.size+1) w.heap.size)∧w'.cell? ⟨w.heap.size,0,none⟩=some (.int .i64 x)∧w'.cell? ⟨w.heap.size+1,0,none⟩=some (.func (.func fn) #[] cap)∧Below w.heap.size w w':=by
 have HB:=Z (zB (zB (Below.refl w.heap.size w) (.cells #[.int .i64 x] 34)) (.cells #[.func (.func fn) #[] cap] 24));have HX:=Z (zH (zQ w (.cells #[.int .i64 x] 34)) (zB (Below.refl _ _) (.cells #[.func (.func fn) #[] cap] 24)));have HY:=Z (zQ (w.alloc (.cells #[.int .i64 x] 34)) (.cells #[.func (.func fn) #[] cap] 24));simp only[World.size_alloc]at HY;go_enter Tryz.func28,Tryz.ntmps28;go_wp2;go_ret;exact⟨rfl,(zC HX.o 0).trans rfl,(zC HY.o 0).trans rfl,HB.o⟩
theorem if1_22 (cap:Array Value) (hb eb:Nat) (x:Int) (b:Bool) (w:World) (h1:w.cell? ⟨hb,0,none⟩=some (.func (.func 40) #[] cap)) (h2:w.cell? ⟨eb,0,none⟩=some (.int .i64 x))
  (hc:Calls Tryz.prog 40 cap w fun e w'=>e=.returned (.bool b)∧Below w.heap.size w w') :
  Calls Tryz.prog 74 #[.pointer (some ⟨hb,0,none⟩),.pointer (some ⟨eb,0,none⟩)] w fun e w'=>e=.returned (.int .i64 (if b=true then x else 0))∧Below w.heap.size w w':=by
 have HC:=Z hc;have HE:=Z h2;clear hc;go_enter Tryz.func74,Tryz.ntmps74;cases b with
 | true=>
  go_wp2_with (go_at_call 40;refine HC.o.mono ?_;rintro e w2 ⟨rfl,hb⟩;have HB:=Z hb;have h3:=zJ hb HE.o;clear hb);go_ret;exact⟨rfl,HB.o⟩
 | false=>
  go_wp2_with (go_at_call 40;refine HC.o.mono ?_;rintro e w2 ⟨rfl,hb⟩;have HB:=Z hb;have h3:=zJ hb HE.o;clear hb);go_ret;exact⟨rfl,HB.o⟩
theorem if1_25 (cap:Array Value) (hb eb:Nat) (x:Int) (b:Bool) (w:World) (h1:w.cell? ⟨hb,0,none⟩=some (.func (.func 42) #[] cap)) (h2:w.cell? ⟨eb,0,none⟩=some (.int .i64 x))
  (hc:Calls Tryz.prog 42 cap w fun e w'=>e=.returned (.bool b)∧Below w.heap.size w w') :
  Calls Tryz.prog 74 #[.pointer (some ⟨hb,0,none⟩),.pointer (some ⟨eb,0,none⟩)] w fun e w'=>e=.returned (.int .i64 (if b=true then x else 0))∧Below w.heap.size w w':=by
 have HC:=Z hc;have HE:=Z h2;clear hc;go_enter Tryz.func74,Tryz.ntmps74;cases b with
 | true=>
  go_wp2_with (go_at_call 42;refine HC.o.mono ?_;rintro e w2 ⟨rfl,hb⟩;have HB:=Z hb;have h3:=zJ hb HE.o;clear hb);go_ret;exact⟨rfl,HB.o⟩
 | false=>
  go_wp2_with (go_at_call 42;refine HC.o.mono ?_;rintro e w2 ⟨rfl,hb⟩;have HB:=Z hb;have h3:=zJ hb HE.o;clear hb);go_ret;exact⟨rfl,HB.o⟩
theorem if1_31 (cap:Array Value) (hb eb:Nat) (x:Int) (b:Bool) (w:World) (h1:w.cell? ⟨hb,0,none⟩=some (.func (.func 29) #[] cap)) (h2:w.cell? ⟨eb,0,none⟩=some (.int .i64 x))
  (hc:Calls Tryz.prog 29 cap w fun e w'=>e=.returned (.bool b)∧Below w.heap.size w w') :
  Calls Tryz.prog 74 #[.pointer (some ⟨hb,0,none⟩),.pointer (some ⟨eb,0,none⟩)] w fun e w'=>e=.returned (.int .i64 (if b=true then x else 0))∧Below w.heap.size w w':=by
 have HC:=Z hc;have HE:=Z h2;clear hc;go_enter Tryz.func74,Tryz.ntmps74;cases b with
 | true=>
  go_wp2_with (go_at_call 29;refine HC.o.mono ?_;rintro e w2 ⟨rfl,hb⟩;have HB:=Z hb;have h3:=zJ hb HE.o;clear hb);go_ret;exact⟨rfl,HB.o⟩
 | false=>
  go_wp2_with (go_at_call 29;refine HC.o.mono ?_;rintro e w2 ⟨rfl,hb⟩;have HB:=Z hb;have h3:=zJ hb HE.o;clear hb);go_ret;exact⟨rfl,HB.o⟩
theorem if1_37 (cap:Array Value) (hb eb:Nat) (x:Int) (b:Bool) (w:World) (h1:w.cell? ⟨hb,0,none⟩=some (.func (.func 57) #[] cap)) (h2:w.cell? ⟨eb,0,none⟩=some (.int .i64 x))
  (hc:Calls Tryz.prog 57 cap w fun e w'=>e=.returned (.bool b)∧Below w.heap.size w w') :
  Calls Tryz.prog 74 #[.pointer (some ⟨hb,0,none⟩),.pointer (some ⟨eb,0,none⟩)] w fun e w'=>e=.returned (.int .i64 (if b=true then x else 0))∧Below w.heap.size w w':=by
 have HC:=Z hc;have HE:=Z h2;clear hc;go_enter Tryz.func74,Tryz.ntmps74;cases b with
 | true=>
  go_wp2_with (go_at_call 57;refine HC.o.mono ?_;rintro e w2 ⟨rfl,hb⟩;have HB:=Z hb;have h3:=zJ hb HE.o;clear hb);go_ret;exact⟨rfl,HB.o⟩
 | false=>
  go_wp2_with (go_at_call 57;refine HC.o.mono ?_;rintro e w2 ⟨rfl,hb⟩;have HB:=Z hb;have h3:=zJ hb HE.o;clear hb);go_ret;exact⟨rfl,HB.o⟩
theorem if1_68 (cap:Array Value) (hb eb:Nat) (x:Int) (b:Bool) (w:World) (h1:w.cell? ⟨hb,0,none⟩=some (.func (.func 103) #[] cap)) (h2:w.cell? ⟨eb,0,none⟩=some (.int .i64 x))
  (hc:Calls Tryz.prog 103 cap w fun e w'=>e=.returned (.bool b)∧Below w.heap.size w w') :
  Calls Tryz.prog 74 #[.pointer (some ⟨hb,0,none⟩),.pointer (some ⟨eb,0,none⟩)] w fun e w'=>e=.returned (.int .i64 (if b=true then x else 0))∧Below w.heap.size w w':=by
 have HC:=Z hc;have HE:=Z h2;clear hc;go_enter Tryz.func74,Tryz.ntmps74;cases b with
 | true=>
  go_wp2_with (go_at_call 103;refine HC.o.mono ?_;rintro e w2 ⟨rfl,hb⟩;have HB:=Z hb;have h3:=zJ hb HE.o;clear hb);go_ret;exact⟨rfl,HB.o⟩
 | false=>
  go_wp2_with (go_at_call 103;refine HC.o.mono ?_;rintro e w2 ⟨rfl,hb⟩;have HB:=Z hb;have h3:=zJ hb HE.o;clear hb);go_ret;exact⟨rfl,HB.o⟩
theorem if1_44 (cap:Array Value) (hb eb:Nat) (x:Int) (b:Bool) (w:World) (h1:w.cell? ⟨hb,0,none⟩=some (.func (.func 34) #[] cap)) (h2:w.cell? ⟨eb,0,none⟩=some (.int .i64 x))
  (hc:Calls Tryz.prog 34 cap w fun e w'=>e=.returned (.bool b)∧Below w.heap.size w w') :
  Calls Tryz.prog 74 #[.pointer (some ⟨hb,0,none⟩),.pointer (some ⟨eb,0,none⟩)] w fun e w'=>e=.returned (.int .i64 (if b=true then x else 0))∧Below w.heap.size w w':=by
 have HC:=Z hc;have HE:=Z h2;clear hc;go_enter Tryz.func74,Tryz.ntmps74;cases b with
 | true=>
  go_wp2_with (go_at_call 34;refine HC.o.mono ?_;rintro e w2 ⟨rfl,hb⟩;have HB:=Z hb;have h3:=zJ hb HE.o;clear hb);go_ret;exact⟨rfl,HB.o⟩
 | false=>
  go_wp2_with (go_at_call 34;refine HC.o.mono ?_;rintro e w2 ⟨rfl,hb⟩;have HB:=Z hb;have h3:=zJ hb HE.o;clear hb);go_ret;exact⟨rfl,HB.o⟩
theorem if1_45 (cap:Array Value) (hb eb:Nat) (x:Int) (b:Bool) (w:World) (h1:w.cell? ⟨hb,0,none⟩=some (.func (.func 36) #[] cap)) (h2:w.cell? ⟨eb,0,none⟩=some (.int .i64 x))
  (hc:Calls Tryz.prog 36 cap w fun e w'=>e=.returned (.bool b)∧Below w.heap.size w w') :
  Calls Tryz.prog 74 #[.pointer (some ⟨hb,0,none⟩),.pointer (some ⟨eb,0,none⟩)] w fun e w'=>e=.returned (.int .i64 (if b=true then x else 0))∧Below w.heap.size w w':=by
 have HC:=Z hc;have HE:=Z h2;clear hc;go_enter Tryz.func74,Tryz.ntmps74;cases b with
 | true=>
  go_wp2_with (go_at_call 36;refine HC.o.mono ?_;rintro e w2 ⟨rfl,hb⟩;have HB:=Z hb;have h3:=zJ hb HE.o;clear hb);go_ret;exact⟨rfl,HB.o⟩
 | false=>
  go_wp2_with (go_at_call 36;refine HC.o.mono ?_;rintro e w2 ⟨rfl,hb⟩;have HB:=Z hb;have h3:=zJ hb HE.o;clear hb);go_ret;exact⟨rfl,HB.o⟩
def vM:List Int→Int
 | []=>0
 | x::t=>if x=0 then vM t else x
abbrev Cl:=Nat × Nat × Int
def clV (x:Cl):Value:=ifV x.1 x.2.1
def cl (L:List Cl) (i:Nat):Cl:=L.getD i (0,0,0)
def res (L:List Cl):List Int:=L.map fun x=>x.2.2
theorem nz_yes:∀{L:List Cl}(i:Nat),i<L.length→(∀j,j<i→(cl L j).2.2=0)→(cl L i).2.2≠0→vM (res L)=(cl L i).2.2
 | [],i,h,_,_=>by simp at h
 | x::t,0,_,_,h=>by
  show(if x.2.2=0 then vM (res t)else x.2.2)=x.2.2;have e:¬x.2.2=0:=h;rw[if_neg e]
 | x::t,i+1,h,h1,h2=>by
  show(if x.2.2=0 then vM (res t)else x.2.2)=_;have e:x.2.2=0:=h1 0 (by omega);rw[if_pos e];exact nz_yes (L:=t) i (by simpa using h) (fun j hj=>h1 (j+1) (by omega)) h2
theorem nz_no:∀{L:List Cl},(∀j,j<L.length→(cl L j).2.2=0)→vM (res L)=0
 | [],_=>rfl
 | x::t,h=>by
  show(if x.2.2=0 then vM (res t)else x.2.2)=0;have e:x.2.2=0:=h 0 (by simp);rw[if_pos e];exact nz_no (L:=t) (fun j hj=>h (j+1) (by simpa using hj))
structure FRel (L:List Cl) (w:World) (i:Value) (k:Nat) (wr:World):Prop where mk::
 le:k≤L.length
 hi:i=.int .i64 (k:Int)
 ok:∀j,j<k→(cl L j).2.2=0
 hb:Below w.heap.size w wr
structure FRl (L:List Cl) (w:World) (i:Value) (wr:World):Prop where mk::
 o:∃k,FRel L w i k wr
theorem first_ (h:QIn S A c B d w q) (hT:Emp w) (L:List Cl) (gl:Nat) (hl:L.length≤1000) (hL:w.heap[gl]?=some (.cells (L.map clV).toArray 63 (0,0)))
  (hc:∀i,i<L.length→zP q=true→(∀j,j<i→(cl L j).2.2=0)→∀W,Below w.heap.size w W→Calls Tryz.prog 74 #[.pointer (some ⟨(cl L i).1,0,none⟩),.pointer (some ⟨(cl L i).2.1,0,none⟩)] W fun e w'=>e=.returned (.int .i64 (cl L i).2.2)∧Below W.heap.size W w') :
  Calls Tryz.prog 27 #[.agg (qc A c B d q),.slice (some ⟨gl,0,none⟩) L.length L.length] w fun e w'=>e=.returned (.int .i64 (if zP q=true then vM (res L)else 4))∧Below w.heap.size w w':=by
 have HQ:=Z h;have HT:=Z hT;have HC:=Z hc;have HL:=Z hL;have HLN:=Z hl;have HRI:=Z (fun(W:World) (h:QIn S A c B d W q) (hT:Emp W)=>zcP h hT);generalize zP q=RQ at HC HRI⊢;clear h hT hc hL hl;obtain⟨⟨ns,rt⟩,cur,v,mn,load,ws⟩:=q;replace HRI:zA (∀(W:World),QIn S A c B d W ⟨⟨ns,rt⟩,cur,v,mn,load,ws⟩→Emp W→Calls Tryz.prog 22 #[.agg #[.int .i64 rt,.slice A ns.length c,.int .i64 cur,.int .u64 v,.int .u64 mn,.int .i64 load,.slice B ws.length d]] W fun e w'=>e=.returned (.bool RQ)∧Below W.heap.size W w'):=HRI;show Calls Tryz.prog 27 #[.agg #[.int .i64 rt,.slice A ns.length c,.int .i64 cur,.int .u64 v,.int .u64 mn,.int .i64 load,.slice B ws.length d],_] w _;go_enter Tryz.func27,Tryz.ntmps27;go_upto_region 1 with(fail);have HX:=Z (QB.new w rt A ns.length c cur v mn load B ws.length d);have HB:=Z (zB (Below.refl w.heap.size w) (.cells #[.int .i64 rt,.slice A ns.length c,.int .i64 cur,.int .u64 v,.int .u64 mn,.int .i64 load,.slice B ws.length d] 30));generalize w.alloc (.cells #[.int .i64 rt,.slice A ns.length c,.int .i64 cur,.int .u64 v,.int .u64 mn,.int .i64 load,.slice B ws.length d] 30)=W1 at HX HB⊢;have HQ1:=Z (HQ.o.below HB.o);have HT1:=Z (HT.o.below HB.o);obtain⟨a0,a1,a2,a3,a4,a5,a6⟩:=HX.o.al;cases RQ with
 | false=>
  go_wp2_with (go_at_call 22;refine(HRI.o _ HQ1.o HT1.o).mono ?_;rintro e w2 ⟨rfl,hb⟩;have HB2:=Z (zD HB.o hb);clear hb);go_ret;exact⟨rfl,HB2.o⟩
 | true=>
  have HC2:=Z (fun i (hi:i<L.length)=>HC.o i hi (by first|rfl|trivial));clear HC;go_wp2_with (go_at_call 22;refine(HRI.o _ HQ1.o HT1.o).mono ?_;rintro e w2 ⟨rfl,hb⟩;have HB2:=Z (zD HB.o hb);clear hb);clear a0 a1 a2 a3 a4 a5 a6
  go_loopw [13] (fun i wr=>FRl L w i wr) (fun i wr=>L.length-(intOf i).toNat)
  case atStart=>exact⟨0,Nat.zero_le _,rfl,fun j hj=>by omega,HB2.o⟩
  case round=>
   obtain⟨k,hle,rfl,hok,hb⟩:=hrel.o;clear hrel;have HOK:=Z hok;have HB3:=Z hb;have HN:=HLN.o;by_cases hlt:k<L.length
   ·have HKL:=Z hlt;have hki:(k:Int)<(L.length:Int):=by omega
    have hkn:k<1000000:=by omega
    have HCK:=Z (fun W (hW:Below w.heap.size w W)=>HC2.o k hlt hok W hW);have c0:wr.cell? ⟨gl,k,none⟩=some (clV (cl L k)):=by
     rw[zC (zH HL.o hb)];simp[cl,hlt,List.getD_eq_getElem?_getD]
    have HY:=Z (fun(h:(cl L k).2.2≠0)=>nz_yes k hlt hok h);have HZ:=Z (fun(h:(cl L k).2.2=0) j (hj:j<k+1)=>(show(cl L j).2.2=0 from by
     by_cases e:j=k
     ·subst e;exact h
     ·exact hok j (by omega)))
    generalize cl L k=x at c0 HCK HY HZ;obtain⟨x1,x2,r⟩:=x;replace c0:wr.cell? ⟨gl,k,none⟩=some (.func (.func 74) #[] #[.pointer (some ⟨x1,0,none⟩),.pointer (some ⟨x2,0,none⟩)]):=c0;clear hok hb hlt;by_cases hr:r=0
    ·subst hr;go_wp2_with (go_at_call 74;refine(HCK.o _ HB3.o).mono ?_;rintro e w4 ⟨rfl,hb⟩;have HB4:=Z (zD HB3.o hb);clear hb);refine⟨⟨k+1,by have:=HKL.o;omega,by simp,HZ.o (by first|rfl|trivial),HB4.o⟩,?_⟩;show L.length-((k:Int)+1).toNat<L.length-(k:Int).toNat;have:=HKL.o;omega
    ·have hr2:(r != 0)=true:=by simpa using hr
     have HYR:=Z (HY.o hr);go_wp2_with (go_at_call 74;refine(HCK.o _ HB3.o).mono ?_;rintro e w4 ⟨rfl,hb⟩;have HB4:=Z (zD HB3.o hb);clear hb);go_ret;exact⟨by rw[HYR.o];rfl,HB4.o⟩
   ·obtain rfl:k=L.length:=by omega
    go_wp2;go_ret;exact⟨by rw[nz_no HOK.o];rfl,HB3.o⟩
end Go.Proofs.YtnkhnnojdlgfjaaGreatDoor.Qw
end
section
namespace Go.Proofs.YtnkhnnojdlgfjaaGreatDoor.Qw
open RowKit Tr Tk Tm Qu PA PB PC
variable {S : Nat → Prop} {A B : Option Addr} {c d : Nat} {w w' : World} {q : Q}
def bx (S:Nat→Prop) (a n:Nat) (k:Nat):Prop:=S k∨a≤k∧k<a+n
theorem QIn.boxes {n:Nat}(h:QIn S A c B d w q) (hb:Below w.heap.size w w') (hl:w.heap.size+n≤w'.heap.size):QIn (bx S w.heap.size n) A c B d w' q:=
 h.more hb (fun k hk=>hk.elim Or.inl (fun e=>Or.inr e.1)) (fun k hk=>hk.elim (fun e=>Nat.lt_of_lt_of_le (h.sl k e) hb.size) (fun e=>Nat.lt_of_lt_of_le e.2 hl))
theorem QIn.vI {a n:Nat}(h:QIn (bx S a n) A c B d w q):QIn S A c B d w q:=h.less (fun k hk=>Or.inl hk)
theorem QIn.put {a n:Nat}(h:QIn (bx S a n) A c B d w q) (g i:Nat) (h1:a≤g) (h2:g<a+n) (u:Value):QIn (bx S a n) A c B d (w.setCell ⟨g,i,none⟩ u) q:=h.ag ((Ag.refl _ w).set (Or.inl (Or.inr ⟨h1,h2⟩)) u)
theorem QIn.put7 {a n:Nat}(h:QIn (bx S a n) A c B d w q) (g:Nat) (h1:a≤g) (h2:g<a+n) (v0 v1 v2 v3 v4 v5 v6:Value):QIn (bx S a n) A c B d (set7 w g v0 v1 v2 v3 v4 v5 v6) q:=
 ((((((h.put g 0 h1 h2 v0).put g 1 h1 h2 v1).put g 2 h1 h2 v2).put g 3 h1 h2 v3).put g 4 h1 h2 v4).put g 5 h1 h2 v5).put g 6 h1 h2 v6
theorem back_ (h:QIn S A c B d w q) (hT:Emp w) (hr:zP q=true) (x:Q) (hf:kX q=some x):Calls Tryz.prog 30 #[.agg (qc A c B d q)] w fun e w'=>∃u,e=.returned u∧yY S w x u w':=by
 have HQ:=Z h;have HT:=Z hT;have hfx:=hf;unfold kX at hf;have HIN:=Z (show q.cur≠-1→∃t',insA q.t q.mn (q.v,q.cur)=some (t',0)∧t'.ns.length=q.t.ns.length from fun hc=>by
  obtain⟨L,hj⟩:=qA hr;have h0:0≤q.cur:=by have:=hj.c1;omega
  rcases ins_J (k:=(q.v,q.cur)) hj.tr h0 hj.c2 with⟨t',e1,e2,e3⟩|⟨r,e1,e2,y,hy,e⟩
  ·exact⟨t',e1,e2.len⟩
  ·exact absurd e (hj.no hc y hy))
 clear h hT hr hfx;obtain⟨⟨ns,rt⟩,cur,v,mn,load,ws⟩:=q;show Calls Tryz.prog 30 #[.agg #[.int .i64 rt,.slice A ns.length c,.int .i64 cur,.int .u64 v,.int .u64 mn,.int .i64 load,.slice B ws.length d]] w _;by_cases b:cur=-1
 ·obtain rfl:x=⟨⟨ns,rt⟩,cur,v,mn,load,ws⟩:=by rw[if_pos b]at hf;exact(Option.some.inj hf).symm
  have b1:(cur != -1)=false:=by simpa using b
  clear HIN hf b;go_enter Tryz.func30,Tryz.ntmps30;go_upto_region 1 with(fail);have HX:=Z ((QB.new w rt A ns.length c cur v mn load B ws.length d).below (zB (Below.refl _ _) (.cells #[.int .i64 0,.slice none 0 0,.int .i64 0,.int .u64 0,.int .u64 0,.int .i64 0,.slice none 0 0] 30)));have HZ:=Z (QB.new (w.alloc (.cells #[.int .i64 rt,.slice A ns.length c,.int .i64 cur,.int .u64 v,.int .u64 mn,.int .i64 load,.slice B ws.length d] 30)) 0 none 0 0 0 0 0 0 none 0 0);have HB:=Z (zB (zB (Below.refl w.heap.size w) (.cells #[.int .i64 rt,.slice A ns.length c,.int .i64 cur,.int .u64 v,.int .u64 mn,.int .i64 load,.slice B ws.length d] 30)) (.cells #[.int .i64 0,.slice none 0 0,.int .i64 0,.int .u64 0,.int .u64 0,.int .i64 0,.slice none 0 0] 30));simp only[World.size_alloc]at HZ;generalize(w.alloc (.cells #[.int .i64 rt,.slice A ns.length c,.int .i64 cur,.int .u64 v,.int .u64 mn,.int .i64 load,.slice B ws.length d] 30)).alloc (.cells #[.int .i64 0,.slice none 0 0,.int .i64 0,.int .u64 0,.int .u64 0,.int .i64 0,.slice none 0 0] 30)=W1 at HX HZ HB⊢;obtain⟨a0,a1,a2,a3,a4,a5,a6⟩:=HX.o.al;obtain⟨z0,z1,z2,z3,z4,z5,z6⟩:=HZ.o.al;obtain⟨f0,f1,f2,f3,f4,f5,f6⟩:=HZ.o.fr;go_wp2;refine bodyPost_ret (yK (cs:=#[.int .i64 rt,.slice A ns.length c,.int .i64 cur,.int .u64 v,.int .u64 mn,.int .i64 load,.slice B ws.length d]) rfl _ _ (w.heap.size+1) 30 (0,0) _ rfl (zW HZ.o.o rfl _ _ _ _ _ _ _) Tryz.underlying30 rfl (by kernel_rfl)) rfl ?_;have HBE:=yS HB.o (g:=w.heap.size+1) (by omega) (.int .i64 rt) (.slice A ns.length c) (.int .i64 cur) (.int .u64 v) (.int .u64 mn) (.int .i64 load) (.slice B ws.length d);exact⟨_,rfl,_,_,_,_,rfl,HQ.o.below HBE,HBE⟩
 obtain⟨t',e1,e2⟩:=HIN.o b;have e1':insA ⟨ns,rt⟩ mn (v,cur)=some (t',0):=e1;rw[if_neg b,e1]at hf;obtain rfl:x=⟨t',-1,0,mn,load,ws⟩:=(Option.some.inj hf).symm;obtain⟨ns',rt'⟩:=t';have HI:=Z e1';have HNL:=Z (show ns'.length=ns.length from e2);have b1:(cur != -1)=true:=by simpa using b
 clear HIN hf b e1 e1' e2;go_enter Tryz.func30,Tryz.ntmps30;go_upto_region 1 with(fail);have HX:=Z ((QB.new w rt A ns.length c cur v mn load B ws.length d).below (zB (Below.refl _ _) (.cells #[.int .i64 0,.slice none 0 0,.int .i64 0,.int .u64 0,.int .u64 0,.int .i64 0,.slice none 0 0] 30)));have HZ:=Z (QB.new (w.alloc (.cells #[.int .i64 rt,.slice A ns.length c,.int .i64 cur,.int .u64 v,.int .u64 mn,.int .i64 load,.slice B ws.length d] 30)) 0 none 0 0 0 0 0 0 none 0 0);have HB:=Z (zB (zB (Below.refl w.heap.size w) (.cells #[.int .i64 rt,.slice A ns.length c,.int .i64 cur,.int .u64 v,.int .u64 mn,.int .i64 load,.slice B ws.length d] 30)) (.cells #[.int .i64 0,.slice none 0 0,.int .i64 0,.int .u64 0,.int .u64 0,.int .i64 0,.slice none 0 0] 30));simp only[World.size_alloc]at HZ;generalize(w.alloc (.cells #[.int .i64 rt,.slice A ns.length c,.int .i64 cur,.int .u64 v,.int .u64 mn,.int .i64 load,.slice B ws.length d] 30)).alloc (.cells #[.int .i64 0,.slice none 0 0,.int .i64 0,.int .u64 0,.int .u64 0,.int .i64 0,.slice none 0 0] 30)=W1 at HX HZ HB⊢;obtain⟨a0,a1,a2,a3,a4,a5,a6⟩:=HX.o.al;have HQ1:=Z (HQ.o.boxes (n:=2) HB.o (by have:=HZ.o.lt;omega));have HT1:=Z (HT.o.below HB.o);go_upto_region 3 with(go_at_call 45;refine(Insert_ (t:=⟨ns,rt⟩) A c mn (v,cur) (⟨ns',rt'⟩,0) HQ1.o.trC HQ1.o.tl HT1.o HI.o).mono ?_;rintro e w2 hp;obtain⟨v2,rfl,hR,hb⟩:=hp.o;obtain⟨A2,c2,hv2,hlc2,hC2⟩:=Kd.yE hR;subst hv2;have HX2:=Z (HX.o.below hb);have HZ2:=Z (HZ.o.below hb);have HB2:=Z (zD HB.o hb);have HQ2:=Z ((HQ1.o.below hb).tree (t':=⟨ns',rt'⟩) (w0:=W1) hR HQ1.o.sl (by have:=HNL.o;have:=HQ1.o.tl;show ns'.length≤_;have e:(⟨⟨ns,rt⟩,cur,v,mn,load,ws⟩:Q).t.ns.length=ns.length:=rfl;omega));clear hp hR hb hC2 hlc2;have a0:=HX2.o.c0;have a1:=HX2.o.c1;have f0:=HX2.o.frozen 0;have f1:=HX2.o.frozen 1);have HX3:=Z (HX2.o.st01 rt' A2 ns'.length c2);have HZ3:=Z ((HZ2.o.far (k:=w.heap.size) (by omega) 0 (.int .i64 rt')).far (k:=w.heap.size) (by omega) 1 (.slice A2 ns'.length c2));have HB3:=Z (Below.setCell (Below.setCell HB2.o (p:=⟨w.heap.size,0,none⟩) (Nat.le_refl _) (.int .i64 rt')) (p:=⟨w.heap.size,1,none⟩) (Nat.le_refl _) (.slice A2 ns'.length c2));have HQ3:=Z ((HQ2.o.put w.heap.size 0 (by omega) (by omega) (.int .i64 rt')).put w.heap.size 1 (by omega) (by omega) (.slice A2 ns'.length c2));clear a0 a1 a2 a3 a4 a5 a6 f0 f1;generalize(w2.setCell ⟨w.heap.size,0,none⟩ (.int .i64 rt')).setCell ⟨w.heap.size,1,none⟩ (.slice A2 ns'.length c2)=w3 at HX3 HZ3 HB3 HQ3⊢;have a2:=HX3.o.c2;have a3:=HX3.o.c3;have f2:=HX3.o.frozen 2;have f3:=HX3.o.frozen 3;go_upto_region 4 with(fail);have HX4:=Z ((HX3.o.st2 (-1)).st3 0);have HZ4:=Z ((HZ3.o.far (k:=w.heap.size) (by omega) 2 (.int .i64 (-1))).far (k:=w.heap.size) (by omega) 3 (.int .u64 0));have HB4:=Z (Below.setCell (Below.setCell HB3.o (p:=⟨w.heap.size,2,none⟩) (Nat.le_refl _) (.int .i64 (-1))) (p:=⟨w.heap.size,3,none⟩) (Nat.le_refl _) (.int .u64 0));have HQ4:=Z (((HQ3.o.put w.heap.size 2 (by omega) (by omega) (.int .i64 (-1))).put w.heap.size 3 (by omega) (by omega) (.int .u64 0)).fields (q':=⟨⟨ns',rt'⟩,-1,0,mn,load,ws⟩) rfl rfl);clear a2 a3 f2 f3;generalize(w3.setCell ⟨w.heap.size,2,none⟩ (.int .i64 (-1))).setCell ⟨w.heap.size,3,none⟩ (.int .u64 0)=w4 at HX4 HZ4 HB4 HQ4⊢;obtain⟨a0,a1,a2,a3,a4,a5,a6⟩:=HX4.o.al;obtain⟨z0,z1,z2,z3,z4,z5,z6⟩:=HZ4.o.al;obtain⟨f0,f1,f2,f3,f4,f5,f6⟩:=HZ4.o.fr;go_wp2;refine bodyPost_ret (yK (cs:=#[.int .i64 rt',.slice A2 ns'.length c2,.int .i64 (-1),.int .u64 0,.int .u64 mn,.int .i64 load,.slice B ws.length d]) rfl _ _ (w.heap.size+1) 30 (0,0) _ rfl (zW HZ4.o.o rfl _ _ _ _ _ _ _) Tryz.underlying30 rfl (by kernel_rfl)) rfl ?_;have HBE:=yS HB4.o (g:=w.heap.size+1) (by omega) (.int .i64 rt') (.slice A2 ns'.length c2) (.int .i64 (-1)) (.int .u64 0) (.int .u64 mn) (.int .i64 load) (.slice B ws.length d);exact⟨_,rfl,_,_,_,_,rfl,(HQ4.o.put7 (w.heap.size+1) (by omega) (by omega) _ _ _ _ _ _ _).vI,HBE⟩
end Go.Proofs.YtnkhnnojdlgfjaaGreatDoor.Qw
end
section
namespace Go.Proofs.YtnkhnnojdlgfjaaGreatDoor.Qw
open RowKit Tr Tk Tm Qu PA PB PC
variable {S : Nat → Prop} {A B : Option Addr} {c d : Nat} {w w' : World} {q : Q}
section
variable {ns : List Nd} {rt cur v mn load : Int} {ws : List Int} {g : Nat} {W : World}
theorem not_known (q:Q) (id x:Int):(if yG q id=true then !(yF x)else true)=!(yG q id&&yF x):=by
 cases yG q id<;>rfl
theorem enter1_ (hx:QB rt A ns.length c cur v mn load B ws.length d W g) (hq:QIn S A c B d W ⟨⟨ns,rt⟩,cur,v,mn,load,ws⟩) (id x:Int) (g1 g2:Nat) (h1:W.cell? ⟨g1,0,none⟩=some (.int .i64 id)) (h2:W.cell? ⟨g2,0,none⟩=some (.int .i64 x)) :
  Calls Tryz.prog 40 #[.pointer (some ⟨g,0,none⟩),.pointer (some ⟨g1,0,none⟩),.pointer (some ⟨g2,0,none⟩)] W fun e w'=>e=.returned (.bool (!(yG ⟨⟨ns,rt⟩,cur,v,mn,load,ws⟩ id&&yF x)))∧Below W.heap.size W w':=by
 have HX:=Z hx;have HQ:=Z hq;have HK:=Z (show Calls Tryz.prog 35 #[.agg #[.int .i64 rt,.slice A ns.length c,.int .i64 cur,.int .u64 v,.int .u64 mn,.int .i64 load,.slice B ws.length d],.int .i64 id] W fun e w'=>e=.returned (.bool (yG ⟨⟨ns,rt⟩,cur,v,mn,load,ws⟩ id))∧Below W.heap.size W w' from known_ id hq);have HE2:=Z h2;rw[←not_known];generalize yG ⟨⟨ns,rt⟩,cur,v,mn,load,ws⟩ id=kn at HK⊢;have HW:=Z (weighed_ x);generalize yF x=wx at HW⊢;obtain⟨a0,a1,a2,a3,a4,a5,a6⟩:=HX.o.al;clear hx hq h2;go_enter Tryz.func40,Tryz.ntmps40;cases kn with
 | true=>
  go_wp2_with (first
   | (go_at_call 35;refine HK.o.mono ?_;rintro e w2 ⟨rfl,hb⟩;have HB:=Z hb;have h3:=zJ hb HE2.o;clear hb)
   | (go_at_call 41;refine(HW.o _).mono ?_;rintro e w3 ⟨rfl,hb⟩;have HB2:=Z (zD HB.o hb);clear hb))
  go_ret;exact⟨rfl,HB2.o⟩
 | false=>
  go_wp2_with (go_at_call 35;refine HK.o.mono ?_;rintro e w2 ⟨rfl,hb⟩;have HB:=Z hb;clear hb);go_ret;exact⟨rfl,HB.o⟩
theorem enter2_ (hx:QB rt A ns.length c cur v mn load B ws.length d W g) (hq:QIn S A c B d W ⟨⟨ns,rt⟩,cur,v,mn,load,ws⟩) (id:Int) (g1:Nat) (h1:W.cell? ⟨g1,0,none⟩=some (.int .i64 id)) (h3:0≤id) (h4:id<(ns.length:Int)) :
  Calls Tryz.prog 42 #[.pointer (some ⟨g,0,none⟩),.pointer (some ⟨g1,0,none⟩)] W fun e w'=>e=.returned (.bool (yV ⟨⟨ns,rt⟩,cur,v,mn,load,ws⟩ id))∧Below W.heap.size W w':=by
 have HX:=Z hx;have HK:=Z (show Calls Tryz.prog 37 #[.agg #[.int .i64 rt,.slice A ns.length c,.int .i64 cur,.int .u64 v,.int .u64 mn,.int .i64 load,.slice B ws.length d],.int .i64 id] W fun e w'=>e=.returned (.bool (yV ⟨⟨ns,rt⟩,cur,v,mn,load,ws⟩ id))∧Below W.heap.size W w' from here_ id hq h3 h4);generalize yV ⟨⟨ns,rt⟩,cur,v,mn,load,ws⟩ id=hh at HK⊢;obtain⟨a0,a1,a2,a3,a4,a5,a6⟩:=HX.o.al;clear hx hq h3 h4;go_enter Tryz.func42,Tryz.ntmps42;go_wp2_with (go_at_call 37;refine HK.o.mono ?_;rintro e w2 ⟨rfl,hb⟩;have HB:=Z hb;clear hb);go_ret;exact⟨rfl,HB.o⟩
theorem leave2_ (hx:QB rt A ns.length c cur v mn load B ws.length d W g) (hq:QIn S A c B d W ⟨⟨ns,rt⟩,cur,v,mn,load,ws⟩) (id:Int) (g1:Nat) (h1:W.cell? ⟨g1,0,none⟩=some (.int .i64 id)) (h3:0≤id) (h4:id<(ns.length:Int)) :
  Calls Tryz.prog 36 #[.pointer (some ⟨g,0,none⟩),.pointer (some ⟨g1,0,none⟩)] W fun e w'=>e=.returned (.bool (!(yV ⟨⟨ns,rt⟩,cur,v,mn,load,ws⟩ id)))∧Below W.heap.size W w':=by
 have HX:=Z hx;have HK:=Z (show Calls Tryz.prog 37 #[.agg #[.int .i64 rt,.slice A ns.length c,.int .i64 cur,.int .u64 v,.int .u64 mn,.int .i64 load,.slice B ws.length d],.int .i64 id] W fun e w'=>e=.returned (.bool (yV ⟨⟨ns,rt⟩,cur,v,mn,load,ws⟩ id))∧Below W.heap.size W w' from here_ id hq h3 h4);generalize yV ⟨⟨ns,rt⟩,cur,v,mn,load,ws⟩ id=hh at HK⊢;obtain⟨a0,a1,a2,a3,a4,a5,a6⟩:=HX.o.al;clear hx hq h3 h4;go_enter Tryz.func36,Tryz.ntmps36;go_wp2_with (go_at_call 37;refine HK.o.mono ?_;rintro e w2 ⟨rfl,hb⟩;have HB:=Z hb;clear hb);go_ret;exact⟨rfl,HB.o⟩
theorem leave1_ (hx:QB rt A ns.length c cur v mn load B ws.length d W g) (hq:QIn S A c B d W ⟨⟨ns,rt⟩,cur,v,mn,load,ws⟩) (id:Int) (g1:Nat) (h1:W.cell? ⟨g1,0,none⟩=some (.int .i64 id)) :
  Calls Tryz.prog 34 #[.pointer (some ⟨g,0,none⟩),.pointer (some ⟨g1,0,none⟩)] W fun e w'=>e=.returned (.bool (!(yG ⟨⟨ns,rt⟩,cur,v,mn,load,ws⟩ id)))∧Below W.heap.size W w':=by
 have HX:=Z hx;have HK:=Z (show Calls Tryz.prog 35 #[.agg #[.int .i64 rt,.slice A ns.length c,.int .i64 cur,.int .u64 v,.int .u64 mn,.int .i64 load,.slice B ws.length d],.int .i64 id] W fun e w'=>e=.returned (.bool (yG ⟨⟨ns,rt⟩,cur,v,mn,load,ws⟩ id))∧Below W.heap.size W w' from known_ id hq);generalize yG ⟨⟨ns,rt⟩,cur,v,mn,load,ws⟩ id=hh at HK⊢;obtain⟨a0,a1,a2,a3,a4,a5,a6⟩:=HX.o.al;clear hx hq;go_enter Tryz.func34,Tryz.ntmps34;go_wp2_with (go_at_call 35;refine HK.o.mono ?_;rintro e w2 ⟨rfl,hb⟩;have HB:=Z hb;clear hb);go_ret;exact⟨rfl,HB.o⟩
theorem pick1_ (hx:QB rt A ns.length c cur v mn load B ws.length d W g) (hq:QIn S A c B d W ⟨⟨ns,rt⟩,cur,v,mn,load,ws⟩) (hT:Emp W) (hr:zP ⟨⟨ns,rt⟩,cur,v,mn,load,ws⟩=true) :
  Calls Tryz.prog 29 #[.pointer (some ⟨g,0,none⟩)] W fun e w'=>e=.returned (.bool (decide (yH ⟨⟨ns,rt⟩,cur,v,mn,load,ws⟩=[])))∧Below W.heap.size W w':=by
 have HX:=Z hx;have HK:=Z (show Calls Tryz.prog 26 #[.agg #[.int .i64 rt,.slice A ns.length c,.int .i64 cur,.int .u64 v,.int .u64 mn,.int .i64 load,.slice B ws.length d]] W fun e w'=>jU W (yH ⟨⟨ns,rt⟩,cur,v,mn,load,ws⟩) e w' from keys_ hq (qQ hr).1 (qQ hr).2 hT);generalize yH ⟨⟨ns,rt⟩,cur,v,mn,load,ws⟩=kl at HK⊢;obtain⟨a0,a1,a2,a3,a4,a5,a6⟩:=HX.o.al;clear hx hq hT hr;have HN:=Z (show((kl.length:Int)==0)=decide (kl=[])by cases kl<;>simp<;>omega);generalize hdd:decide (kl=[])=dd at HN⊢;clear hdd;go_enter Tryz.func29,Tryz.ntmps29;go_wp2_with (go_at_call 26;refine HK.o.mono ?_;rintro e w2 ⟨v2,rfl,hR,hb⟩;obtain⟨A5,c5,hv5,hlc5,hC5⟩:=Kd.yE hR;subst hv5;have HB:=Z hb;clear hR hb hC5 hlc5);go_ret;exact⟨by rw[←HN.o];rfl,HB.o⟩
theorem tick1_ (x:Int) (h1:W.cell? ⟨g,0,none⟩=some (.int .i64 x)):Calls Tryz.prog 57 #[.pointer (some ⟨g,0,none⟩)] W fun e w'=>e=.returned (.bool (decide (x<0∨1099511627776<x)))∧Below W.heap.size W w':=by
 have HB:=Z (Below.refl W.heap.size W);by_cases h:x<0
 ·have e:decide (x<0∨1099511627776<x)=true:=decide_eq_true (Or.inl h);rw[e];have e1:decide (x<0)=true:=decide_eq_true h;go_enter Tryz.func57,Tryz.ntmps57;go_wp2;go_ret;exact⟨rfl,HB.o⟩
 have e:decide (x<0∨1099511627776<x)=decide (1099511627776<x):=by simp[h]
 rw[e];have e1:decide (x<0)=false:=decide_eq_false h;go_enter Tryz.func57,Tryz.ntmps57;go_wp2;go_ret;exact⟨rfl,HB.o⟩
theorem idle_ (w:World):Calls Tryz.prog 56 #[.agg #[.int .i64 rt,.slice A ns.length c,.int .i64 cur,.int .u64 v,.int .u64 mn,.int .i64 load,.slice B ws.length d]] w fun e w'=>∃hb eb,e=.returned (ifV hb eb)∧w'.cell? ⟨eb,0,none⟩=some (.int .i64 8)∧w'.cell? ⟨hb,0,none⟩=some (.func (.func 103) #[] #[.pointer (some ⟨w.heap.size,0,none⟩)])∧QB rt A ns.length c cur v mn load B ws.length d w' w.heap.size∧Below w.heap.size w w':=by
 have HX:=Z (QB.new w rt A ns.length c cur v mn load B ws.length d);have HB:=Z (zB (Below.refl w.heap.size w) (.cells #[.int .i64 rt,.slice A ns.length c,.int .i64 cur,.int .u64 v,.int .u64 mn,.int .i64 load,.slice B ws.length d] 30));go_enter Tryz.func56,Tryz.ntmps56;go_wp2_with (go_at_call 28;refine(if_ 8 103 _ _).mono ?_;rintro e w2 ⟨rfl,hc1,hc2,hb⟩;have HX2:=Z (HX.o.below hb);have HB2:=Z (zD HB.o hb);have HC1:=Z hc1;have HC2:=Z hc2;clear hc1 hc2 hb);go_ret;exact⟨_,_,rfl,by simpa using HC1.o,by simpa using HC2.o,HX2.o,HB2.o⟩
end
theorem first1_ (h:QIn S A c B d w q) (hT:Emp w) (hb eb:Nat) (r:Int) (gl:Nat) (hL:w.heap[gl]?=some (.cells #[ifV hb eb] 63 (0,0)))
  (hc:zP q=true→∀W,Below w.heap.size w W→Calls Tryz.prog 74 #[.pointer (some ⟨hb,0,none⟩),.pointer (some ⟨eb,0,none⟩)] W fun e w'=>e=.returned (.int .i64 r)∧Below W.heap.size W w') :
  Calls Tryz.prog 27 #[.agg (qc A c B d q),.slice (some ⟨gl,0,none⟩) 1 1] w fun e w'=>e=.returned (.int .i64 (if zP q=true then r else 4))∧Below w.heap.size w w':=by
 have h1:=first_ h hT [(hb,eb,r)] gl (by simp) hL (fun i hi hr _=>by
  obtain rfl:i=0:=by simp at hi;omega
  exact hc hr)
 have e:vM (res [(hb,eb,r)])=r:=by
  show(if r=0 then 0 else r)=r;split<;>omega
 rw[e]at h1;exact h1
theorem zcM (h:QIn S A c B d w q) (hT:Emp w) (hb eb hb2 eb2:Nat) (r r2:Int) (gl:Nat) (hL:w.heap[gl]?=some (.cells #[ifV hb eb,ifV hb2 eb2] 63 (0,0)))
  (hc:zP q=true→∀W,Below w.heap.size w W→Calls Tryz.prog 74 #[.pointer (some ⟨hb,0,none⟩),.pointer (some ⟨eb,0,none⟩)] W fun e w'=>e=.returned (.int .i64 r)∧Below W.heap.size W w')
  (hc2:zP q=true→r=0→∀W,Below w.heap.size w W→Calls Tryz.prog 74 #[.pointer (some ⟨hb2,0,none⟩),.pointer (some ⟨eb2,0,none⟩)] W fun e w'=>e=.returned (.int .i64 r2)∧Below W.heap.size W w') :
  Calls Tryz.prog 27 #[.agg (qc A c B d q),.slice (some ⟨gl,0,none⟩) 2 2] w fun e w'=>e=.returned (.int .i64 (if zP q=true then (if r=0 then r2 else r)else 4))∧Below w.heap.size w w':=by
 have h1:=first_ h hT [(hb,eb,r),(hb2,eb2,r2)] gl (by simp) hL (fun i hi hr hz=>by
  match i,hi with
  | 0,_=>exact hc hr
  | 1,_=>exact hc2 hr (hz 0 (by omega)))
 have e:vM (res [(hb,eb,r),(hb2,eb2,r2)])=if r=0 then r2 else r:=by
  show(if r=0 then (if r2=0 then 0 else r2)else r)=_
  repeat' split
  all_goals omega
 rw[e]at h1;exact h1
structure KB (S:Nat→Prop) (n z:Nat) (A:Option Addr) (c:Nat) (B:Option Addr) (d:Nat) (q:Q) (w W:World) (L:List (Nat × Value)):Prop where mk::
 x:QB q.t.rt A q.t.ns.length c q.cur q.v q.mn q.load B q.ws.length d W w.heap.size
 z:QB 0 none 0 0 0 0 0 0 none 0 0 W z
 b:Below w.heap.size w W
 q:QIn (bx S w.heap.size n) A c B d W q
 t:Emp W
 l:∀p∈L,W.cell? ⟨p.1,0,none⟩=some p.2
section
variable {n z : Nat} {W W' : World} {L : List (Nat × Value)}
theorem KB.step (h:KB S n z A c B d q w W L) (hb:Below W.heap.size W W'):KB S n z A c B d q w W' L:=⟨h.x.below hb,h.z.below hb,zD h.b hb,h.q.below hb,h.t.below hb,fun p hp=>zJ hb (h.l p hp)⟩
theorem KB.drew (h:KB S n z A c B d q w W L):KB S n z A c B d q w W.drew L:=h.step (Below.drew (Below.refl _ _))
theorem KB.sub (h:KB S n z A c B d q w W L) {L':List (Nat × Value)}(hs:∀p∈L',p∈L):KB S n z A c B d q w W L':=⟨h.x,h.z,h.b,h.q,h.t,fun p hp=>h.l p (hs p hp)⟩
theorem KB.more (h:KB S n z A c B d q w W L) {g:Nat}{u:Value}(hc:W.cell? ⟨g,0,none⟩=some u):KB S n z A c B d q w W ((g,u)::L):=⟨h.x,h.z,h.b,h.q,h.t,fun p hp=>by
 rcases List.mem_cons.1 hp with rfl|hp
 ·exact hc
 ·exact h.l p hp⟩
end
end Go.Proofs.YtnkhnnojdlgfjaaGreatDoor.Qw
end
