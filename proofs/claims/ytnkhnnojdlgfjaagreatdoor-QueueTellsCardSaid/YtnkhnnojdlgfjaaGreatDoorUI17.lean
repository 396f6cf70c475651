/- Parts of the proof, joined: Srt3, Srt4, KLib, KLib2. -/
import Derived.Test.YtnkhnnojdlgfjaaGreatDoorUI16
import Derived.Deep.DeepCutAuto
import Derived.Lib.Hide
set_option linter.unusedVariables false
set_option linter.unusedSimpArgs false
set_option maxHeartbeats 32000000
set_option maxRecDepth 100000
section
namespace Go.Proofs.YtnkhnnojdlgfjaaGreatDoor.Srt
open RowKit Ky PA PB PC
variable {rs : List Value}
theorem rotateI (g n0 c0 a m b:Nat) (A M E:Int) (ea:A=a) (em:M=m) (eb:E=b) (cm:Value) (l:List K) (w:World) (hA:Arr rs w g l) (hn:n0=l.length) (hl:l.length≤1000000) (ha:a<m) (hm:m<b) (hb:b≤l.length) :
  Calls Tryz.prog 158 #[.slice (some ⟨g,0,none⟩) n0 c0,.int .i64 A,.int .i64 M,.int .i64 E,cm] w fun e w'=>e=.returned (.tuple #[])∧(∃l',Arr rs w' g l'∧Rot l l' a m b)∧w.grownBy w' (some g):=by
 subst ea;subst em;subst eb;exact rotate g n0 c0 a m b cm l w hA hn hl ha hm hb
structure SymN (rs:List Value) (cv:K→K→Int) (B:Nat) (mn:Int) (g n0 c0:Nat) (N:Nat):Prop where mk::
 o:∀(a m b:Nat) (A M E:Int),A=a→M=m→E=b→∀(l:List K) (w:World),b-a≤N→Arr rs w g l→w.cell? ⟨B,0,none⟩=some (.int .u64 mn)→n0=l.length→l.length≤1000000→a<m→m<b→b≤l.length→Srd cv l a m→Srd cv l m b→
  Calls Tryz.prog 154 #[.slice (some ⟨g,0,none⟩) n0 c0,.int .i64 A,.int .i64 M,.int .i64 E,.func (.func 120) #[] #[.pointer (some ⟨B,0,none⟩)]] w fun e w'=>e=.returned (.tuple #[])∧(∃l',Arr rs w' g l'∧Rng l l' a b∧Srd cv l' a b)∧w.grownBy w' (some g)
theorem Rot.none_ {l:List K}{s m e:Nat}(h:s=m∨e=m):Rot l l s m e:=by
 refine⟨Rng.refl _ _ _,fun t h1 h2=>?_,fun t h1 h2=>?_⟩
 ·rcases h with rfl|rfl
  ·rw[show s+(t-s)=t by omega]
  ·omega
 ·rcases h with rfl|rfl
  ·omega
  ·rw[show t-(e-e)=t by omega]
section
variable {cv : K → K → Int} (O : Ord cv) {B : Nat} {mn : Int} (hcm : CmpOk cv B mn)
include O hcm
theorem symStep (g n0 c0 a m b N:Nat) (IH:SymN rs cv B mn g n0 c0 N) (hN:b-a≤N+1) (hBg:B≠g) (l:List K) (w:World) (hA:Arr rs w g l) (hB:w.cell? ⟨B,0,none⟩=some (.int .u64 mn)) (hn:n0=l.length) (hl:l.length≤1000000) (ha:a+1<m) (hm:m+1<b) (hb:b≤l.length) (hs1:Srd cv l a m) (hs2:Srd cv l m b) :
  Calls Tryz.prog 154 #[.slice (some ⟨g,0,none⟩) n0 c0,.int .i64 a,.int .i64 m,.int .i64 b,.func (.func 120) #[] #[.pointer (some ⟨B,0,none⟩)]] w fun e w'=>e=.returned (.tuple #[])∧(∃l',Arr rs w' g l'∧Rng l l' a b∧Srd cv l' a b)∧w.grownBy w' (some g):=by
 have HA:=Z hA;have HN:=Z hn;have HCM:=Z hcm;have HBX:=Z hB;have HS1:=Z hs1;have HS2:=Z hs2;have hA1:((m:Int)-(a:Int)==1)=false:=by simp;omega
 have hA2:((b:Int)-(m:Int)==1)=false:=by simp;omega
 obtain⟨d,hd⟩:∃d,d=(a+b) / 2:=⟨_,rfl⟩;have hd1:a+b≤2*d+1∧2*d≤a+b:=by omega
 have ed:((a:Int)+(b:Int)) / 2=(d:Int):=by omega
 have ED:=Z ed;have HD:=Z hd;obtain⟨S0,R0,hS0⟩:∃S0 R0,(d<m∧S0=d+m-b∧R0=d)∨(m≤d∧S0=a∧R0=m):=by
  by_cases c:d<m
  ·exact⟨_,_,Or.inl ⟨c,rfl,rfl⟩⟩
  exact⟨_,_,Or.inr ⟨by omega,rfl,rfl⟩⟩
 have HS0:=Z hS0;have b1:a≤S0∧S0≤R0∧R0≤d∧R0≤m∧d+m≤S0+b:=by omega
 clear hA hn hcm hB hs1 hs2 ed hd hS0;go_enter Tryz.func154,Tryz.ntmps154;go_upto_region 26 with(fail);rw[ED.o];clear ED;go_upto_if 140 with(fail);go_cut [20,21] (fun s20 s21 wx=>s20=.int .i64 S0∧s21=.int .i64 R0∧w=wx)
 case first=>
  as_aux_lemma=>
   by_cases c:d<m
   ·have c':(d:Int)<(m:Int):=by omega
    go_wp2_with fail
    go_meet
    exact⟨by congr 1;rcases HS0.o with h|h<;>omega,by congr 1;rcases HS0.o with h|h<;>omega,rfl⟩
   have c':¬((d:Int)<(m:Int)):=by omega
   go_wp2_with fail
   go_meet
   exact⟨by congr 1;rcases HS0.o with h|h<;>omega,by congr 1;rcases HS0.o with h|h<;>omega,rfl⟩
 case rest=>
  obtain⟨rfl,rfl,rfl⟩:=hcut;go_wp2
  go_loopw [20,21] (fun i j wr=>Sl2 (fun s r wr=>S0≤s∧s≤r∧r≤R0∧zA (Arr rs wr g l)∧zA (w.grownBy wr (some g))∧zA (s=S0∨le cv (gt l (s-1)) (gt l (d+m-s)))∧zA (r=R0∨cv (gt l (d+m-1-r)) (gt l r)<0)) i j wr) (fun i j _=>((intOf j)-(intOf i)).toNat)
  case atStart=>exact⟨S0,R0,rfl,rfl,Nat.le_refl _,b1.2.1,Nat.le_refl _,HA,⟨zaE _ _⟩,⟨Or.inl rfl⟩,⟨Or.inl rfl⟩⟩
  case round=>
   clear HA;obtain⟨s,r,rfl,rfl,h1,h2,h3,HA,HG,HP,HQ⟩:=hrel.o;by_cases hlt:s<r
   ·as_aux_lemma=>
    have eh:((s:Int)+(r:Int)) / 2=(((s+r) / 2:Nat):Int):=by omega
    have EH:=Z eh;have hc1:s≤(s+r) / 2:=by omega
    have hc2:(s+r) / 2<r:=by omega
    clear eh;go_wp2;rw[EH.o];clear EH;generalize(s+r) / 2=c at hc1 hc2⊢;have c1:=HA.o.even (d+m-1-c) (by omega);have c2:=HA.o.odd (d+m-1-c) (by omega);have c3:=HA.o.even c (by omega);have c4:=HA.o.odd c (by omega);have n1:(c:Int)<(n0:Int):=by rw[HN.o];omega
    have n2:(d:Int)+m-1-c<(n0:Int):=by rw[HN.o];omega
    have n3:c<n0:=by rw[HN.o];omega
    have n4:((d:Int)+m-1-c).toNat=d+m-1-c:=by omega
    have n5:0≤(d:Int)+m-1-c:=by omega
    have n6:(c:Int)≤(d:Int)+m-1:=by omega
    have n7:IntKind.i64.wrap ((d:Int)+m-1-c)=(d:Int)+m-1-c:=IntWalk.i64_in _ (by omega);generalize hx:gt l (d+m-1-c)=x at c1 c2;generalize hy:gt l c=y at c3 c4;have HX:=Z hx;have HY:=Z hy;clear hx hy
    go_still_tail 11,(by kernel_rfl)
    change wpList _ _ _ _ _ wr.drew;clear c1 c2 c3 c4;have HA1:=Z (HA.o.moved (w1:=wr.drew) rfl);have HG1:=Z (zbH HG.o);have HB1:=Z (kT HG1.o hBg HBX.o);clear HA HG;generalize wr.drew=w2 at HA1 HG1 HB1⊢;by_cases hcv:cv x y<0
    ·have g2:decide (cv x y<0)=true:=decide_eq_true hcv;have HCV:=Z hcv;clear hcv;go_wp2_with (go_at_call 120;(with_reducible refine(HCM.o.at_ _ x y HB1.o).mono ?_);rintro e w3 ⟨rfl,hb⟩;have HA2:=Z (HA1.o.below hb);have HG2:=Z (vB HG1.o hb);clear hb);refine⟨⟨s,c,rfl,rfl,h1,hc1,by omega,HA2,HG2,HP,⟨Or.inr ?_⟩⟩,?_⟩
     ·rw[HX.o,HY.o];exact HCV.o
     ·have e1:intOf (.int .i64 (r:Int))=r:=rfl;have e2:intOf (.int .i64 (c:Int))=c:=rfl;have e3:intOf (.int .i64 (s:Int))=s:=rfl;rw[e1,e2,e3];omega
    have g2:decide (cv x y<0)=false:=decide_eq_false hcv;have HCV:=Z hcv;clear hcv;go_wp2_with (go_at_call 120;(with_reducible refine(HCM.o.at_ _ x y HB1.o).mono ?_);rintro e w3 ⟨rfl,hb⟩;have HA2:=Z (HA1.o.below hb);have HG2:=Z (vB HG1.o hb);clear hb);refine⟨⟨c+1,r,by simp,rfl,by omega,by omega,h3,HA2,HG2,⟨Or.inr ?_⟩,HQ⟩,?_⟩
    ·rw[show c+1-1=c by omega,show d+m-(c+1)=d+m-1-c by omega,HX.o,HY.o];have:=HCV.o;show ¬cv x y<0;omega
    ·have e1:intOf (.int .i64 (r:Int))=r:=rfl;have e2:intOf (.int .i64 ((c:Int)+1))=(c:Int)+1:=rfl;have e3:intOf (.int .i64 (s:Int))=s:=rfl;rw[e1,e2,e3];omega
   obtain rfl:s=r:=by omega
   obtain⟨e,he⟩:∃e,e=d+m-s:=⟨_,rfl⟩;have HE:=Z he;have he1:m≤e∧e≤b∧d≤e∧e+s≤d+m∧d+m≤e+s:=by omega
   have ee:(d:Int)+m-s=(e:Int):=by omega
   have EE:=Z ee;have X1:zA (s=a∨d+m-s=b∨¬cv (gt l (d+m-s)) (gt l (s-1))<0):=⟨by
    rcases HP.o with h|h
    ·rcases HS0.o with k|k
     ·exact Or.inr (Or.inl (by omega))
     ·exact Or.inl (by omega)
    ·exact Or.inr (Or.inr h)⟩
   have X2:zA (s=m∨d+m-s=m∨cv (gt l (d+m-s-1)) (gt l s)<0):=⟨by
    rcases HQ.o with h|h
    ·rcases HS0.o with k|k
     ·exact Or.inr (Or.inl (by omega))
     ·exact Or.inl (by omega)
    ·exact Or.inr (Or.inr (by rw[show d+m-s-1=d+m-1-s by omega];exact h))⟩
   clear he ee HP HQ;go_upto_region 39 with(fail);rw[EE.o];clear EE;go_upto_region 39 with(fail);obtain⟨wv,hwv⟩:∃wv,wv=wr:=⟨_,rfl⟩;rw[←hwv]at HA HG⊢;clear hwv;go_cut [185] (fun c wx=>c=.bool (decide (s<m∧m<e))∧wv=wx)
   case first=>
    as_aux_lemma=>
     by_cases k1:s<m;rotate_left
     ·have k2:decide ((s:Int)<(m:Int))=false:=decide_eq_false (by omega);go_wp2_with fail
      go_meet
      exact⟨congrArg Value.bool (decide_eq_false (p:=s<m∧m<e) (by omega)).symm,rfl⟩
     have k2:(s:Int)<(m:Int):=by omega
     by_cases k3:m<e
     ·have k4:(m:Int)<(e:Int):=by omega
      go_wp2_with fail
      go_meet
      exact⟨congrArg Value.bool (decide_eq_true (p:=s<m∧m<e) ⟨k1,k3⟩).symm,rfl⟩
     have k4:decide ((m:Int)<(e:Int))=false:=decide_eq_false (by omega);go_wp2_with fail
     go_meet
     exact⟨congrArg Value.bool (decide_eq_false (p:=s<m∧m<e) (by omega)).symm,rfl⟩
   obtain⟨rfl,rfl⟩:=hcut;go_upto_if 185 with(fail);go_cut [18] (fun s18 wx=>s18=.int .i64 d∧∃l1,zA (Arr rs wx g l1)∧zA (Rot l l1 s m e)∧zA (w.grownBy wx (some g)))
   case first=>
    as_aux_lemma=>
     by_cases q1:s<m∧m<e;rotate_left
     ·have k5:decide (s<m∧m<e)=false:=decide_eq_false q1;go_wp2_with fail
      go_meet
      exact⟨rfl,l,HA,⟨Rot.none_ (by omega)⟩,HG⟩
     have k5:decide (s<m∧m<e)=true:=decide_eq_true q1;go_wp2_with (go_at_call 158;(with_reducible refine(rotateI g n0 c0 s m e _ _ _ rfl rfl rfl _ l _ HA.o HN.o hl q1.1 q1.2 (by omega)).mono ?_);rintro e_ w3 ⟨rfl,⟨l1,hA1,hR1⟩,hG1⟩;have HA1:=Z hA1;have HR1:=Z hR1;have HG1:=Z (jL HG.o hG1);clear hA1 hR1 hG1)
     go_meet
     exact⟨rfl,l1,HA1,HR1,HG1⟩
   obtain⟨rfl,l1,HA1,HR1,HG1⟩:=hcut;obtain⟨w1,hw1⟩:∃w1,w1=wc:=⟨_,rfl⟩;rw[←hw1]at HA1 HG1⊢;clear hw1;have hHV:zA (Srd cv l1 a s)∧zA (Srd cv l1 s d)∧zA (Srd cv l1 d e)∧zA (Srd cv l1 e b)∧zA (∀i j,a≤i→i<d→d≤j→j<b→le cv (gt l1 i) (gt l1 j)):=by
    have h:=rot_halves O (l:=l) (l':=l1) (a:=a) (m:=m) (b:=b) (s:=s) hb (by omega) (by omega) (by omega) (by rw[←HD.o];omega) (by rw[←HD.o];omega) (by rw[←HD.o,←HE.o];exact HR1.o) HS1.o HS2.o (by rw[←HD.o];exact X1.o) (by rw[←HD.o];exact X2.o);rw[←HD.o,←HE.o]at h;exact⟨⟨h.1⟩,⟨h.2.1⟩,⟨h.2.2.1⟩,⟨h.2.2.2.1⟩,⟨h.2.2.2.2⟩⟩
   obtain⟨HSA,HSC,HSD,HSE,HHV⟩:=hHV;have HL1:=Z HR1.o.rng.len;clear HA HG X1 X2;go_upto_region 41 with(fail);go_cut [199] (fun c wx=>c=.bool (decide (a<s∧s<d))∧w1=wx)
   case first=>
    as_aux_lemma=>
     by_cases k1:a<s;rotate_left
     ·have k2:decide ((a:Int)<(s:Int))=false:=decide_eq_false (by omega);go_wp2_with fail
      go_meet
      exact⟨congrArg Value.bool (decide_eq_false (p:=a<s∧s<d) (by omega)).symm,rfl⟩
     have k2:(a:Int)<(s:Int):=by omega
     by_cases k3:s<d
     ·have k4:(s:Int)<(d:Int):=by omega
      go_wp2_with fail
      go_meet
      exact⟨congrArg Value.bool (decide_eq_true (p:=a<s∧s<d) ⟨k1,k3⟩).symm,rfl⟩
     have k4:decide ((s:Int)<(d:Int))=false:=decide_eq_false (by omega);go_wp2_with fail
     go_meet
     exact⟨congrArg Value.bool (decide_eq_false (p:=a<s∧s<d) (by omega)).symm,rfl⟩
   obtain⟨rfl,rfl⟩:=hcut;go_upto_if 199 with(fail);go_cut [18] (fun s18 wx=>s18=.int .i64 d∧∃l2,zA (Arr rs wx g l2)∧zA (Rng l1 l2 a d)∧zA (Srd cv l2 a d)∧zA (w.grownBy wx (some g)))
   case first=>
    as_aux_lemma=>
     by_cases q1:a<s∧s<d;rotate_left
     ·have k5:decide (a<s∧s<d)=false:=decide_eq_false q1;have hS:Srd cv l1 a d:=by
       rcases Nat.lt_or_ge a s with h|h
       ·exact HSA.o.part (Nat.le_refl _) (by omega)
       ·exact HSC.o.part (by omega) (Nat.le_refl _)
      have HS3:=Z hS;clear hS;go_wp2_with fail
      go_meet
      exact⟨rfl,l1,HA1,⟨Rng.refl _ _ _⟩,HS3,HG1⟩
     have k5:decide (a<s∧s<d)=true:=decide_eq_true q1;go_wp2_with (go_at_call 154;(with_reducible refine(IH.o a s d _ _ _ rfl rfl rfl l1 _ (by omega) HA1.o (kT HG1.o hBg HBX.o) (by rw[HL1.o];exact HN.o) (by rw[HL1.o];exact hl) q1.1 q1.2 (by rw[HL1.o];omega) HSA.o HSC.o).mono ?_);rintro e_ w3 ⟨rfl,⟨l2,hA2,hR2,hS2⟩,hG2⟩;have HA2:=Z hA2;have HR2:=Z hR2;have HS3:=Z hS2;have HG2:=Z (jL HG1.o hG2);clear hA2 hR2 hS2 hG2)
     go_meet
     exact⟨rfl,l2,HA2,HR2,HS3,HG2⟩
   obtain⟨rfl,l2,HA2,HR2,HS3,HG2⟩:=hcut;obtain⟨w2,hw2⟩:∃w2,w2=wc:=⟨_,rfl⟩;rw[←hw2]at HA2 HG2⊢;clear hw2;have HL2:=Z (HR2.o.len.trans HL1.o);have HRR:=Z ((HR1.o.rng.wide (a':=a) (b':=b) (by omega) (by omega)).trans (HR2.o.wide (Nat.le_refl _) (by omega)));have HSF:=Z (HSD.o.keep (l':=l2) (fun t h5 h6=>HR2.o.o t (Or.inr h5)));have HSG:=Z (HSE.o.keep (l':=l2) (fun t h5 h6=>HR2.o.o t (Or.inr (by omega))));clear HA1 HG1;go_upto_region 43 with(fail);go_cut [213] (fun c wx=>c=.bool (decide (d<e∧e<b))∧w2=wx)
   case first=>
    as_aux_lemma=>
     by_cases k1:d<e;rotate_left
     ·have k2:decide ((d:Int)<(e:Int))=false:=decide_eq_false (by omega);go_wp2_with fail
      go_meet
      exact⟨congrArg Value.bool (decide_eq_false (p:=d<e∧e<b) (by omega)).symm,rfl⟩
     have k2:(d:Int)<(e:Int):=by omega
     by_cases k3:e<b
     ·have k4:(e:Int)<(b:Int):=by omega
      go_wp2_with fail
      go_meet
      exact⟨congrArg Value.bool (decide_eq_true (p:=d<e∧e<b) ⟨k1,k3⟩).symm,rfl⟩
     have k4:decide ((e:Int)<(b:Int))=false:=decide_eq_false (by omega);go_wp2_with fail
     go_meet
     exact⟨congrArg Value.bool (decide_eq_false (p:=d<e∧e<b) (by omega)).symm,rfl⟩
   obtain⟨rfl,rfl⟩:=hcut;by_cases q1:d<e∧e<b;rotate_left
   ·have k5:decide (d<e∧e<b)=false:=decide_eq_false q1;have hS:Srd cv l2 d b:=by
     rcases Nat.lt_or_ge d e with h|h
     ·exact HSF.o.part (Nat.le_refl _) (by omega)
     ·exact HSG.o.part (by omega) (Nat.le_refl _)
    have HS4:=Z hS;clear hS;go_wp2
    go_end0
    exact⟨rfl,⟨l2,HA2.o,HRR.o,halves (l:=l1) (d:=d) (by rw[HL1.o];exact hb) (by omega) (by omega) HR2.o (Rng.refl _ _ _) HS3.o HS4.o HHV.o⟩,HG2.o⟩
   have k5:decide (d<e∧e<b)=true:=decide_eq_true q1;go_wp2_with (go_at_call 154;(with_reducible refine(IH.o d e b _ _ _ rfl rfl rfl l2 _ (by omega) HA2.o (kT HG2.o hBg HBX.o) (by rw[HL2.o];exact HN.o) (by rw[HL2.o];exact hl) q1.1 q1.2 (by rw[HL2.o];omega) HSF.o HSG.o).mono ?_);rintro e_ w3 ⟨rfl,⟨l3,hA3,hR3,hS4⟩,hG3⟩;have HA3:=Z hA3;have HR3:=Z hR3;have HS4:=Z hS4;have HG3:=Z (jL HG2.o hG3);clear hA3 hR3 hS4 hG3)
   go_end0
   exact⟨rfl,⟨l3,HA3.o,HRR.o.trans (HR3.o.wide (by omega) (Nat.le_refl _)),halves (l:=l1) (d:=d) (by rw[HL1.o];exact hb) (by omega) (by omega) HR2.o HR3.o HS3.o HS4.o HHV.o⟩,HG3.o⟩
end
end Go.Proofs.YtnkhnnojdlgfjaaGreatDoor.Srt
end
section
namespace Go.Proofs.YtnkhnnojdlgfjaaGreatDoor.Srt
open RowKit Ky PA PB PC
variable {rs : List Value}
section
variable {cv : K → K → Int} (O : Ord cv) {B : Nat} {mn : Int} (hcm : CmpOk cv B mn)
include O hcm
theorem symN (g n0 c0:Nat) (hBg:B≠g):∀N,SymN rs cv B mn g n0 c0 N
 | 0=>⟨fun a m b A M E ea em eb l w hN hA hB hn hl ha hm hb hs1 hs2=>by omega⟩
 | N+1=>⟨fun a m b A M E ea em eb l w hN hA hB hn hl ha hm hb hs1 hs2=>by
  subst ea;subst em;subst eb;by_cases c1:m=a+1
  ·subst c1;by_cases c2:a+1<b
   ·exact symFirst O hcm g n0 c0 a (a+1) b rfl hBg l w hA hB hn hl c2 hb hs2
   ·omega
  by_cases c2:b=m+1
  ·exact symLast O hcm g n0 c0 a m b c2 hBg l w hA hB hn hl (by omega) hb hs1
  ·exact symStep O hcm g n0 c0 a m b N (symN g n0 c0 hBg N) hN hBg l w hA hB hn hl (by omega) (by omega) hb hs1 hs2⟩
theorem symMerge (g n0 c0 a m b:Nat) (A M E:Int) (ea:A=a) (em:M=m) (eb:E=b) (hBg:B≠g) (l:List K) (w:World) (hA:Arr rs w g l) (hB:w.cell? ⟨B,0,none⟩=some (.int .u64 mn)) (hn:n0=l.length) (hl:l.length≤1000000) (ha:a<m) (hm:m<b) (hb:b≤l.length) (hs1:Srd cv l a m) (hs2:Srd cv l m b) :
  Calls Tryz.prog 154 #[.slice (some ⟨g,0,none⟩) n0 c0,.int .i64 A,.int .i64 M,.int .i64 E,.func (.func 120) #[] #[.pointer (some ⟨B,0,none⟩)]] w fun e w'=>e=.returned (.tuple #[])∧(∃l',Arr rs w' g l'∧Rng l l' a b∧Srd cv l' a b)∧w.grownBy w' (some g):=
 (symN O hcm g n0 c0 hBg (b-a)).o a m b A M E ea em eb l w (Nat.le_refl _) hA hB hn hl ha hm hb hs1 hs2
theorem insertionI (g n0 c0 a b:Nat) (A E:Int) (ea:A=a) (eb:E=b) (hBg:B≠g) (l:List K) (w:World) (hA:Arr rs w g l) (hB:w.cell? ⟨B,0,none⟩=some (.int .u64 mn)) (hn:n0=l.length) (hl:l.length≤1000000) (ha:a≤b) (hb:b≤l.length) :
  Calls Tryz.prog 153 #[.slice (some ⟨g,0,none⟩) n0 c0,.int .i64 A,.int .i64 E,.func (.func 120) #[] #[.pointer (some ⟨B,0,none⟩)]] w fun e w'=>e=.returned (.tuple #[])∧(∃l',Arr rs w' g l'∧Rng l l' a b∧Srd cv l' a b)∧w.grownBy w' (some g):=by
 subst ea;subst eb;exact insertion O hcm g n0 c0 a b hBg l w hA hB hn hl ha hb
theorem stable (g n c0:Nat) (hBg:B≠g) (l:List K) (w:World) (hA:Arr rs w g l) (hB:w.cell? ⟨B,0,none⟩=some (.int .u64 mn)) (hn:n=l.length) (hl:l.length≤1000000) :
  Calls Tryz.prog 143 #[.slice (some ⟨g,0,none⟩) n c0,.int .i64 n,.func (.func 120) #[] #[.pointer (some ⟨B,0,none⟩)]] w fun e w'=>e=.returned (.tuple #[])∧(∃l',Arr rs w' g l'∧l'.Perm l∧Srd cv l' 0 n)∧w.grownBy w' (some g):=by
 have HA:=Z hA;have HN:=Z hn;have HCM:=Z hcm;have HBX:=Z hB;have hn2:n≤1000000:=by omega
 clear hA hn hcm hB hl;go_enter Tryz.func143,Tryz.ntmps143;go_wp2
 go_loopw [7,8] (fun i j wr=>Sl2 (fun a b wr=>b=a+20∧a≤n∧∃L,zA (Arr rs wr g L)∧zA (L.Perm l)∧zA (Done cv 20 L a)∧zA (w.grownBy wr (some g))) i j wr) (fun i j _=>n+20-(intOf j).toNat)
 case atStart=>exact⟨0,20,by simp,by simp,rfl,Nat.zero_le _,l,HA,⟨List.Perm.refl _⟩,⟨.nil⟩,⟨zaE _ _⟩⟩
 case round=>
  clear HA;obtain⟨a,b,rfl,rfl,hab,han,L,HA,HP,HD,HG⟩:=hrel.o;have HL:=Z HP.o.length_eq;have HAB:=Z hab;have hab2:a+20≤b∧b≤a+20:=by omega
  clear hab;by_cases hlt:b≤n
  ·go_wp2_with (go_at_call 153;(with_reducible refine(insertionI O HCM.o g n c0 a b _ _ rfl rfl hBg L _ HA.o (kT HG.o hBg HBX.o) (by rw[HL.o];exact HN.o) (by rw[HL.o,←HN.o];exact hn2) (by omega) (by rw[HL.o,←HN.o];exact hlt)).mono ?_);rintro e_ w3 ⟨rfl,⟨l2,hA2,hR2,hS2⟩,hG2⟩;have HA2:=Z hA2;have HR2:=Z hR2;have HS3:=Z hS2;have HG2:=Z (jL HG.o hG2);clear hA2 hR2 hS2 hG2);refine⟨⟨b,b+20,rfl,by simp,rfl,hlt,l2,HA2,⟨HR2.o.perm.trans HP.o⟩,⟨?_⟩,HG2⟩,?_⟩
   ·have h:=Done.cons (HD.o.keep (l':=l2) (fun t ht=>HR2.o.o t (Or.inl ht))) (by rw[←HAB.o];exact HS3.o)
    rwa [←HAB.o]at h
   ·have e1:intOf (.int .i64 ((b:Int)+20))=(b:Int)+20:=rfl;have e2:intOf (.int .i64 (b:Int))=(b:Int):=rfl;rw[e1,e2];omega
  go_wp2_with (go_at_call 153;(with_reducible refine(insertionI O HCM.o g n c0 a n _ _ rfl rfl hBg L _ HA.o (kT HG.o hBg HBX.o) (by rw[HL.o];exact HN.o) (by rw[HL.o,←HN.o];exact hn2) han (by rw[HL.o,←HN.o];exact Nat.le_refl _)).mono ?_);rintro e_ w3 ⟨rfl,⟨l2,hA2,hR2,hS2⟩,hG2⟩;have HA2:=Z hA2;have HR2:=Z hR2;have HS3:=Z hS2;have HG2:=Z (jL HG.o hG2);clear hA2 hR2 hS2 hG2);have hB2:Blks cv 20 l2 n 0:=by
   refine Done.blks (by omega) (HD.o.keep (l':=l2) (fun t ht=>HR2.o.o t (Or.inl ht))) han ?_;by_cases h:a<n;rotate_left
   ·exact .nil (by omega)
   refine .cons h ?_ (.nil (by omega));rw[Nat.min_eq_right (by omega)];exact HS3.o
  have HB2:=Z hB2;have HP2:=Z (HR2.o.perm.trans HP.o);clear hB2 HA HG HP HD HL HS3 HR2
  go_loopw [6] (fun i wr=>Sl1 (fun bs wr=>0<bs∧bs≤2000020∧∃L,zA (Arr rs wr g L)∧zA (L.Perm l)∧zA (Blks cv bs L n 0)∧zA (w.grownBy wr (some g))) i wr) (fun i _=>n-(intOf i).toNat)
  case atStart=>exact⟨20,by simp,by omega,by omega,l2,HA2,HP2,HB2,HG2⟩
  case round=>
   clear HA2 HP2 HB2 HG2;obtain⟨bs,rfl,hbs,hbs2,M,HA,HP,HBL,HG⟩:=hrel.o;by_cases hbn:bs<n;rotate_left
   ·go_wp2
    go_end0
    refine⟨rfl,⟨M,HA.o,HP.o,?_⟩,HG.o⟩;have h:=HBL.o.srd
    rwa [Nat.min_eq_right (by omega)]at h
   go_wp2
   go_loopw [7,8] (fun i j wr=>Sl2 (fun a b wr=>b=a+2*bs∧a≤n∧∃L,zA (Arr rs wr g L)∧zA (L.Perm l)∧zA (Done cv (2*bs) L a)∧zA (Blks cv bs L n a)∧zA (w.grownBy wr (some g))) i j wr) (fun i j _=>n+2*bs-(intOf j).toNat)
   case atStart=>exact⟨0,2*bs,by simp,by simp,by omega,Nat.zero_le _,M,HA,HP,⟨.nil⟩,HBL,HG⟩
   case round=>
    clear HA HP HBL HG;obtain⟨a2,b2,rfl,rfl,hab,han2,L2,HA,HP,HD,HBL,HG⟩:=hrel.o;have HL:=Z HP.o.length_eq;have HAB:=Z hab;have hab2:a2+2*bs≤b2∧b2≤a2+2*bs:=by omega
    clear hab;by_cases hlt2:b2≤n
    ·have hs1:Srd cv L2 a2 (a2+bs):=by have h:=HBL.o.srd;rwa [Nat.min_eq_left (by omega)]at h
     have hs2:Srd cv L2 (a2+bs) b2:=by have h:=(HBL.o.next (by omega)).srd;rwa [Nat.min_eq_left (by omega),show a2+bs+bs=b2 by omega]at h
     have HS1:=Z hs1;have HS2:=Z hs2;clear hs1 hs2;go_wp2_with (go_at_call 154;(with_reducible refine(symMerge O HCM.o g n c0 a2 (a2+bs) b2 _ _ _ rfl (by omega) rfl hBg L2 _ HA.o (kT HG.o hBg HBX.o) (by rw[HL.o];exact HN.o) (by rw[HL.o,←HN.o];exact hn2) (by omega) (by omega) (by rw[HL.o,←HN.o];exact hlt2) HS1.o HS2.o).mono ?_);rintro e_ w3 ⟨rfl,⟨l3,hA2,hR2,hS2⟩,hG2⟩;have HA2:=Z hA2;have HR2:=Z hR2;have HS3:=Z hS2;have HG2:=Z (jL HG.o hG2);clear hA2 hR2 hS2 hG2);refine⟨⟨b2,b2+2*bs,rfl,by first|(congr 1;done)|(congr 1;omega),rfl,hlt2,l3,HA2,⟨HR2.o.perm.trans HP.o⟩,⟨?_⟩,⟨?_⟩,HG2⟩,?_⟩
     ·have h:=Done.cons (HD.o.keep (l':=l3) (fun t ht=>HR2.o.o t (Or.inl ht))) (by rw[←HAB.o];exact HS3.o)
      rwa [←HAB.o]at h
     ·have h:=((HBL.o.next (by omega)).next (by omega)).keep (l':=l3) (fun t ht=>HR2.o.o t (Or.inr (by omega)))
      rwa [show a2+bs+bs=b2 by omega]at h
     ·have e2:intOf (.int .i64 (b2:Int))=(b2:Int):=rfl;show n+2*bs-((b2:Int)+2*(bs:Int)).toNat<n+2*bs-(b2:Int).toNat;omega
    by_cases hm:a2+bs<n;rotate_left
    ·have hB3:Blks cv (2*bs) L2 n 0:=by
      refine Done.blks (by omega) HD.o han2 ?_;by_cases h:a2<n;rotate_left
      ·exact .nil (by omega)
      refine .cons h ?_ (.nil (by omega));have h:=HBL.o.srd;rw[Nat.min_eq_right (by omega)]at h;rw[Nat.min_eq_right (by omega)];exact h
     have HB3:=Z hB3;have k1:¬((a2:Int)+(bs:Int)<(n:Int)):=by omega
     clear hB3;go_wp2;refine⟨⟨bs*2,by simp,by omega,by omega,L2,HA,HP,⟨?_⟩,HG⟩,?_⟩
     ·rw[Nat.mul_comm bs 2];exact HB3.o
     ·show n-((bs:Int)*2).toNat<n-(bs:Int).toNat;omega
    have hs1:Srd cv L2 a2 (a2+bs):=by have h:=HBL.o.srd;rwa [Nat.min_eq_left (by omega)]at h
    have hs2:Srd cv L2 (a2+bs) n:=by have h:=(HBL.o.next (by omega)).srd;rwa [Nat.min_eq_right (by omega)]at h
    have HS1:=Z hs1;have HS2:=Z hs2;have k1:(a2:Int)+(bs:Int)<(n:Int):=by omega
    clear hs1 hs2;go_wp2_with (go_at_call 154;(with_reducible refine(symMerge O HCM.o g n c0 a2 (a2+bs) n _ _ _ rfl (by omega) rfl hBg L2 _ HA.o (kT HG.o hBg HBX.o) (by rw[HL.o];exact HN.o) (by rw[HL.o,←HN.o];exact hn2) (by omega) (by omega) (by rw[HL.o,←HN.o];exact Nat.le_refl _) HS1.o HS2.o).mono ?_);rintro e_ w3 ⟨rfl,⟨l3,hA2,hR2,hS2⟩,hG2⟩;have HA2:=Z hA2;have HR2:=Z hR2;have HS3:=Z hS2;have HG2:=Z (jL HG.o hG2);clear hA2 hR2 hS2 hG2);refine⟨⟨bs*2,by simp,by omega,by omega,l3,HA2,⟨HR2.o.perm.trans HP.o⟩,⟨?_⟩,HG2⟩,?_⟩
    ·rw[Nat.mul_comm bs 2];refine Done.blks (by omega) (HD.o.keep (l':=l3) (fun t ht=>HR2.o.o t (Or.inl ht))) han2 (.cons (by omega) ?_ (.nil (by omega)));rw[Nat.min_eq_right (by omega)];exact HS3.o
    ·show n-((bs:Int)*2).toNat<n-(bs:Int).toNat;omega
theorem sortStable (g n c0:Nat) (hBg:B≠g) (l:List K) (w:World) (hA:Arr rs w g l) (hB:w.cell? ⟨B,0,none⟩=some (.int .u64 mn)) (hn:n=l.length) (hl:l.length≤1000000) :
  Calls Tryz.prog 119 #[.slice (some ⟨g,0,none⟩) n c0,.func (.func 120) #[] #[.pointer (some ⟨B,0,none⟩)]] w fun e w'=>e=.returned (.tuple #[])∧(∃l',Arr rs w' g l'∧l'.Perm l∧Srd cv l' 0 n)∧w.grownBy w' (some g):=by
 have HS:=Z (stable O hcm g n c0 hBg l w hA hB hn hl);clear hA hB hn hl hcm;go_enter Tryz.func119,Tryz.ntmps119;go_wp2_with (go_at_call 143;(with_reducible refine HS.o.mono ?_);rintro e_ w3 ⟨rfl,hh,hG⟩;have HH:=Z hh;have HG:=Z hG;clear hh hG)
 go_end0
 exact⟨rfl,HH.o,HG.o⟩
end
end Go.Proofs.YtnkhnnojdlgfjaaGreatDoor.Srt
end
section
namespace Go.Proofs.YtnkhnnojdlgfjaaGreatDoor.Srt
open RowKit Ky PA PB PC
theorem kJ:(Tryz.prog.info? 38).map (fun i=>(i.zero,i.size,i.bytes))=some (some (.agg #[(.int .u64 0),(.int .i64 0)]),2,16):=by kernel_rfl
def kp:Kd K:=Kd.pair (Kd.int .u64) (Kd.int .i64)
theorem vZ {w:World}{x:K}{cs:List Value}(h:kp.K w x cs):cs=[.int .u64 x.1,.int .i64 x.2]:=by
 obtain⟨_,_,rfl,rfl,rfl⟩:=h;exact rfl
theorem kp_openM {w:World}{base:Nat}{ok:Nat→Prop}{x:K}{cs:List Value}(h:kp.M w base ok x cs):cs=[.int .u64 x.1,.int .i64 x.2]:=by
 obtain⟨_,_,rfl,rfl,rfl⟩:=h;exact rfl
theorem jD (w:World) (base:Nat) (ok:Nat→Prop) (x:K):kp.M w base ok x [.int .u64 x.1,.int .i64 x.2]:=⟨[.int .u64 x.1],[.int .i64 x.2],rfl,rfl,rfl⟩
theorem C_at {w:World}{A:Option Addr}{n:Nat}{l:List K}(h:kp.C w A n l) (i:Nat) (h1:i<n):∃ad,A=some ad∧w.cell? (ad.add (i*2))=some (.int .u64 (gt l i).1)∧w.cell? ⟨(ad.add (i*2)).block,(ad.add (i*2)).off+1,none⟩=some (.int .i64 (gt l i).2):=by
 obtain⟨ad,c,e,_,hK,hc0⟩:=Kd.C_get h (0,0) (i:Int) (by omega) (by omega);have hc:∀j u,c[j]?=some u→w.cell? (ad.add (((i:Int)).toNat*2+j))=some u:=hc0;obtain rfl:=vZ hK;rw[Int.toNat_natCast]at hc;refine⟨ad,e,hc 0 _ rfl,?_⟩;rw[←kL ad (i*2) 1 (by omega)];exact hc 1 _ rfl
theorem vN:∀{l:List K}{cs:List Value},Reps (fun(x:K) c=>c=[.int .u64 x.1,.int .i64 x.2]) 2 l cs→cs=flat l
 | [],cs,h=>by
  have:=h.1;simp only[List.length_nil,Nat.zero_mul]at this;exact List.eq_nil_of_length_eq_zero this
 | x::t,cs,h=>by
  have h0:=h.2 0 x rfl;rw[Nat.zero_mul,List.drop_zero]at h0;have h1:Reps (fun(x:K) c=>c=[.int .u64 x.1,.int .i64 x.2]) 2 t (cs.drop 2):=by
   refine⟨by rw[List.length_drop,h.1,List.length_cons];omega,fun j p hp=>?_⟩;rw[List.drop_drop,show 2+j*2=(j+1)*2 by omega];exact h.2 (j+1) p hp
  rw[flat,←vN h1,←List.take_append_drop 2 cs,h0]
  rfl
theorem kK:∀l:List K,Reps (fun(x:K) c=>c=[.int .u64 x.1,.int .i64 x.2]) 2 l (flat l)
 | []=>Reps.none _ _
 | x::t=>by
  refine⟨by rw[zY],fun j p hp=>?_⟩
  match j with
  | 0=>injection hp with hp;subst hp;rfl
  | j+1=>
   rw[show(j+1)*2=j*2+1+1 by omega,flat,List.drop_succ_cons,List.drop_succ_cons];exact(kK t).2 j p hp
theorem R_arr {w:World}{base:Nat}{ok:Nat→Prop}{v:Value}{l:List K}(h:kp.R 38 w base ok v l) (h0:0<l.length):∃g cap rs,v=.slice (some ⟨g,0,none⟩) l.length cap∧base≤g∧ok g∧l.length≤cap∧cap≤maxLen∧l.length*2+rs.length=cap*2∧Arr rs w g l:=by
 obtain⟨hok,inner,⟨hl,ho⟩,hr⟩:=h;have hr':Reps (fun(x:K) c=>c=[.int .u64 x.1,.int .i64 x.2]) 2 l inner:=⟨hr.1,fun j p hp=>kp_openM (hr.2 j p hp)⟩;have hi:=vN hr';rcases ho with⟨_,hn⟩|⟨g,cap,cur,rfl,hg,hh,hn,hm,hs,ht⟩
 ·omega
 ·have hs':cur.size=cap*2:=hs;have ht':cur.toList.take (l.length*2)=inner:=ht;refine⟨g,cap,cur.toList.drop (l.length*2),rfl,hg,hok g rfl,hn,hm,?_,⟨cur,hh,?_⟩⟩
  ·have h2:l.length*2≤cap*2:=by omega
   rw[List.length_drop,show cur.toList.length=cap*2 from hs'];omega
  ·rw[←hi,←ht',List.take_append_drop]
theorem arr_R {rs:List Value}{w:World}{g base cap:Nat}{ok:Nat→Prop}{l:List K}(h:Arr rs w g l) (hb:base≤g) (hok:ok g) (hn:l.length≤cap) (hm:cap≤maxLen) (hs:l.length*2+rs.length=cap*2):kp.R 38 w base ok (.slice (some ⟨g,0,none⟩) l.length cap) l:=by
 obtain⟨cur,h1,h2⟩:=h.o;have hsz:cur.size=cap*2:=by rw[←Array.length_toList,h2,List.length_append,zY,hs]
 refine⟨fun k hk=>by injection hk with hk;subst hk;exact hok,flat l,⟨zY l,.inr ⟨g,cap,cur,rfl,hb,h1,hn,hm,hsz,?_⟩⟩,?_⟩
 ·show cur.toList.take (l.length*2)=flat l;rw[h2,←zY,List.take_left]
 ·exact⟨(kK l).1,fun j p hp=>by rw[show((flat l).drop (j*kp.sz)).take kp.sz=[.int .u64 p.1,.int .i64 p.2]from(kK l).2 j p hp];exact jD _ _ _ _⟩
theorem zaW {w:World}{l:List K}(hr:kp.C w none l.length l):l=[]:=by
 cases l with
 | nil=>rfl
 | cons x t=>
  exfalso;obtain⟨ad,c,h,_⟩:=xO.get_ hr (0,0) 0 (by omega) (by simp);cases h
theorem clone_any (A0:Option Addr) (c0:Nat) (l0:List K) (w:World) (hr:kp.C w A0 l0.length l0) (hl:l0.length≤1000000) :
  Calls Tryz.prog 118 #[.slice A0 l0.length c0] w fun e w'=>∃v0_:Value,e=.returned v0_∧kp.R 38 w' w.heap.size (fun _=>True) v0_ l0∧Below w.heap.size w w':=by
 have q22:∀(w:World) (a:Option Addr) (n c n' c':Nat),(binOp .eql 32 (.slice a n c) (.slice none n' c')).run Tryz.prog w=.ok (.bool a.isNone) w:=fun w a n c n' c'=>Lib.run_eql_slice_nil w _ _ a n c n' c' Tryz.underlying32
 cases A0 with
 | none=>
  obtain rfl:=zaW hr;clear hr;go_enter Tryz.func118,Tryz.ntmps118;go_wp2;go_ret;exact⟨_,rfl,Kd.jT _ _ _ _ _,Below.refl _ _⟩
 | some a=>
  have H:=Z hr;clear hr;go_enter Tryz.func118,Tryz.ntmps118;go_wp2_with (at_builtin;refine Kd.qL kp (Rr:=kp.K (w.alloc (.cells #[] 38))) (w0:=w) w.heap.size rfl (.tmp 5) (.tmp 6) 32 38 (.agg #[(.int .u64 0),(.int .i64 0)]) 16 rfl Tryz.underlying32 kJ rfl (show 0<kp.sz by show 0<2;omega) (by omega) _ [] l0 (some a) l0.length c0 (fun _=>True) (fun _=>False) rfl rfl ?aO ?aR ?aK (fun _ h=>h.elim) (fun _ _=>trivial) ?aB ?aS ?aL ?_)
  case aO=>exact⟨fun _ _=>trivial,[],World.ownsRow_made w #[] 0 (Nat.le_refl _) (Nat.zero_le _) (by simp),Reps.none _ _⟩
  case aR=>exact(Kd.zU H.o ((Below.refl _ w).alloc (Nat.le_refl _) _))
  case aK=>intro x cs h;rw[vZ h];exact jD _ _ _ _
  case aB=>exact(Below.refl _ w).alloc (Nat.le_refl _) _
  case aS=>simp
  case aL=>simp;omega
  intro v1 w1 hR hB hg _;have HR:=Z hR;clear hR hg;go_wp2;go_ret;exact⟨v1,rfl,by simpa using HR.o,hB⟩
structure Cmp26 (mn:Int) (cv:K→K→Int):Prop where mk::
 o:∀(W:World) (x y:K),Calls Tryz.prog 106 #[.int .u64 mn,.agg #[.int .u64 x.1,.int .i64 x.2],.agg #[.int .u64 y.1,.int .i64 y.2]] W fun e w'=>e=.returned (.int .i64 (cv x y))∧Below W.heap.size W w'
theorem cmp_30 {mn:Int}{cv:K→K→Int}(h:Cmp26 mn cv) (B:Nat):CmpOk cv B mn:=fun W x y hB=>by
 have H:=Z h;have HB0:=Z (zB (zB (Below.refl W.heap.size W) (.cells #[.int .u64 x.1,.int .i64 x.2] 38)) (.cells #[.int .u64 y.1,.int .i64 y.2] 38));have hlt:=World.block_lt_of_cell? W _ hB;clear h;go_enter Tryz.func120,Tryz.ntmps120;go_wp2_with (go_at_call 106;(with_reducible refine(H.o.o _ x y).mono ?_);rintro e w3 ⟨rfl,hb⟩;have HB1:=Z (zD HB0.o hb);clear hb);go_ret;exact⟨rfl,HB1.o⟩
end Go.Proofs.YtnkhnnojdlgfjaaGreatDoor.Srt
end
section
namespace Go.Proofs.YtnkhnnojdlgfjaaGreatDoor.Srt
open RowKit Ky PA PB PC
variable {rs : List Value}
theorem insertion0 (A:Option Addr) (c:Nat) (F:Value) (w:World):Calls Tryz.prog 153 #[.slice A 0 c,.int .i64 0,.int .i64 0,F] w fun e w'=>e=.returned (.tuple #[])∧w=w':=by
 go_enter Tryz.func153,Tryz.ntmps153;go_wp2
 go_loopw [8] (fun i wr=>i=.int .i64 1∧w=wr) (fun _ _=>0)
 case atStart=>exact⟨by simp,rfl⟩
 case round=>
  obtain⟨rfl,rfl⟩:=hrel;go_wp2
  go_end0
  exact⟨rfl,rfl⟩
theorem stable0 (A:Option Addr) (c:Nat) (F:Value) (w:World):Calls Tryz.prog 143 #[.slice A 0 c,.int .i64 0,F] w fun e w'=>e=.returned (.tuple #[])∧w=w':=by
 go_enter Tryz.func143,Tryz.ntmps143;go_wp2
 go_loopw [7,8] (fun i j wr=>i=.int .i64 0∧j=.int .i64 20∧w=wr) (fun _ _ _=>0)
 case atStart=>exact⟨by simp,by simp,rfl⟩
 case round=>
  obtain⟨rfl,rfl,rfl⟩:=hrel;go_wp2_with (go_at_call 153;(with_reducible refine(insertion0 A c F _).mono ?_);rintro e w' ⟨rfl,rfl⟩)
  go_loopw [6] (fun i wr=>i=.int .i64 20∧w=wr) (fun _ _=>0)
  case atStart=>exact⟨by simp,rfl⟩
  case round=>
   obtain⟨rfl,rfl⟩:=hrel;go_wp2
   go_end0
   exact⟨rfl,rfl⟩
theorem sortStable0 (A:Option Addr) (c:Nat) (F:Value) (w:World):Calls Tryz.prog 119 #[.slice A 0 c,F] w fun e w'=>e=.returned (.tuple #[])∧w=w':=by
 go_enter Tryz.func119,Tryz.ntmps119;go_wp2_with (go_at_call 143;(with_reducible refine(stable0 A c F _).mono ?_);rintro e w' ⟨rfl,rfl⟩)
 go_end0
 exact⟨rfl,rfl⟩
section
variable {mn : Int} {cv : K → K → Int} (O : Ord cv) (hc : Cmp26 mn cv)
include O hc
theorem keySort (A0:Option Addr) (c0:Nat) (l:List K) (w:World) (hr:kp.C w A0 l.length l) (hl:l.length≤1000000) :
  Calls Tryz.prog 73 #[.int .u64 mn,.slice A0 l.length c0] w fun e w'=>∃(v0_:Value) (l':List K),e=.returned v0_∧kp.R 38 w' w.heap.size (fun _=>True) v0_ l'∧l'.Perm l∧Srd cv l' 0 l.length∧Below w.heap.size w w':=by
 have HR:=Z (Kd.zU hr ((Below.refl _ w).alloc (Nat.le_refl _) (.cells #[.int .u64 mn] 22)));have HC:=Z (cmp_30 hc w.heap.size);have HB0:=Z (zB (Below.refl w.heap.size w) (.cells #[.int .u64 mn] 22));have HX:=Z (zQ w (.cells #[.int .u64 mn] 22));clear hr hc;go_enter Tryz.func73,Tryz.ntmps73;go_wp2_with (go_at_call 118;(with_reducible refine(clone_any A0 c0 l _ HR.o hl).mono ?_);rintro e w1 ⟨v0,rfl,hR,hb⟩;have HR1:=Z hR;have HB1:=Z (zD HB0.o hb);have HX1:=Z (zH HX.o hb);clear hR hb);rcases Nat.eq_zero_or_pos l.length with h0|h0
 ·obtain rfl:=List.eq_nil_of_length_eq_zero h0;obtain⟨A,c,rfl⟩:=Kd.R_slice HR1.o;refine(sortStable0 A c _ _).mono ?_;rintro e w3 ⟨rfl,rfl⟩;go_wp2;go_ret;exact⟨_,[],rfl,Kd.qW HR1.o (by simp),List.Perm.refl _,fun i j h1 h2 h3=>by simp at h3,HB1.o⟩
 ·obtain⟨g,cap,rs,rfl,hg,_,hn,hm,hs,hA⟩:=R_arr HR1.o h0;have hg':w.heap.size+1≤g:=by simpa using hg
  have HA:=Z hA;have HX2:=Z ((zC HX1.o 0).trans rfl);have hne:w.heap.size≠g:=by omega
  clear hA hg HR1 HR HX HX1;refine(sortStable O HC.o g l.length cap hne l _ HA.o HX2.o rfl hl).mono ?_;rintro e w3 ⟨rfl,⟨l',hA3,hP3,hS3⟩,hG3⟩;have HA3:=Z hA3;have HP3:=Z hP3;have HS3:=Z hS3;have HG3:=Z hG3;clear hA3 hP3 hS3 hG3;go_wp2;go_ret;have e1:=HP3.o.length_eq;refine⟨_,l',rfl,?_,HP3.o,HS3.o,Below.grown HB1.o HG3.o HB1.o.size (fun k hk=>by injection hk with hk;omega)⟩;have h:=arr_R (base:=w.heap.size) (cap:=cap) (ok:=fun _=>True) HA3.o (by omega) trivial (by omega) hm (by rw[e1];exact hs)
  rwa [e1]at h
end
end Go.Proofs.YtnkhnnojdlgfjaaGreatDoor.Srt
end
