/- Parts of the proof, joined: Tm4. -/
import Derived.Test.YtnkhnnojdlgfjaaGreatDoorUI6
set_option linter.unusedVariables false
set_option linter.unusedSimpArgs false
set_option maxHeartbeats 32000000
set_option maxRecDepth 100000
namespace Go.Proofs.YtnkhnnojdlgfjaaGreatDoor.Tm
open RowKit Tr PA PB PC
theorem zS (t:St) (is:Bool) (x y:Int) (s:Bool) (hx:x<t.ns.length):kidA (zG t is x) y s=kidA t y s:=by
 unfold kidA;rw[zaS is (fun h=>by omega)];by_cases e:(y.toNat:Int)=x
 ·rw[if_pos e]
 rw[if_neg e]
structure FRel (A:Option Addr) (c g b:Nat) (w:World) (n:Nat) (t':St) (vp vs:Value) (wr:World) (k:Nat):Prop where mk::
 o:∃(T:St) (p:Int) (s:Bool),vp=.int .i64 p∧vs=.int .i64 (sd s)∧Wk A c wr g b T∧Ok T∧p<T.ns.length∧T.ns.length=n∧qC k T p s=some t'∧Gs g b w wr
structure FRl (A:Option Addr) (c g b:Nat) (w:World) (n:Nat) (t':St) (vp vs:Value) (wr:World):Prop where mk::
 o:∃k,FRel A c g b w n t' vp vs wr k
variable {A : Option Addr} {c : Nat} {w w1 : World} {g b : Nat} {t : St}
theorem fill_ (h:Wk A c w g b t) (ho:Ok t) (h0:0<t.ns.length) (p:Int) (s:Bool) (hp:p<t.ns.length) (k0:Nat) (t':St) (hm:qC k0 t p s=some t') :
  Calls Tryz.prog 83 #[.pointer (some ⟨g,0,none⟩),.int .i64 p,.int .i64 (sd s)] w fun e w'=>e=.returned (.tuple #[])∧Wk A c w' g b t'∧Gs g b w w':=by
 have H:=Z h;have HO:=Z ho;have HM:=Z hm;have HX:=Z hp;have H0:=Z h0;clear h ho hm hp h0;go_enter Tryz.func83,Tryz.ntmps83;go_wp2
 go_loopw [1,2] (fun vp vs wr=>FRl A c g b w t.ns.length t' vp vs wr) (fun vp vs wr=>least (FRel A c g b w t.ns.length t' vp vs wr))
 case atStart=>exact⟨k0,t,p,s,rfl,rfl,H.o,HO.o,HX.o,rfl,HM.o,Gs.refl _ _ _⟩
 case round=>
  clear H HO HM HX;have HR:=yU hrel.o;obtain⟨hR1,hR2⟩:=HR;have HL:=Z hR2;generalize hlk:least _=lk at hR1 HL⊢;obtain⟨T,p,s,rfl,hvs,hW,hO,hp,hn,hmd,hG⟩:=hR1.o;obtain⟨z,hz⟩:∃z,z=sd s:=⟨_,rfl⟩;rw[←hz]at hvs;subst hvs;obtain⟨m,rfl⟩:∃m,lk=m+1:=by
   cases lk with
   | zero=>simp[qC]at hmd
   | succ m=>exact⟨m,rfl⟩
  clear hR2 hrel hR1 HL;have HZ:=Z hz.symm;clear hz;rw[qC]at hmd;have W0:=Z hW;have O0:=Z hO;have G0:=Z hG;have HP:=Z hp;have HN:=Z hn;clear hW hO hG hp hn;by_cases hp0:0≤p;rotate_left
  ·rw[if_neg hp0]at hmd;have HMD:=Z (Option.some.inj hmd);have hc1:=W0.o.c1;have hd:decide (0≤p)=false:=decide_eq_false hp0;clear hmd;go_wp2
   go_quiet (fail)
   have W1:=Z (W0.o.drewN nq);have G1:=Z (G0.o.drewN nq);clear W0 G0;generalize wr.drewN nq=wd at W1 G1⊢;have hc2:=W1.o.c1;go_wp2_with (go_at_call 82;refine(xA W1.o false T.rt (by rw[HN.o];exact H0.o) O0.o.rt).mono ?_;rintro e wq ⟨rfl,hWq,hGq⟩;have W2:=Z hWq;have G2:=Z (G1.o.trans hGq);clear hWq hGq)
   go_end0
   exact⟨rfl,by rw[←HMD.o];exact W2.o,G2.o⟩
  rw[if_pos hp0]at hmd;have P0:=Z hp0;cases s with
  | false=>
   obtain rfl:z=0:=HZ.o.symm;obtain⟨kd,hkd⟩:∃q,q=kidA T p false:=⟨_,rfl⟩;have HK:=Z hkd.symm;have HKN:=Z (show kd<(T.ns.length:Int)by rw[hkd];exact O0.o.kid _ _);rw[←hkd]at hmd;clear hkd;cases hrk:redA T kd with
   | true=>
    have HRK:=Z hrk;rw[hrk,if_pos rfl]at hmd;have HMD:=Z (Option.some.inj hmd);clear hrk hmd;go_wp2
    (go_quiet (first
     | (go_at_call 88;exact Calls.quiet_of_same (qF (by first|exact W0.o|exact W0.o.drewN _) p P0.o HP.o false 0 rfl kd HK.o))
     | (go_at_call 79;exact Calls.quiet_of_same (yD (by first|exact W0.o|exact W0.o.drewN _) kd HKN.o _ HRK.o))))
    have W1:=Z (W0.o.drewN nq);have G1:=Z (G0.o.drewN nq);clear W0 G0;generalize wr.drewN nq=wd at W1 G1⊢;have hc1:=W1.o.c1;go_wp2_with (first
     | (go_at_call 88;refine(qF W1.o p P0.o HP.o false 0 rfl kd HK.o).mono ?_;rintro e wq ⟨rfl,rfl⟩)
     | (go_at_call 82;refine(xA W1.o false kd (by have:=P0.o;have:=HP.o;omega) HKN.o).mono ?_;rintro e wq ⟨rfl,hWq,hGq⟩;have W2:=Z hWq;have G2:=Z (G1.o.trans hGq);clear hWq hGq))
    go_end0
    exact⟨rfl,by rw[←HMD.o];exact W2.o,G2.o⟩
   | false=>
    have HRK:=Z hrk;rw[hrk,if_neg (by simp)]at hmd;clear hrk;obtain⟨bb,hbb⟩:∃q,q=kidA T p true:=⟨_,rfl⟩;have HB:=Z hbb.symm;have HBN:=Z (show bb<(T.ns.length:Int)by rw[hbb];exact O0.o.kid _ _);simp only[Bool.not_false]at hmd;rw[←hbb]at hmd;clear hbb;cases hrb:redA T bb with
    | true=>
     have HRB:=Z hrb;rw[hrb,if_pos rfl]at hmd;have BB0:=Z (wG hrb);clear hrb;have L2:=Z (zF T false bb);have O3:=Z ((O0.o.zT false bb HBN.o).zT true p (by rw[zF];exact HP.o));have L3:=Z (show(zG (zG T false bb) true p).ns.length=T.ns.length by rw[zF,zF]);have K3:=Z (show kidA (zG (zG T false bb) true p) p true=bb by rw[zS _ _ _ _ _ (by rw[zF];exact HP.o),zS _ _ _ _ _ HBN.o];exact HB.o);go_wp2
     (go_quiet (first
      | (go_at_call 88;exact Calls.quiet_of_same (qF (by first|exact W0.o|exact W0.o.drewN _) p P0.o HP.o false 0 rfl kd HK.o))
      | (go_at_call 79;exact Calls.quiet_of_same (yD (by first|exact W0.o|exact W0.o.drewN _) kd HKN.o _ HRK.o))))
     have W1:=Z (W0.o.drewN nq);have G1:=Z (G0.o.drewN nq);clear W0 G0;generalize wr.drewN nq=wd at W1 G1⊢;go_upto_region 4 with(first
      | (go_at_call 88;refine(qF W1.o p P0.o HP.o true 1 rfl bb HB.o).mono ?_;rintro e wq ⟨rfl,rfl⟩)
      | (go_at_call 79;refine(yD W1.o bb HBN.o _ HRB.o).mono ?_;rintro e wq ⟨rfl,rfl⟩)
      | (go_at_call 82;refine(xA W1.o false bb (by have:=P0.o;have:=HP.o;omega) HBN.o).mono ?_;rintro e wq ⟨rfl,hWq,hGq⟩;have W2:=Z hWq;have G2:=Z (G1.o.trans hGq);clear hWq hGq))
     go_upto_region 5 with(go_at_call 82;refine(xA W2.o true p (by rw[L2.o];have:=P0.o;have:=HP.o;omega) (by rw[L2.o];exact HP.o)).mono ?_;rintro e wq ⟨rfl,hWq,hGq⟩;have W3:=Z hWq;have G3:=Z (G2.o.trans hGq);clear hWq hGq);generalize zG (zG T false bb) true p=T3 at W3 O3 L3 K3 hmd;have LB:=Z (show(yM T3 p false).ns.length=T.ns.length by rw[xD,L3.o]);have OB:=Z (O3.o.turn p false (by rw[L3.o];exact HP.o));go_upto_region 6 with(go_at_call 122;refine(qB W3.o O3.o p P0.o (by rw[L3.o];exact HP.o) false (by show 0≤kidA T3 p true;rw[K3.o];exact BB0.o) 0 rfl).mono ?_;rintro e wq ⟨rfl,hWq,hGq⟩;have WB:=Z hWq;have GB:=Z (G3.o.trans hGq);clear hWq hGq);generalize yM T3 p false=TB at WB OB LB hmd;obtain⟨bv,hbv⟩:∃q,q=kidA TB p true:=⟨_,rfl⟩;have HBV:=Z hbv.symm;have BN:=Z (show bv<(TB.ns.length:Int)by rw[hbv];exact OB.o.kid _ _);rw[←hbv]at hmd;clear hbv;go_upto_region 7 with(go_at_call 88;refine(qF WB.o p P0.o (by rw[LB.o];exact HP.o) true 1 rfl bv HBV.o).mono ?_;rintro e wq ⟨rfl,rfl⟩);rw[xR]at hmd;by_cases hb0:bv<0
     ·rw[if_pos hb0]at hmd;cases hmd
     rw[if_neg hb0]at hmd;have B0:=Z (show 0≤bv by omega);clear hb0;obtain⟨nr,hnr⟩:∃q,q=kidA TB bv false:=⟨_,rfl⟩;obtain⟨fr,hfr⟩:∃q,q=kidA TB bv true:=⟨_,rfl⟩;simp only[Bool.not_false]at hmd;rw[←hnr,←hfr]at hmd;have NE:=Z hnr.symm;have FE:=Z hfr.symm;have NN:=Z (show nr<(TB.ns.length:Int)by rw[hnr];exact OB.o.kid _ _);have FN:=Z (show fr<(TB.ns.length:Int)by rw[hfr];exact OB.o.kid _ _);clear hnr hfr;have KIDS:=fun(w2:World) (hw:Wk A c w2 g b TB)=>And.intro (qF hw bv B0.o BN.o false 0 rfl nr NE.o) (qF hw bv B0.o BN.o true 1 rfl fr FE.o)
     have KI:=Z KIDS;clear KIDS;cases h1:redA TB nr with
     | false=>
      cases h2:redA TB fr with
      | false=>
       have HNR:=Z h1;have HFR:=Z h2;rw[h1,h2,if_pos ⟨rfl,rfl⟩]at hmd;have HMD:=Z hmd;clear h1 h2 hmd;go_upto_region 10 with(first
        | (go_at_call 88;first|(with_reducible refine((KI.o _ WB.o).1).mono ?_;rintro e wq ⟨rfl,rfl⟩)|(with_reducible refine((KI.o _ WB.o).2).mono ?_;rintro e wq ⟨rfl,rfl⟩))
        | (go_at_call_of 79 (Value.int IntKind.i64 nr);refine(yD WB.o nr NN.o _ HNR.o).mono ?_;rintro e wq ⟨rfl,rfl⟩)
        | (go_at_call_of 79 (Value.int IntKind.i64 fr);refine(yD WB.o fr FN.o _ HFR.o).mono ?_;rintro e wq ⟨rfl,rfl⟩)
        | (go_at_call 82;refine(xA WB.o true bv (by have:=B0.o;have:=BN.o;omega) BN.o).mono ?_;rintro e wq ⟨rfl,hWq,hGq⟩;have W9:=Z hWq;have G9:=Z (GB.o.trans hGq);clear hWq hGq))
       have O9:=Z (OB.o.zT true bv BN.o);have L9:=Z (zF TB true bv);generalize zG TB true bv=T9 at W9 O9 L9 HMD;go_wp2_with (first
        | (go_at_call 80;refine(up_v W9.o p P0.o (by rw[L9.o,LB.o];exact HP.o) _ rfl).mono ?_;rintro e wq ⟨rfl,rfl⟩)
        | (go_at_call 76;refine(on_v W9.o O9.o p P0.o (by rw[L9.o,LB.o];exact HP.o) _ rfl).mono ?_;rintro e wq ⟨rfl,rfl⟩))
       have hq:FRel A c g b w t.ns.length t' (Value.int IntKind.i64 (upA T9 p)) (Value.int IntKind.i64 (sd (onA T9 p))) _ m:=⟨T9,upA T9 p,onA T9 p,rfl,rfl,W9.o,O9.o,O9.o.up p,by rw[L9.o,LB.o];exact HN.o,HMD.o,G9.o⟩;refine⟨⟨m,hq⟩,?_⟩;have h3:=(yU ⟨m,hq⟩).2 m hq;exact Nat.lt_of_le_of_lt h3 (by rw[hlk];omega)
      | true=>
       have HNR:=Z h1;have HFR:=Z h2;rw[h1,h2,if_neg (by simp),if_neg (by simp)]at hmd;clear h1 h2;go_upto_region 16 with(first
        | (go_at_call 88;first|(with_reducible refine((KI.o _ WB.o).1).mono ?_;rintro e wq ⟨rfl,rfl⟩)|(with_reducible refine((KI.o _ WB.o).2).mono ?_;rintro e wq ⟨rfl,rfl⟩))
        | (go_at_call_of 79 (Value.int IntKind.i64 nr);refine(yD WB.o nr NN.o _ HNR.o).mono ?_;rintro e wq ⟨rfl,rfl⟩)
        | (go_at_call_of 79 (Value.int IntKind.i64 fr);refine(yD WB.o fr FN.o _ HFR.o).mono ?_;rintro e wq ⟨rfl,rfl⟩))
       rw[xN,show(!false)=true from rfl]at hmd;by_cases hge:kidA TB p true=bv∧kidA TB bv true=fr;rotate_left
       ·rw[if_neg hge]at hmd;cases hmd
       rw[if_pos hge]at hmd;have HE1:=Z hge.1;clear hge;have PL1:=Z (zF TB (redA TB p) bv);have PO1:=Z (OB.o.zT (redA TB p) bv BN.o);have PK1:=Z (zS TB (redA TB p) bv p true BN.o);obtain⟨rp,hrp⟩:∃rp,rp=redA TB p:=⟨_,rfl⟩;rw[←hrp]at hmd PL1 PO1 PK1;have HRP:=Z hrp.symm;clear hrp;go_upto_region 17 with(fail)
       go_region_with (first
        | (go_at_call 79;refine(yD (by first|exact WB.o.drew|exact(WB.o.alloc _).drew) p (by rw[LB.o];exact HP.o) rp HRP.o).mono ?_;rintro e wr ⟨rfl,rfl⟩)
        | (go_at_call 82;refine(qD WB.o rp bv (by have:=HP.o;have:=P0.o;have:=LB.o;omega) BN.o).mono ?_;rintro e wq ⟨rfl,hWq,hGq⟩;have WF1:=Z hWq;have GF1:=Z (GB.o.trans hGq);clear hWq hGq))
       all_goals
        generalize zG TB rp bv=TF1 at WF1 PL1 PO1 PK1 hmd;have PO2:=Z ((PO1.o.zT false p (by rw[PL1.o,LB.o];exact HP.o)).zT false fr (by rw[zF,PL1.o];exact FN.o));have PL2:=Z (show(zG (zG TF1 false p) false fr).ns.length=TF1.ns.length by rw[zF,zF]);have PK2:=Z (show kidA (zG (zG TF1 false p) false fr) p true=kidA TF1 p true by rw[zS _ _ _ _ _ (by rw[zF,PL1.o];exact FN.o),zS _ _ _ _ _ (by rw[PL1.o,LB.o];exact HP.o)]);have HMD:=Z (Option.some.inj hmd);clear hmd;go_upto_region 18 with(go_at_call 82;refine(jB WF1.o false p fr (by have:=HP.o;have:=P0.o;have:=LB.o;have:=PL1.o;omega) (by rw[PL1.o,LB.o];exact HP.o) (by rw[PL1.o];exact FN.o)).mono ?_;rintro e wq ⟨rfl,hWq,hGq⟩;have WF2:=Z hWq;have GF2:=Z (GF1.o.trans hGq);clear hWq hGq);generalize zG (zG TF1 false p) false fr=TF2 at WF2 PL2 PO2 PK2 HMD;have HK8:=Z (show 0≤kidA TF2 p (!false)by show 0≤kidA TF2 p true;rw[PK2.o,PK1.o,HE1.o];exact B0.o);have HK9:=Z (show p<(TF2.ns.length:Int)by rw[PL2.o,PL1.o,LB.o];exact HP.o);go_wp2_with (go_at_call 122;refine(qB WF2.o PO2.o p P0.o HK9.o false HK8.o 0 rfl).mono ?_;rintro e wq ⟨rfl,hWq,hGq⟩;have WF3:=Z hWq;have GF3:=Z (GF2.o.trans hGq);clear hWq hGq);refine bodyPost_ret (results_none rfl _ _ _) rfl ?_;exact⟨rfl,by rw[←HMD.o];exact WF3.o,GF3.o⟩
     | true=>
      cases h2:redA TB fr with
      | false=>
       have HNR:=Z h1;have HFR:=Z h2;rw[h1,h2,if_neg (by simp),if_pos rfl]at hmd;have N0:=Z (wG h1);clear h1 h2;have LC:=Z (show(zG (zG TB false nr) true bv).ns.length=TB.ns.length by rw[zF,zF]);have OC:=Z ((OB.o.zT false nr NN.o).zT true bv (by rw[zF];exact BN.o));have KC:=Z (show kidA (zG (zG TB false nr) true bv) bv false=nr by rw[zS _ _ _ _ _ (by rw[zF];exact BN.o),zS _ _ _ _ _ NN.o];exact NE.o);have L1:=Z (zF TB false nr);go_upto_region 13 with(first
        | (go_at_call 88;first|(with_reducible refine((KI.o _ WB.o).1).mono ?_;rintro e wq ⟨rfl,rfl⟩)|(with_reducible refine((KI.o _ WB.o).2).mono ?_;rintro e wq ⟨rfl,rfl⟩))
        | (go_at_call_of 79 (Value.int IntKind.i64 nr);refine(yD WB.o nr NN.o _ HNR.o).mono ?_;rintro e wq ⟨rfl,rfl⟩)
        | (go_at_call_of 79 (Value.int IntKind.i64 fr);refine(yD WB.o fr FN.o _ HFR.o).mono ?_;rintro e wq ⟨rfl,rfl⟩)
        | (go_at_call 82;refine(xA WB.o false nr (by have:=B0.o;have:=BN.o;omega) NN.o).mono ?_;rintro e wq ⟨rfl,hWq,hGq⟩;have W7:=Z hWq;have G7:=Z (GB.o.trans hGq);clear hWq hGq))
       go_upto_region 14 with(go_at_call 82;refine(xA W7.o true bv (by rw[L1.o];have:=B0.o;have:=BN.o;omega) (by rw[L1.o];exact BN.o)).mono ?_;rintro e wq ⟨rfl,hWq,hGq⟩;have W8:=Z hWq;have G8:=Z (G7.o.trans hGq);clear hWq hGq);generalize zG (zG TB false nr) true bv=TC at W8 LC OC KC hmd;have LD:=Z (show(yM TC bv true).ns.length=t.ns.length by rw[xD,LC.o,LB.o,HN.o]);have OD:=Z (OC.o.turn bv true (by rw[LC.o];exact BN.o));go_upto_region 16 with(go_at_call 122;refine(qB W8.o OC.o bv B0.o (by rw[LC.o];exact BN.o) true (by show 0≤kidA TC bv false;rw[KC.o];exact N0.o) 1 rfl).mono ?_;rintro e wq ⟨rfl,hWq,hGq⟩;have WD:=Z hWq;have GD:=Z (G8.o.trans hGq);clear hWq hGq);generalize yM TC bv true=TD at WD LD OD hmd;have LDT:=Z (show TD.ns.length=T.ns.length by rw[LD.o,HN.o]);have BD:=Z (show bv<(TD.ns.length:Int)by rw[LDT.o,←LB.o];exact BN.o);have ND:=Z (show nr<(TD.ns.length:Int)by rw[LDT.o,←LB.o];exact NN.o);rw[xN,show(!false)=true from rfl]at hmd;by_cases hge:kidA TD p true=nr∧kidA TD nr true=bv;rotate_left
       ·rw[if_neg hge]at hmd;cases hmd
       rw[if_pos hge]at hmd;have HE1:=Z hge.1;clear hge;have PL1:=Z (zF TD (redA TD p) nr);have PO1:=Z (OD.o.zT (redA TD p) nr ND.o);have PK1:=Z (zS TD (redA TD p) nr p true ND.o);obtain⟨rp,hrp⟩:∃rp,rp=redA TD p:=⟨_,rfl⟩;rw[←hrp]at hmd PL1 PO1 PK1;have HRP:=Z hrp.symm;clear hrp;go_upto_region 17 with(fail)
       go_region_with (first
        | (go_at_call 79;refine(yD (by first|exact WD.o.drew|exact(WD.o.alloc _).drew) p (by rw[LDT.o];exact HP.o) rp HRP.o).mono ?_;rintro e wr ⟨rfl,rfl⟩)
        | (go_at_call 82;refine(qD WD.o rp nr (by have:=HP.o;have:=P0.o;have:=LDT.o;omega) ND.o).mono ?_;rintro e wq ⟨rfl,hWq,hGq⟩;have WF1:=Z hWq;have GF1:=Z (GD.o.trans hGq);clear hWq hGq))
       all_goals
        generalize zG TD rp nr=TF1 at WF1 PL1 PO1 PK1 hmd;have PO2:=Z ((PO1.o.zT false p (by rw[PL1.o,LDT.o];exact HP.o)).zT false bv (by rw[zF,PL1.o];exact BD.o));have PL2:=Z (show(zG (zG TF1 false p) false bv).ns.length=TF1.ns.length by rw[zF,zF]);have PK2:=Z (show kidA (zG (zG TF1 false p) false bv) p true=kidA TF1 p true by rw[zS _ _ _ _ _ (by rw[zF,PL1.o];exact BD.o),zS _ _ _ _ _ (by rw[PL1.o,LDT.o];exact HP.o)]);have HMD:=Z (Option.some.inj hmd);clear hmd;go_upto_region 18 with(go_at_call 82;refine(jB WF1.o false p bv (by have:=HP.o;have:=P0.o;have:=LDT.o;have:=PL1.o;omega) (by rw[PL1.o,LDT.o];exact HP.o) (by rw[PL1.o];exact BD.o)).mono ?_;rintro e wq ⟨rfl,hWq,hGq⟩;have WF2:=Z hWq;have GF2:=Z (GF1.o.trans hGq);clear hWq hGq);generalize zG (zG TF1 false p) false bv=TF2 at WF2 PL2 PO2 PK2 HMD;have HK8:=Z (show 0≤kidA TF2 p (!false)by show 0≤kidA TF2 p true;rw[PK2.o,PK1.o,HE1.o];exact N0.o);have HK9:=Z (show p<(TF2.ns.length:Int)by rw[PL2.o,PL1.o,LDT.o];exact HP.o);go_wp2_with (go_at_call 122;refine(qB WF2.o PO2.o p P0.o HK9.o false HK8.o 0 rfl).mono ?_;rintro e wq ⟨rfl,hWq,hGq⟩;have WF3:=Z hWq;have GF3:=Z (GF2.o.trans hGq);clear hWq hGq);refine bodyPost_ret (results_none rfl _ _ _) rfl ?_;exact⟨rfl,by rw[←HMD.o];exact WF3.o,GF3.o⟩
      | true=>
       have HNR:=Z h1;have HFR:=Z h2;rw[h1,h2,if_neg (by simp),if_neg (by simp)]at hmd;clear h1 h2;go_upto_region 16 with(first
        | (go_at_call 88;first|(with_reducible refine((KI.o _ WB.o).1).mono ?_;rintro e wq ⟨rfl,rfl⟩)|(with_reducible refine((KI.o _ WB.o).2).mono ?_;rintro e wq ⟨rfl,rfl⟩))
        | (go_at_call_of 79 (Value.int IntKind.i64 nr);refine(yD WB.o nr NN.o _ HNR.o).mono ?_;rintro e wq ⟨rfl,rfl⟩)
        | (go_at_call_of 79 (Value.int IntKind.i64 fr);refine(yD WB.o fr FN.o _ HFR.o).mono ?_;rintro e wq ⟨rfl,rfl⟩))
       rw[xN,show(!false)=true from rfl]at hmd;by_cases hge:kidA TB p true=bv∧kidA TB bv true=fr;rotate_left
       ·rw[if_neg hge]at hmd;cases hmd
       rw[if_pos hge]at hmd;have HE1:=Z hge.1;clear hge;have PL1:=Z (zF TB (redA TB p) bv);have PO1:=Z (OB.o.zT (redA TB p) bv BN.o);have PK1:=Z (zS TB (redA TB p) bv p true BN.o);obtain⟨rp,hrp⟩:∃rp,rp=redA TB p:=⟨_,rfl⟩;rw[←hrp]at hmd PL1 PO1 PK1;have HRP:=Z hrp.symm;clear hrp;go_upto_region 17 with(fail)
       go_region_with (first
        | (go_at_call 79;refine(yD (by first|exact WB.o.drew|exact(WB.o.alloc _).drew) p (by rw[LB.o];exact HP.o) rp HRP.o).mono ?_;rintro e wr ⟨rfl,rfl⟩)
        | (go_at_call 82;refine(qD WB.o rp bv (by have:=HP.o;have:=P0.o;have:=LB.o;omega) BN.o).mono ?_;rintro e wq ⟨rfl,hWq,hGq⟩;have WF1:=Z hWq;have GF1:=Z (GB.o.trans hGq);clear hWq hGq))
       all_goals
        generalize zG TB rp bv=TF1 at WF1 PL1 PO1 PK1 hmd;have PO2:=Z ((PO1.o.zT false p (by rw[PL1.o,LB.o];exact HP.o)).zT false fr (by rw[zF,PL1.o];exact FN.o));have PL2:=Z (show(zG (zG TF1 false p) false fr).ns.length=TF1.ns.length by rw[zF,zF]);have PK2:=Z (show kidA (zG (zG TF1 false p) false fr) p true=kidA TF1 p true by rw[zS _ _ _ _ _ (by rw[zF,PL1.o];exact FN.o),zS _ _ _ _ _ (by rw[PL1.o,LB.o];exact HP.o)]);have HMD:=Z (Option.some.inj hmd);clear hmd;go_upto_region 18 with(go_at_call 82;refine(jB WF1.o false p fr (by have:=HP.o;have:=P0.o;have:=LB.o;have:=PL1.o;omega) (by rw[PL1.o,LB.o];exact HP.o) (by rw[PL1.o];exact FN.o)).mono ?_;rintro e wq ⟨rfl,hWq,hGq⟩;have WF2:=Z hWq;have GF2:=Z (GF1.o.trans hGq);clear hWq hGq);generalize zG (zG TF1 false p) false fr=TF2 at WF2 PL2 PO2 PK2 HMD;have HK8:=Z (show 0≤kidA TF2 p (!false)by show 0≤kidA TF2 p true;rw[PK2.o,PK1.o,HE1.o];exact B0.o);have HK9:=Z (show p<(TF2.ns.length:Int)by rw[PL2.o,PL1.o,LB.o];exact HP.o);go_wp2_with (go_at_call 122;refine(qB WF2.o PO2.o p P0.o HK9.o false HK8.o 0 rfl).mono ?_;rintro e wq ⟨rfl,hWq,hGq⟩;have WF3:=Z hWq;have GF3:=Z (GF2.o.trans hGq);clear hWq hGq);refine bodyPost_ret (results_none rfl _ _ _) rfl ?_;exact⟨rfl,by rw[←HMD.o];exact WF3.o,GF3.o⟩
    | false=>
     have HRB:=Z hrb;rw[hrb,if_neg (by simp)]at hmd;clear hrb;go_wp2
     (go_quiet (first
      | (go_at_call 88;exact Calls.quiet_of_same (qF (by first|exact W0.o|exact W0.o.drewN _) p P0.o HP.o false 0 rfl kd HK.o))
      | (go_at_call 79;exact Calls.quiet_of_same (yD (by first|exact W0.o|exact W0.o.drewN _) kd HKN.o _ HRK.o))))
     have W1:=Z (W0.o.drewN nq);have G1:=Z (G0.o.drewN nq);clear W0 G0;generalize wr.drewN nq=wd at W1 G1⊢;go_upto_region 7 with(first
      | (go_at_call 88;refine(qF W1.o p P0.o HP.o true 1 rfl bb HB.o).mono ?_;rintro e wq ⟨rfl,rfl⟩)
      | (go_at_call 79;refine(yD W1.o bb HBN.o _ HRB.o).mono ?_;rintro e wq ⟨rfl,rfl⟩))
     have WB:=W1;have GB:=G1;have OB:=O0;have BN:=HBN;clear W1 G1;generalize hTB:T=TB at WB OB BN hmd;have LB:=Z (show TB.ns.length=T.ns.length by rw[hTB]);clear hTB;generalize hbv:bb=bv at BN hmd⊢;rw[xR]at hmd;by_cases hb0:bv<0
     ·rw[if_pos hb0]at hmd;cases hmd
     rw[if_neg hb0]at hmd;have B0:=Z (show 0≤bv by omega);clear hb0;obtain⟨nr,hnr⟩:∃q,q=kidA TB bv false:=⟨_,rfl⟩;obtain⟨fr,hfr⟩:∃q,q=kidA TB bv true:=⟨_,rfl⟩;simp only[Bool.not_false]at hmd;rw[←hnr,←hfr]at hmd;have NE:=Z hnr.symm;have FE:=Z hfr.symm;have NN:=Z (show nr<(TB.ns.length:Int)by rw[hnr];exact OB.o.kid _ _);have FN:=Z (show fr<(TB.ns.length:Int)by rw[hfr];exact OB.o.kid _ _);clear hnr hfr;have KIDS:=fun(w2:World) (hw:Wk A c w2 g b TB)=>And.intro (qF hw bv B0.o BN.o false 0 rfl nr NE.o) (qF hw bv B0.o BN.o true 1 rfl fr FE.o)
     have KI:=Z KIDS;clear KIDS;cases h1:redA TB nr with
     | false=>
      cases h2:redA TB fr with
      | false=>
       have HNR:=Z h1;have HFR:=Z h2;rw[h1,h2,if_pos ⟨rfl,rfl⟩]at hmd;have HMD:=Z hmd;clear h1 h2 hmd;go_upto_region 10 with(first
        | (go_at_call 88;first|(with_reducible refine((KI.o _ WB.o).1).mono ?_;rintro e wq ⟨rfl,rfl⟩)|(with_reducible refine((KI.o _ WB.o).2).mono ?_;rintro e wq ⟨rfl,rfl⟩))
        | (go_at_call_of 79 (Value.int IntKind.i64 nr);refine(yD WB.o nr NN.o _ HNR.o).mono ?_;rintro e wq ⟨rfl,rfl⟩)
        | (go_at_call_of 79 (Value.int IntKind.i64 fr);refine(yD WB.o fr FN.o _ HFR.o).mono ?_;rintro e wq ⟨rfl,rfl⟩)
        | (go_at_call 82;refine(xA WB.o true bv (by have:=B0.o;have:=BN.o;omega) BN.o).mono ?_;rintro e wq ⟨rfl,hWq,hGq⟩;have W9:=Z hWq;have G9:=Z (GB.o.trans hGq);clear hWq hGq))
       have O9:=Z (OB.o.zT true bv BN.o);have L9:=Z (zF TB true bv);generalize zG TB true bv=T9 at W9 O9 L9 HMD;go_wp2_with (first
        | (go_at_call 80;refine(up_v W9.o p P0.o (by rw[L9.o,LB.o];exact HP.o) _ rfl).mono ?_;rintro e wq ⟨rfl,rfl⟩)
        | (go_at_call 76;refine(on_v W9.o O9.o p P0.o (by rw[L9.o,LB.o];exact HP.o) _ rfl).mono ?_;rintro e wq ⟨rfl,rfl⟩))
       have hq:FRel A c g b w t.ns.length t' (Value.int IntKind.i64 (upA T9 p)) (Value.int IntKind.i64 (sd (onA T9 p))) _ m:=⟨T9,upA T9 p,onA T9 p,rfl,rfl,W9.o,O9.o,O9.o.up p,by rw[L9.o,LB.o];exact HN.o,HMD.o,G9.o⟩;refine⟨⟨m,hq⟩,?_⟩;have h3:=(yU ⟨m,hq⟩).2 m hq;exact Nat.lt_of_le_of_lt h3 (by rw[hlk];omega)
      | true=>
       have HNR:=Z h1;have HFR:=Z h2;rw[h1,h2,if_neg (by simp),if_neg (by simp)]at hmd;clear h1 h2;go_upto_region 16 with(first
        | (go_at_call 88;first|(with_reducible refine((KI.o _ WB.o).1).mono ?_;rintro e wq ⟨rfl,rfl⟩)|(with_reducible refine((KI.o _ WB.o).2).mono ?_;rintro e wq ⟨rfl,rfl⟩))
        | (go_at_call_of 79 (Value.int IntKind.i64 nr);refine(yD WB.o nr NN.o _ HNR.o).mono ?_;rintro e wq ⟨rfl,rfl⟩)
        | (go_at_call_of 79 (Value.int IntKind.i64 fr);refine(yD WB.o fr FN.o _ HFR.o).mono ?_;rintro e wq ⟨rfl,rfl⟩))
       rw[xN,show(!false)=true from rfl]at hmd;by_cases hge:kidA TB p true=bv∧kidA TB bv true=fr;rotate_left
       ·rw[if_neg hge]at hmd;cases hmd
       rw[if_pos hge]at hmd;have HE1:=Z hge.1;clear hge;have PL1:=Z (zF TB (redA TB p) bv);have PO1:=Z (OB.o.zT (redA TB p) bv BN.o);have PK1:=Z (zS TB (redA TB p) bv p true BN.o);obtain⟨rp,hrp⟩:∃rp,rp=redA TB p:=⟨_,rfl⟩;rw[←hrp]at hmd PL1 PO1 PK1;have HRP:=Z hrp.symm;clear hrp;go_upto_region 17 with(fail)
       go_region_with (first
        | (go_at_call 79;refine(yD (by first|exact WB.o.drew|exact(WB.o.alloc _).drew) p (by rw[LB.o];exact HP.o) rp HRP.o).mono ?_;rintro e wr ⟨rfl,rfl⟩)
        | (go_at_call 82;refine(qD WB.o rp bv (by have:=HP.o;have:=P0.o;have:=LB.o;omega) BN.o).mono ?_;rintro e wq ⟨rfl,hWq,hGq⟩;have WF1:=Z hWq;have GF1:=Z (GB.o.trans hGq);clear hWq hGq))
       all_goals
        generalize zG TB rp bv=TF1 at WF1 PL1 PO1 PK1 hmd;have PO2:=Z ((PO1.o.zT false p (by rw[PL1.o,LB.o];exact HP.o)).zT false fr (by rw[zF,PL1.o];exact FN.o));have PL2:=Z (show(zG (zG TF1 false p) false fr).ns.length=TF1.ns.length by rw[zF,zF]);have PK2:=Z (show kidA (zG (zG TF1 false p) false fr) p true=kidA TF1 p true by rw[zS _ _ _ _ _ (by rw[zF,PL1.o];exact FN.o),zS _ _ _ _ _ (by rw[PL1.o,LB.o];exact HP.o)]);have HMD:=Z (Option.some.inj hmd);clear hmd;go_upto_region 18 with(go_at_call 82;refine(jB WF1.o false p fr (by have:=HP.o;have:=P0.o;have:=LB.o;have:=PL1.o;omega) (by rw[PL1.o,LB.o];exact HP.o) (by rw[PL1.o];exact FN.o)).mono ?_;rintro e wq ⟨rfl,hWq,hGq⟩;have WF2:=Z hWq;have GF2:=Z (GF1.o.trans hGq);clear hWq hGq);generalize zG (zG TF1 false p) false fr=TF2 at WF2 PL2 PO2 PK2 HMD;have HK8:=Z (show 0≤kidA TF2 p (!false)by show 0≤kidA TF2 p true;rw[PK2.o,PK1.o,HE1.o];exact B0.o);have HK9:=Z (show p<(TF2.ns.length:Int)by rw[PL2.o,PL1.o,LB.o];exact HP.o);go_wp2_with (go_at_call 122;refine(qB WF2.o PO2.o p P0.o HK9.o false HK8.o 0 rfl).mono ?_;rintro e wq ⟨rfl,hWq,hGq⟩;have WF3:=Z hWq;have GF3:=Z (GF2.o.trans hGq);clear hWq hGq);refine bodyPost_ret (results_none rfl _ _ _) rfl ?_;exact⟨rfl,by rw[←HMD.o];exact WF3.o,GF3.o⟩
     | true=>
      cases h2:redA TB fr with
      | false=>
       have HNR:=Z h1;have HFR:=Z h2;rw[h1,h2,if_neg (by simp),if_pos rfl]at hmd;have N0:=Z (wG h1);clear h1 h2;have LC:=Z (show(zG (zG TB false nr) true bv).ns.length=TB.ns.length by rw[zF,zF]);have OC:=Z ((OB.o.zT false nr NN.o).zT true bv (by rw[zF];exact BN.o));have KC:=Z (show kidA (zG (zG TB false nr) true bv) bv false=nr by rw[zS _ _ _ _ _ (by rw[zF];exact BN.o),zS _ _ _ _ _ NN.o];exact NE.o);have L1:=Z (zF TB false nr);go_upto_region 13 with(first
        | (go_at_call 88;first|(with_reducible refine((KI.o _ WB.o).1).mono ?_;rintro e wq ⟨rfl,rfl⟩)|(with_reducible refine((KI.o _ WB.o).2).mono ?_;rintro e wq ⟨rfl,rfl⟩))
        | (go_at_call_of 79 (Value.int IntKind.i64 nr);refine(yD WB.o nr NN.o _ HNR.o).mono ?_;rintro e wq ⟨rfl,rfl⟩)
        | (go_at_call_of 79 (Value.int IntKind.i64 fr);refine(yD WB.o fr FN.o _ HFR.o).mono ?_;rintro e wq ⟨rfl,rfl⟩)
        | (go_at_call 82;refine(xA WB.o false nr (by have:=B0.o;have:=BN.o;omega) NN.o).mono ?_;rintro e wq ⟨rfl,hWq,hGq⟩;have W7:=Z hWq;have G7:=Z (GB.o.trans hGq);clear hWq hGq))
       go_upto_region 14 with(go_at_call 82;refine(xA W7.o true bv (by rw[L1.o];have:=B0.o;have:=BN.o;omega) (by rw[L1.o];exact BN.o)).mono ?_;rintro e wq ⟨rfl,hWq,hGq⟩;have W8:=Z hWq;have G8:=Z (G7.o.trans hGq);clear hWq hGq);generalize zG (zG TB false nr) true bv=TC at W8 LC OC KC hmd;have LD:=Z (show(yM TC bv true).ns.length=t.ns.length by rw[xD,LC.o,LB.o,HN.o]);have OD:=Z (OC.o.turn bv true (by rw[LC.o];exact BN.o));go_upto_region 16 with(go_at_call 122;refine(qB W8.o OC.o bv B0.o (by rw[LC.o];exact BN.o) true (by show 0≤kidA TC bv false;rw[KC.o];exact N0.o) 1 rfl).mono ?_;rintro e wq ⟨rfl,hWq,hGq⟩;have WD:=Z hWq;have GD:=Z (G8.o.trans hGq);clear hWq hGq);generalize yM TC bv true=TD at WD LD OD hmd;have LDT:=Z (show TD.ns.length=T.ns.length by rw[LD.o,HN.o]);have BD:=Z (show bv<(TD.ns.length:Int)by rw[LDT.o,←LB.o];exact BN.o);have ND:=Z (show nr<(TD.ns.length:Int)by rw[LDT.o,←LB.o];exact NN.o);rw[xN,show(!false)=true from rfl]at hmd;by_cases hge:kidA TD p true=nr∧kidA TD nr true=bv;rotate_left
       ·rw[if_neg hge]at hmd;cases hmd
       rw[if_pos hge]at hmd;have HE1:=Z hge.1;clear hge;have PL1:=Z (zF TD (redA TD p) nr);have PO1:=Z (OD.o.zT (redA TD p) nr ND.o);have PK1:=Z (zS TD (redA TD p) nr p true ND.o);obtain⟨rp,hrp⟩:∃rp,rp=redA TD p:=⟨_,rfl⟩;rw[←hrp]at hmd PL1 PO1 PK1;have HRP:=Z hrp.symm;clear hrp;go_upto_region 17 with(fail)
       go_region_with (first
        | (go_at_call 79;refine(yD (by first|exact WD.o.drew|exact(WD.o.alloc _).drew) p (by rw[LDT.o];exact HP.o) rp HRP.o).mono ?_;rintro e wr ⟨rfl,rfl⟩)
        | (go_at_call 82;refine(qD WD.o rp nr (by have:=HP.o;have:=P0.o;have:=LDT.o;omega) ND.o).mono ?_;rintro e wq ⟨rfl,hWq,hGq⟩;have WF1:=Z hWq;have GF1:=Z (GD.o.trans hGq);clear hWq hGq))
       all_goals
        generalize zG TD rp nr=TF1 at WF1 PL1 PO1 PK1 hmd;have PO2:=Z ((PO1.o.zT false p (by rw[PL1.o,LDT.o];exact HP.o)).zT false bv (by rw[zF,PL1.o];exact BD.o));have PL2:=Z (show(zG (zG TF1 false p) false bv).ns.length=TF1.ns.length by rw[zF,zF]);have PK2:=Z (show kidA (zG (zG TF1 false p) false bv) p true=kidA TF1 p true by rw[zS _ _ _ _ _ (by rw[zF,PL1.o];exact BD.o),zS _ _ _ _ _ (by rw[PL1.o,LDT.o];exact HP.o)]);have HMD:=Z (Option.some.inj hmd);clear hmd;go_upto_region 18 with(go_at_call 82;refine(jB WF1.o false p bv (by have:=HP.o;have:=P0.o;have:=LDT.o;have:=PL1.o;omega) (by rw[PL1.o,LDT.o];exact HP.o) (by rw[PL1.o];exact BD.o)).mono ?_;rintro e wq ⟨rfl,hWq,hGq⟩;have WF2:=Z hWq;have GF2:=Z (GF1.o.trans hGq);clear hWq hGq);generalize zG (zG TF1 false p) false bv=TF2 at WF2 PL2 PO2 PK2 HMD;have HK8:=Z (show 0≤kidA TF2 p (!false)by show 0≤kidA TF2 p true;rw[PK2.o,PK1.o,HE1.o];exact N0.o);have HK9:=Z (show p<(TF2.ns.length:Int)by rw[PL2.o,PL1.o,LDT.o];exact HP.o);go_wp2_with (go_at_call 122;refine(qB WF2.o PO2.o p P0.o HK9.o false HK8.o 0 rfl).mono ?_;rintro e wq ⟨rfl,hWq,hGq⟩;have WF3:=Z hWq;have GF3:=Z (GF2.o.trans hGq);clear hWq hGq);refine bodyPost_ret (results_none rfl _ _ _) rfl ?_;exact⟨rfl,by rw[←HMD.o];exact WF3.o,GF3.o⟩
      | true=>
       have HNR:=Z h1;have HFR:=Z h2;rw[h1,h2,if_neg (by simp),if_neg (by simp)]at hmd;clear h1 h2;go_upto_region 16 with(first
        | (go_at_call 88;first|(with_reducible refine((KI.o _ WB.o).1).mono ?_;rintro e wq ⟨rfl,rfl⟩)|(with_reducible refine((KI.o _ WB.o).2).mono ?_;rintro e wq ⟨rfl,rfl⟩))
        | (go_at_call_of 79 (Value.int IntKind.i64 nr);refine(yD WB.o nr NN.o _ HNR.o).mono ?_;rintro e wq ⟨rfl,rfl⟩)
        | (go_at_call_of 79 (Value.int IntKind.i64 fr);refine(yD WB.o fr FN.o _ HFR.o).mono ?_;rintro e wq ⟨rfl,rfl⟩))
       rw[xN,show(!false)=true from rfl]at hmd;by_cases hge:kidA TB p true=bv∧kidA TB bv true=fr;rotate_left
       ·rw[if_neg hge]at hmd;cases hmd
       rw[if_pos hge]at hmd;have HE1:=Z hge.1;clear hge;have PL1:=Z (zF TB (redA TB p) bv);have PO1:=Z (OB.o.zT (redA TB p) bv BN.o);have PK1:=Z (zS TB (redA TB p) bv p true BN.o);obtain⟨rp,hrp⟩:∃rp,rp=redA TB p:=⟨_,rfl⟩;rw[←hrp]at hmd PL1 PO1 PK1;have HRP:=Z hrp.symm;clear hrp;go_upto_region 17 with(fail)
       go_region_with (first
        | (go_at_call 79;refine(yD (by first|exact WB.o.drew|exact(WB.o.alloc _).drew) p (by rw[LB.o];exact HP.o) rp HRP.o).mono ?_;rintro e wr ⟨rfl,rfl⟩)
        | (go_at_call 82;refine(qD WB.o rp bv (by have:=HP.o;have:=P0.o;have:=LB.o;omega) BN.o).mono ?_;rintro e wq ⟨rfl,hWq,hGq⟩;have WF1:=Z hWq;have GF1:=Z (GB.o.trans hGq);clear hWq hGq))
       all_goals
        generalize zG TB rp bv=TF1 at WF1 PL1 PO1 PK1 hmd;have PO2:=Z ((PO1.o.zT false p (by rw[PL1.o,LB.o];exact HP.o)).zT false fr (by rw[zF,PL1.o];exact FN.o));have PL2:=Z (show(zG (zG TF1 false p) false fr).ns.length=TF1.ns.length by rw[zF,zF]);have PK2:=Z (show kidA (zG (zG TF1 false p) false fr) p true=kidA TF1 p true by rw[zS _ _ _ _ _ (by rw[zF,PL1.o];exact FN.o),zS _ _ _ _ _ (by rw[PL1.o,LB.o];exact HP.o)]);have HMD:=Z (Option.some.inj hmd);clear hmd;go_upto_region 18 with(go_at_call 82;refine(jB WF1.o false p fr (by have:=HP.o;have:=P0.o;have:=LB.o;have:=PL1.o;omega) (by rw[PL1.o,LB.o];exact HP.o) (by rw[PL1.o];exact FN.o)).mono ?_;rintro e wq ⟨rfl,hWq,hGq⟩;have WF2:=Z hWq;have GF2:=Z (GF1.o.trans hGq);clear hWq hGq);generalize zG (zG TF1 false p) false fr=TF2 at WF2 PL2 PO2 PK2 HMD;have HK8:=Z (show 0≤kidA TF2 p (!false)by show 0≤kidA TF2 p true;rw[PK2.o,PK1.o,HE1.o];exact B0.o);have HK9:=Z (show p<(TF2.ns.length:Int)by rw[PL2.o,PL1.o,LB.o];exact HP.o);go_wp2_with (go_at_call 122;refine(qB WF2.o PO2.o p P0.o HK9.o false HK8.o 0 rfl).mono ?_;rintro e wq ⟨rfl,hWq,hGq⟩;have WF3:=Z hWq;have GF3:=Z (GF2.o.trans hGq);clear hWq hGq);refine bodyPost_ret (results_none rfl _ _ _) rfl ?_;exact⟨rfl,by rw[←HMD.o];exact WF3.o,GF3.o⟩
  | true=>
   obtain rfl:z=1:=HZ.o.symm;obtain⟨kd,hkd⟩:∃q,q=kidA T p true:=⟨_,rfl⟩;have HK:=Z hkd.symm;have HKN:=Z (show kd<(T.ns.length:Int)by rw[hkd];exact O0.o.kid _ _);rw[←hkd]at hmd;clear hkd;cases hrk:redA T kd with
   | true=>
    have HRK:=Z hrk;rw[hrk,if_pos rfl]at hmd;have HMD:=Z (Option.some.inj hmd);clear hrk hmd;go_wp2
    (go_quiet (first
     | (go_at_call 88;exact Calls.quiet_of_same (qF (by first|exact W0.o|exact W0.o.drewN _) p P0.o HP.o true 1 rfl kd HK.o))
     | (go_at_call 79;exact Calls.quiet_of_same (yD (by first|exact W0.o|exact W0.o.drewN _) kd HKN.o _ HRK.o))))
    have W1:=Z (W0.o.drewN nq);have G1:=Z (G0.o.drewN nq);clear W0 G0;generalize wr.drewN nq=wd at W1 G1⊢;have hc1:=W1.o.c1;go_wp2_with (first
     | (go_at_call 88;refine(qF W1.o p P0.o HP.o true 1 rfl kd HK.o).mono ?_;rintro e wq ⟨rfl,rfl⟩)
     | (go_at_call 82;refine(xA W1.o false kd (by have:=P0.o;have:=HP.o;omega) HKN.o).mono ?_;rintro e wq ⟨rfl,hWq,hGq⟩;have W2:=Z hWq;have G2:=Z (G1.o.trans hGq);clear hWq hGq))
    go_end0
    exact⟨rfl,by rw[←HMD.o];exact W2.o,G2.o⟩
   | false=>
    have HRK:=Z hrk;rw[hrk,if_neg (by simp)]at hmd;clear hrk;obtain⟨bb,hbb⟩:∃q,q=kidA T p false:=⟨_,rfl⟩;have HB:=Z hbb.symm;have HBN:=Z (show bb<(T.ns.length:Int)by rw[hbb];exact O0.o.kid _ _);simp only[Bool.not_true]at hmd;rw[←hbb]at hmd;clear hbb;cases hrb:redA T bb with
    | true=>
     have HRB:=Z hrb;rw[hrb,if_pos rfl]at hmd;have BB0:=Z (wG hrb);clear hrb;have L2:=Z (zF T false bb);have O3:=Z ((O0.o.zT false bb HBN.o).zT true p (by rw[zF];exact HP.o));have L3:=Z (show(zG (zG T false bb) true p).ns.length=T.ns.length by rw[zF,zF]);have K3:=Z (show kidA (zG (zG T false bb) true p) p false=bb by rw[zS _ _ _ _ _ (by rw[zF];exact HP.o),zS _ _ _ _ _ HBN.o];exact HB.o);go_wp2
     (go_quiet (first
      | (go_at_call 88;exact Calls.quiet_of_same (qF (by first|exact W0.o|exact W0.o.drewN _) p P0.o HP.o true 1 rfl kd HK.o))
      | (go_at_call 79;exact Calls.quiet_of_same (yD (by first|exact W0.o|exact W0.o.drewN _) kd HKN.o _ HRK.o))))
     have W1:=Z (W0.o.drewN nq);have G1:=Z (G0.o.drewN nq);clear W0 G0;generalize wr.drewN nq=wd at W1 G1⊢;go_upto_region 4 with(first
      | (go_at_call 88;refine(qF W1.o p P0.o HP.o false 0 rfl bb HB.o).mono ?_;rintro e wq ⟨rfl,rfl⟩)
      | (go_at_call 79;refine(yD W1.o bb HBN.o _ HRB.o).mono ?_;rintro e wq ⟨rfl,rfl⟩)
      | (go_at_call 82;refine(xA W1.o false bb (by have:=P0.o;have:=HP.o;omega) HBN.o).mono ?_;rintro e wq ⟨rfl,hWq,hGq⟩;have W2:=Z hWq;have G2:=Z (G1.o.trans hGq);clear hWq hGq))
     go_upto_region 5 with(go_at_call 82;refine(xA W2.o true p (by rw[L2.o];have:=P0.o;have:=HP.o;omega) (by rw[L2.o];exact HP.o)).mono ?_;rintro e wq ⟨rfl,hWq,hGq⟩;have W3:=Z hWq;have G3:=Z (G2.o.trans hGq);clear hWq hGq);generalize zG (zG T false bb) true p=T3 at W3 O3 L3 K3 hmd;have LB:=Z (show(yM T3 p true).ns.length=T.ns.length by rw[xD,L3.o]);have OB:=Z (O3.o.turn p true (by rw[L3.o];exact HP.o));go_upto_region 6 with(go_at_call 122;refine(qB W3.o O3.o p P0.o (by rw[L3.o];exact HP.o) true (by show 0≤kidA T3 p false;rw[K3.o];exact BB0.o) 1 rfl).mono ?_;rintro e wq ⟨rfl,hWq,hGq⟩;have WB:=Z hWq;have GB:=Z (G3.o.trans hGq);clear hWq hGq);generalize yM T3 p true=TB at WB OB LB hmd;obtain⟨bv,hbv⟩:∃q,q=kidA TB p false:=⟨_,rfl⟩;have HBV:=Z hbv.symm;have BN:=Z (show bv<(TB.ns.length:Int)by rw[hbv];exact OB.o.kid _ _);rw[←hbv]at hmd;clear hbv;go_upto_region 7 with(go_at_call 88;refine(qF WB.o p P0.o (by rw[LB.o];exact HP.o) false 0 rfl bv HBV.o).mono ?_;rintro e wq ⟨rfl,rfl⟩);rw[xR]at hmd;by_cases hb0:bv<0
     ·rw[if_pos hb0]at hmd;cases hmd
     rw[if_neg hb0]at hmd;have B0:=Z (show 0≤bv by omega);clear hb0;obtain⟨nr,hnr⟩:∃q,q=kidA TB bv true:=⟨_,rfl⟩;obtain⟨fr,hfr⟩:∃q,q=kidA TB bv false:=⟨_,rfl⟩;simp only[Bool.not_true]at hmd;rw[←hnr,←hfr]at hmd;have NE:=Z hnr.symm;have FE:=Z hfr.symm;have NN:=Z (show nr<(TB.ns.length:Int)by rw[hnr];exact OB.o.kid _ _);have FN:=Z (show fr<(TB.ns.length:Int)by rw[hfr];exact OB.o.kid _ _);clear hnr hfr;have KIDS:=fun(w2:World) (hw:Wk A c w2 g b TB)=>And.intro (qF hw bv B0.o BN.o true 1 rfl nr NE.o) (qF hw bv B0.o BN.o false 0 rfl fr FE.o)
     have KI:=Z KIDS;clear KIDS;cases h1:redA TB nr with
     | false=>
      cases h2:redA TB fr with
      | false=>
       have HNR:=Z h1;have HFR:=Z h2;rw[h1,h2,if_pos ⟨rfl,rfl⟩]at hmd;have HMD:=Z hmd;clear h1 h2 hmd;go_upto_region 10 with(first
        | (go_at_call 88;first|(with_reducible refine((KI.o _ WB.o).1).mono ?_;rintro e wq ⟨rfl,rfl⟩)|(with_reducible refine((KI.o _ WB.o).2).mono ?_;rintro e wq ⟨rfl,rfl⟩))
        | (go_at_call_of 79 (Value.int IntKind.i64 nr);refine(yD WB.o nr NN.o _ HNR.o).mono ?_;rintro e wq ⟨rfl,rfl⟩)
        | (go_at_call_of 79 (Value.int IntKind.i64 fr);refine(yD WB.o fr FN.o _ HFR.o).mono ?_;rintro e wq ⟨rfl,rfl⟩)
        | (go_at_call 82;refine(xA WB.o true bv (by have:=B0.o;have:=BN.o;omega) BN.o).mono ?_;rintro e wq ⟨rfl,hWq,hGq⟩;have W9:=Z hWq;have G9:=Z (GB.o.trans hGq);clear hWq hGq))
       have O9:=Z (OB.o.zT true bv BN.o);have L9:=Z (zF TB true bv);generalize zG TB true bv=T9 at W9 O9 L9 HMD;go_wp2_with (first
        | (go_at_call 80;refine(up_v W9.o p P0.o (by rw[L9.o,LB.o];exact HP.o) _ rfl).mono ?_;rintro e wq ⟨rfl,rfl⟩)
        | (go_at_call 76;refine(on_v W9.o O9.o p P0.o (by rw[L9.o,LB.o];exact HP.o) _ rfl).mono ?_;rintro e wq ⟨rfl,rfl⟩))
       have hq:FRel A c g b w t.ns.length t' (Value.int IntKind.i64 (upA T9 p)) (Value.int IntKind.i64 (sd (onA T9 p))) _ m:=⟨T9,upA T9 p,onA T9 p,rfl,rfl,W9.o,O9.o,O9.o.up p,by rw[L9.o,LB.o];exact HN.o,HMD.o,G9.o⟩;refine⟨⟨m,hq⟩,?_⟩;have h3:=(yU ⟨m,hq⟩).2 m hq;exact Nat.lt_of_le_of_lt h3 (by rw[hlk];omega)
      | true=>
       have HNR:=Z h1;have HFR:=Z h2;rw[h1,h2,if_neg (by simp),if_neg (by simp)]at hmd;clear h1 h2;go_upto_region 16 with(first
        | (go_at_call 88;first|(with_reducible refine((KI.o _ WB.o).1).mono ?_;rintro e wq ⟨rfl,rfl⟩)|(with_reducible refine((KI.o _ WB.o).2).mono ?_;rintro e wq ⟨rfl,rfl⟩))
        | (go_at_call_of 79 (Value.int IntKind.i64 nr);refine(yD WB.o nr NN.o _ HNR.o).mono ?_;rintro e wq ⟨rfl,rfl⟩)
        | (go_at_call_of 79 (Value.int IntKind.i64 fr);refine(yD WB.o fr FN.o _ HFR.o).mono ?_;rintro e wq ⟨rfl,rfl⟩))
       rw[xN,show(!true)=false from rfl]at hmd;by_cases hge:kidA TB p false=bv∧kidA TB bv false=fr;rotate_left
       ·rw[if_neg hge]at hmd;cases hmd
       rw[if_pos hge]at hmd;have HE1:=Z hge.1;clear hge;have PL1:=Z (zF TB (redA TB p) bv);have PO1:=Z (OB.o.zT (redA TB p) bv BN.o);have PK1:=Z (zS TB (redA TB p) bv p false BN.o);obtain⟨rp,hrp⟩:∃rp,rp=redA TB p:=⟨_,rfl⟩;rw[←hrp]at hmd PL1 PO1 PK1;have HRP:=Z hrp.symm;clear hrp;go_upto_region 17 with(fail)
       go_region_with (first
        | (go_at_call 79;refine(yD (by first|exact WB.o.drew|exact(WB.o.alloc _).drew) p (by rw[LB.o];exact HP.o) rp HRP.o).mono ?_;rintro e wr ⟨rfl,rfl⟩)
        | (go_at_call 82;refine(qD WB.o rp bv (by have:=HP.o;have:=P0.o;have:=LB.o;omega) BN.o).mono ?_;rintro e wq ⟨rfl,hWq,hGq⟩;have WF1:=Z hWq;have GF1:=Z (GB.o.trans hGq);clear hWq hGq))
       all_goals
        generalize zG TB rp bv=TF1 at WF1 PL1 PO1 PK1 hmd;have PO2:=Z ((PO1.o.zT false p (by rw[PL1.o,LB.o];exact HP.o)).zT false fr (by rw[zF,PL1.o];exact FN.o));have PL2:=Z (show(zG (zG TF1 false p) false fr).ns.length=TF1.ns.length by rw[zF,zF]);have PK2:=Z (show kidA (zG (zG TF1 false p) false fr) p false=kidA TF1 p false by rw[zS _ _ _ _ _ (by rw[zF,PL1.o];exact FN.o),zS _ _ _ _ _ (by rw[PL1.o,LB.o];exact HP.o)]);have HMD:=Z (Option.some.inj hmd);clear hmd;go_upto_region 18 with(go_at_call 82;refine(jB WF1.o false p fr (by have:=HP.o;have:=P0.o;have:=LB.o;have:=PL1.o;omega) (by rw[PL1.o,LB.o];exact HP.o) (by rw[PL1.o];exact FN.o)).mono ?_;rintro e wq ⟨rfl,hWq,hGq⟩;have WF2:=Z hWq;have GF2:=Z (GF1.o.trans hGq);clear hWq hGq);generalize zG (zG TF1 false p) false fr=TF2 at WF2 PL2 PO2 PK2 HMD;have HK8:=Z (show 0≤kidA TF2 p (!true)by show 0≤kidA TF2 p false;rw[PK2.o,PK1.o,HE1.o];exact B0.o);have HK9:=Z (show p<(TF2.ns.length:Int)by rw[PL2.o,PL1.o,LB.o];exact HP.o);go_wp2_with (go_at_call 122;refine(qB WF2.o PO2.o p P0.o HK9.o true HK8.o 1 rfl).mono ?_;rintro e wq ⟨rfl,hWq,hGq⟩;have WF3:=Z hWq;have GF3:=Z (GF2.o.trans hGq);clear hWq hGq);refine bodyPost_ret (results_none rfl _ _ _) rfl ?_;exact⟨rfl,by rw[←HMD.o];exact WF3.o,GF3.o⟩
     | true=>
      cases h2:redA TB fr with
      | false=>
       have HNR:=Z h1;have HFR:=Z h2;rw[h1,h2,if_neg (by simp),if_pos rfl]at hmd;have N0:=Z (wG h1);clear h1 h2;have LC:=Z (show(zG (zG TB false nr) true bv).ns.length=TB.ns.length by rw[zF,zF]);have OC:=Z ((OB.o.zT false nr NN.o).zT true bv (by rw[zF];exact BN.o));have KC:=Z (show kidA (zG (zG TB false nr) true bv) bv true=nr by rw[zS _ _ _ _ _ (by rw[zF];exact BN.o),zS _ _ _ _ _ NN.o];exact NE.o);have L1:=Z (zF TB false nr);go_upto_region 13 with(first
        | (go_at_call 88;first|(with_reducible refine((KI.o _ WB.o).1).mono ?_;rintro e wq ⟨rfl,rfl⟩)|(with_reducible refine((KI.o _ WB.o).2).mono ?_;rintro e wq ⟨rfl,rfl⟩))
        | (go_at_call_of 79 (Value.int IntKind.i64 nr);refine(yD WB.o nr NN.o _ HNR.o).mono ?_;rintro e wq ⟨rfl,rfl⟩)
        | (go_at_call_of 79 (Value.int IntKind.i64 fr);refine(yD WB.o fr FN.o _ HFR.o).mono ?_;rintro e wq ⟨rfl,rfl⟩)
        | (go_at_call 82;refine(xA WB.o false nr (by have:=B0.o;have:=BN.o;omega) NN.o).mono ?_;rintro e wq ⟨rfl,hWq,hGq⟩;have W7:=Z hWq;have G7:=Z (GB.o.trans hGq);clear hWq hGq))
       go_upto_region 14 with(go_at_call 82;refine(xA W7.o true bv (by rw[L1.o];have:=B0.o;have:=BN.o;omega) (by rw[L1.o];exact BN.o)).mono ?_;rintro e wq ⟨rfl,hWq,hGq⟩;have W8:=Z hWq;have G8:=Z (G7.o.trans hGq);clear hWq hGq);generalize zG (zG TB false nr) true bv=TC at W8 LC OC KC hmd;have LD:=Z (show(yM TC bv false).ns.length=t.ns.length by rw[xD,LC.o,LB.o,HN.o]);have OD:=Z (OC.o.turn bv false (by rw[LC.o];exact BN.o));go_upto_region 16 with(go_at_call 122;refine(qB W8.o OC.o bv B0.o (by rw[LC.o];exact BN.o) false (by show 0≤kidA TC bv true;rw[KC.o];exact N0.o) 0 rfl).mono ?_;rintro e wq ⟨rfl,hWq,hGq⟩;have WD:=Z hWq;have GD:=Z (G8.o.trans hGq);clear hWq hGq);generalize yM TC bv false=TD at WD LD OD hmd;have LDT:=Z (show TD.ns.length=T.ns.length by rw[LD.o,HN.o]);have BD:=Z (show bv<(TD.ns.length:Int)by rw[LDT.o,←LB.o];exact BN.o);have ND:=Z (show nr<(TD.ns.length:Int)by rw[LDT.o,←LB.o];exact NN.o);rw[xN,show(!true)=false from rfl]at hmd;by_cases hge:kidA TD p false=nr∧kidA TD nr false=bv;rotate_left
       ·rw[if_neg hge]at hmd;cases hmd
       rw[if_pos hge]at hmd;have HE1:=Z hge.1;clear hge;have PL1:=Z (zF TD (redA TD p) nr);have PO1:=Z (OD.o.zT (redA TD p) nr ND.o);have PK1:=Z (zS TD (redA TD p) nr p false ND.o);obtain⟨rp,hrp⟩:∃rp,rp=redA TD p:=⟨_,rfl⟩;rw[←hrp]at hmd PL1 PO1 PK1;have HRP:=Z hrp.symm;clear hrp;go_upto_region 17 with(fail)
       go_region_with (first
        | (go_at_call 79;refine(yD (by first|exact WD.o.drew|exact(WD.o.alloc _).drew) p (by rw[LDT.o];exact HP.o) rp HRP.o).mono ?_;rintro e wr ⟨rfl,rfl⟩)
        | (go_at_call 82;refine(qD WD.o rp nr (by have:=HP.o;have:=P0.o;have:=LDT.o;omega) ND.o).mono ?_;rintro e wq ⟨rfl,hWq,hGq⟩;have WF1:=Z hWq;have GF1:=Z (GD.o.trans hGq);clear hWq hGq))
       all_goals
        generalize zG TD rp nr=TF1 at WF1 PL1 PO1 PK1 hmd;have PO2:=Z ((PO1.o.zT false p (by rw[PL1.o,LDT.o];exact HP.o)).zT false bv (by rw[zF,PL1.o];exact BD.o));have PL2:=Z (show(zG (zG TF1 false p) false bv).ns.length=TF1.ns.length by rw[zF,zF]);have PK2:=Z (show kidA (zG (zG TF1 false p) false bv) p false=kidA TF1 p false by rw[zS _ _ _ _ _ (by rw[zF,PL1.o];exact BD.o),zS _ _ _ _ _ (by rw[PL1.o,LDT.o];exact HP.o)]);have HMD:=Z (Option.some.inj hmd);clear hmd;go_upto_region 18 with(go_at_call 82;refine(jB WF1.o false p bv (by have:=HP.o;have:=P0.o;have:=LDT.o;have:=PL1.o;omega) (by rw[PL1.o,LDT.o];exact HP.o) (by rw[PL1.o];exact BD.o)).mono ?_;rintro e wq ⟨rfl,hWq,hGq⟩;have WF2:=Z hWq;have GF2:=Z (GF1.o.trans hGq);clear hWq hGq);generalize zG (zG TF1 false p) false bv=TF2 at WF2 PL2 PO2 PK2 HMD;have HK8:=Z (show 0≤kidA TF2 p (!true)by show 0≤kidA TF2 p false;rw[PK2.o,PK1.o,HE1.o];exact N0.o);have HK9:=Z (show p<(TF2.ns.length:Int)by rw[PL2.o,PL1.o,LDT.o];exact HP.o);go_wp2_with (go_at_call 122;refine(qB WF2.o PO2.o p P0.o HK9.o true HK8.o 1 rfl).mono ?_;rintro e wq ⟨rfl,hWq,hGq⟩;have WF3:=Z hWq;have GF3:=Z (GF2.o.trans hGq);clear hWq hGq);refine bodyPost_ret (results_none rfl _ _ _) rfl ?_;exact⟨rfl,by rw[←HMD.o];exact WF3.o,GF3.o⟩
      | true=>
       have HNR:=Z h1;have HFR:=Z h2;rw[h1,h2,if_neg (by simp),if_neg (by simp)]at hmd;clear h1 h2;go_upto_region 16 with(first
        | (go_at_call 88;first|(with_reducible refine((KI.o _ WB.o).1).mono ?_;rintro e wq ⟨rfl,rfl⟩)|(with_reducible refine((KI.o _ WB.o).2).mono ?_;rintro e wq ⟨rfl,rfl⟩))
        | (go_at_call_of 79 (Value.int IntKind.i64 nr);refine(yD WB.o nr NN.o _ HNR.o).mono ?_;rintro e wq ⟨rfl,rfl⟩)
        | (go_at_call_of 79 (Value.int IntKind.i64 fr);refine(yD WB.o fr FN.o _ HFR.o).mono ?_;rintro e wq ⟨rfl,rfl⟩))
       rw[xN,show(!true)=false from rfl]at hmd;by_cases hge:kidA TB p false=bv∧kidA TB bv false=fr;rotate_left
       ·rw[if_neg hge]at hmd;cases hmd
       rw[if_pos hge]at hmd;have HE1:=Z hge.1;clear hge;have PL1:=Z (zF TB (redA TB p) bv);have PO1:=Z (OB.o.zT (redA TB p) bv BN.o);have PK1:=Z (zS TB (redA TB p) bv p false BN.o);obtain⟨rp,hrp⟩:∃rp,rp=redA TB p:=⟨_,rfl⟩;rw[←hrp]at hmd PL1 PO1 PK1;have HRP:=Z hrp.symm;clear hrp;go_upto_region 17 with(fail)
       go_region_with (first
        | (go_at_call 79;refine(yD (by first|exact WB.o.drew|exact(WB.o.alloc _).drew) p (by rw[LB.o];exact HP.o) rp HRP.o).mono ?_;rintro e wr ⟨rfl,rfl⟩)
        | (go_at_call 82;refine(qD WB.o rp bv (by have:=HP.o;have:=P0.o;have:=LB.o;omega) BN.o).mono ?_;rintro e wq ⟨rfl,hWq,hGq⟩;have WF1:=Z hWq;have GF1:=Z (GB.o.trans hGq);clear hWq hGq))
       all_goals
        generalize zG TB rp bv=TF1 at WF1 PL1 PO1 PK1 hmd;have PO2:=Z ((PO1.o.zT false p (by rw[PL1.o,LB.o];exact HP.o)).zT false fr (by rw[zF,PL1.o];exact FN.o));have PL2:=Z (show(zG (zG TF1 false p) false fr).ns.length=TF1.ns.length by rw[zF,zF]);have PK2:=Z (show kidA (zG (zG TF1 false p) false fr) p false=kidA TF1 p false by rw[zS _ _ _ _ _ (by rw[zF,PL1.o];exact FN.o),zS _ _ _ _ _ (by rw[PL1.o,LB.o];exact HP.o)]);have HMD:=Z (Option.some.inj hmd);clear hmd;go_upto_region 18 with(go_at_call 82;refine(jB WF1.o false p fr (by have:=HP.o;have:=P0.o;have:=LB.o;have:=PL1.o;omega) (by rw[PL1.o,LB.o];exact HP.o) (by rw[PL1.o];exact FN.o)).mono ?_;rintro e wq ⟨rfl,hWq,hGq⟩;have WF2:=Z hWq;have GF2:=Z (GF1.o.trans hGq);clear hWq hGq);generalize zG (zG TF1 false p) false fr=TF2 at WF2 PL2 PO2 PK2 HMD;have HK8:=Z (show 0≤kidA TF2 p (!true)by show 0≤kidA TF2 p false;rw[PK2.o,PK1.o,HE1.o];exact B0.o);have HK9:=Z (show p<(TF2.ns.length:Int)by rw[PL2.o,PL1.o,LB.o];exact HP.o);go_wp2_with (go_at_call 122;refine(qB WF2.o PO2.o p P0.o HK9.o true HK8.o 1 rfl).mono ?_;rintro e wq ⟨rfl,hWq,hGq⟩;have WF3:=Z hWq;have GF3:=Z (GF2.o.trans hGq);clear hWq hGq);refine bodyPost_ret (results_none rfl _ _ _) rfl ?_;exact⟨rfl,by rw[←HMD.o];exact WF3.o,GF3.o⟩
    | false=>
     have HRB:=Z hrb;rw[hrb,if_neg (by simp)]at hmd;clear hrb;go_wp2
     (go_quiet (first
      | (go_at_call 88;exact Calls.quiet_of_same (qF (by first|exact W0.o|exact W0.o.drewN _) p P0.o HP.o true 1 rfl kd HK.o))
      | (go_at_call 79;exact Calls.quiet_of_same (yD (by first|exact W0.o|exact W0.o.drewN _) kd HKN.o _ HRK.o))))
     have W1:=Z (W0.o.drewN nq);have G1:=Z (G0.o.drewN nq);clear W0 G0;generalize wr.drewN nq=wd at W1 G1⊢;go_upto_region 7 with(first
      | (go_at_call 88;refine(qF W1.o p P0.o HP.o false 0 rfl bb HB.o).mono ?_;rintro e wq ⟨rfl,rfl⟩)
      | (go_at_call 79;refine(yD W1.o bb HBN.o _ HRB.o).mono ?_;rintro e wq ⟨rfl,rfl⟩))
     have WB:=W1;have GB:=G1;have OB:=O0;have BN:=HBN;clear W1 G1;generalize hTB:T=TB at WB OB BN hmd;have LB:=Z (show TB.ns.length=T.ns.length by rw[hTB]);clear hTB;generalize hbv:bb=bv at BN hmd⊢;rw[xR]at hmd;by_cases hb0:bv<0
     ·rw[if_pos hb0]at hmd;cases hmd
     rw[if_neg hb0]at hmd;have B0:=Z (show 0≤bv by omega);clear hb0;obtain⟨nr,hnr⟩:∃q,q=kidA TB bv true:=⟨_,rfl⟩;obtain⟨fr,hfr⟩:∃q,q=kidA TB bv false:=⟨_,rfl⟩;simp only[Bool.not_true]at hmd;rw[←hnr,←hfr]at hmd;have NE:=Z hnr.symm;have FE:=Z hfr.symm;have NN:=Z (show nr<(TB.ns.length:Int)by rw[hnr];exact OB.o.kid _ _);have FN:=Z (show fr<(TB.ns.length:Int)by rw[hfr];exact OB.o.kid _ _);clear hnr hfr;have KIDS:=fun(w2:World) (hw:Wk A c w2 g b TB)=>And.intro (qF hw bv B0.o BN.o true 1 rfl nr NE.o) (qF hw bv B0.o BN.o false 0 rfl fr FE.o)
     have KI:=Z KIDS;clear KIDS;cases h1:redA TB nr with
     | false=>
      cases h2:redA TB fr with
      | false=>
       have HNR:=Z h1;have HFR:=Z h2;rw[h1,h2,if_pos ⟨rfl,rfl⟩]at hmd;have HMD:=Z hmd;clear h1 h2 hmd;go_upto_region 10 with(first
        | (go_at_call 88;first|(with_reducible refine((KI.o _ WB.o).1).mono ?_;rintro e wq ⟨rfl,rfl⟩)|(with_reducible refine((KI.o _ WB.o).2).mono ?_;rintro e wq ⟨rfl,rfl⟩))
        | (go_at_call_of 79 (Value.int IntKind.i64 nr);refine(yD WB.o nr NN.o _ HNR.o).mono ?_;rintro e wq ⟨rfl,rfl⟩)
        | (go_at_call_of 79 (Value.int IntKind.i64 fr);refine(yD WB.o fr FN.o _ HFR.o).mono ?_;rintro e wq ⟨rfl,rfl⟩)
        | (go_at_call 82;refine(xA WB.o true bv (by have:=B0.o;have:=BN.o;omega) BN.o).mono ?_;rintro e wq ⟨rfl,hWq,hGq⟩;have W9:=Z hWq;have G9:=Z (GB.o.trans hGq);clear hWq hGq))
       have O9:=Z (OB.o.zT true bv BN.o);have L9:=Z (zF TB true bv);generalize zG TB true bv=T9 at W9 O9 L9 HMD;go_wp2_with (first
        | (go_at_call 80;refine(up_v W9.o p P0.o (by rw[L9.o,LB.o];exact HP.o) _ rfl).mono ?_;rintro e wq ⟨rfl,rfl⟩)
        | (go_at_call 76;refine(on_v W9.o O9.o p P0.o (by rw[L9.o,LB.o];exact HP.o) _ rfl).mono ?_;rintro e wq ⟨rfl,rfl⟩))
       have hq:FRel A c g b w t.ns.length t' (Value.int IntKind.i64 (upA T9 p)) (Value.int IntKind.i64 (sd (onA T9 p))) _ m:=⟨T9,upA T9 p,onA T9 p,rfl,rfl,W9.o,O9.o,O9.o.up p,by rw[L9.o,LB.o];exact HN.o,HMD.o,G9.o⟩;refine⟨⟨m,hq⟩,?_⟩;have h3:=(yU ⟨m,hq⟩).2 m hq;exact Nat.lt_of_le_of_lt h3 (by rw[hlk];omega)
      | true=>
       have HNR:=Z h1;have HFR:=Z h2;rw[h1,h2,if_neg (by simp),if_neg (by simp)]at hmd;clear h1 h2;go_upto_region 16 with(first
        | (go_at_call 88;first|(with_reducible refine((KI.o _ WB.o).1).mono ?_;rintro e wq ⟨rfl,rfl⟩)|(with_reducible refine((KI.o _ WB.o).2).mono ?_;rintro e wq ⟨rfl,rfl⟩))
        | (go_at_call_of 79 (Value.int IntKind.i64 nr);refine(yD WB.o nr NN.o _ HNR.o).mono ?_;rintro e wq ⟨rfl,rfl⟩)
        | (go_at_call_of 79 (Value.int IntKind.i64 fr);refine(yD WB.o fr FN.o _ HFR.o).mono ?_;rintro e wq ⟨rfl,rfl⟩))
       rw[xN,show(!true)=false from rfl]at hmd;by_cases hge:kidA TB p false=bv∧kidA TB bv false=fr;rotate_left
       ·rw[if_neg hge]at hmd;cases hmd
       rw[if_pos hge]at hmd;have HE1:=Z hge.1;clear hge;have PL1:=Z (zF TB (redA TB p) bv);have PO1:=Z (OB.o.zT (redA TB p) bv BN.o);have PK1:=Z (zS TB (redA TB p) bv p false BN.o);obtain⟨rp,hrp⟩:∃rp,rp=redA TB p:=⟨_,rfl⟩;rw[←hrp]at hmd PL1 PO1 PK1;have HRP:=Z hrp.symm;clear hrp;go_upto_region 17 with(fail)
       go_region_with (first
        | (go_at_call 79;refine(yD (by first|exact WB.o.drew|exact(WB.o.alloc _).drew) p (by rw[LB.o];exact HP.o) rp HRP.o).mono ?_;rintro e wr ⟨rfl,rfl⟩)
        | (go_at_call 82;refine(qD WB.o rp bv (by have:=HP.o;have:=P0.o;have:=LB.o;omega) BN.o).mono ?_;rintro e wq ⟨rfl,hWq,hGq⟩;have WF1:=Z hWq;have GF1:=Z (GB.o.trans hGq);clear hWq hGq))
       all_goals
        generalize zG TB rp bv=TF1 at WF1 PL1 PO1 PK1 hmd;have PO2:=Z ((PO1.o.zT false p (by rw[PL1.o,LB.o];exact HP.o)).zT false fr (by rw[zF,PL1.o];exact FN.o));have PL2:=Z (show(zG (zG TF1 false p) false fr).ns.length=TF1.ns.length by rw[zF,zF]);have PK2:=Z (show kidA (zG (zG TF1 false p) false fr) p false=kidA TF1 p false by rw[zS _ _ _ _ _ (by rw[zF,PL1.o];exact FN.o),zS _ _ _ _ _ (by rw[PL1.o,LB.o];exact HP.o)]);have HMD:=Z (Option.some.inj hmd);clear hmd;go_upto_region 18 with(go_at_call 82;refine(jB WF1.o false p fr (by have:=HP.o;have:=P0.o;have:=LB.o;have:=PL1.o;omega) (by rw[PL1.o,LB.o];exact HP.o) (by rw[PL1.o];exact FN.o)).mono ?_;rintro e wq ⟨rfl,hWq,hGq⟩;have WF2:=Z hWq;have GF2:=Z (GF1.o.trans hGq);clear hWq hGq);generalize zG (zG TF1 false p) false fr=TF2 at WF2 PL2 PO2 PK2 HMD;have HK8:=Z (show 0≤kidA TF2 p (!true)by show 0≤kidA TF2 p false;rw[PK2.o,PK1.o,HE1.o];exact B0.o);have HK9:=Z (show p<(TF2.ns.length:Int)by rw[PL2.o,PL1.o,LB.o];exact HP.o);go_wp2_with (go_at_call 122;refine(qB WF2.o PO2.o p P0.o HK9.o true HK8.o 1 rfl).mono ?_;rintro e wq ⟨rfl,hWq,hGq⟩;have WF3:=Z hWq;have GF3:=Z (GF2.o.trans hGq);clear hWq hGq);refine bodyPost_ret (results_none rfl _ _ _) rfl ?_;exact⟨rfl,by rw[←HMD.o];exact WF3.o,GF3.o⟩
     | true=>
      cases h2:redA TB fr with
      | false=>
       have HNR:=Z h1;have HFR:=Z h2;rw[h1,h2,if_neg (by simp),if_pos rfl]at hmd;have N0:=Z (wG h1);clear h1 h2;have LC:=Z (show(zG (zG TB false nr) true bv).ns.length=TB.ns.length by rw[zF,zF]);have OC:=Z ((OB.o.zT false nr NN.o).zT true bv (by rw[zF];exact BN.o));have KC:=Z (show kidA (zG (zG TB false nr) true bv) bv true=nr by rw[zS _ _ _ _ _ (by rw[zF];exact BN.o),zS _ _ _ _ _ NN.o];exact NE.o);have L1:=Z (zF TB false nr);go_upto_region 13 with(first
        | (go_at_call 88;first|(with_reducible refine((KI.o _ WB.o).1).mono ?_;rintro e wq ⟨rfl,rfl⟩)|(with_reducible refine((KI.o _ WB.o).2).mono ?_;rintro e wq ⟨rfl,rfl⟩))
        | (go_at_call_of 79 (Value.int IntKind.i64 nr);refine(yD WB.o nr NN.o _ HNR.o).mono ?_;rintro e wq ⟨rfl,rfl⟩)
        | (go_at_call_of 79 (Value.int IntKind.i64 fr);refine(yD WB.o fr FN.o _ HFR.o).mono ?_;rintro e wq ⟨rfl,rfl⟩)
        | (go_at_call 82;refine(xA WB.o false nr (by have:=B0.o;have:=BN.o;omega) NN.o).mono ?_;rintro e wq ⟨rfl,hWq,hGq⟩;have W7:=Z hWq;have G7:=Z (GB.o.trans hGq);clear hWq hGq))
       go_upto_region 14 with(go_at_call 82;refine(xA W7.o true bv (by rw[L1.o];have:=B0.o;have:=BN.o;omega) (by rw[L1.o];exact BN.o)).mono ?_;rintro e wq ⟨rfl,hWq,hGq⟩;have W8:=Z hWq;have G8:=Z (G7.o.trans hGq);clear hWq hGq);generalize zG (zG TB false nr) true bv=TC at W8 LC OC KC hmd;have LD:=Z (show(yM TC bv false).ns.length=t.ns.length by rw[xD,LC.o,LB.o,HN.o]);have OD:=Z (OC.o.turn bv false (by rw[LC.o];exact BN.o));go_upto_region 16 with(go_at_call 122;refine(qB W8.o OC.o bv B0.o (by rw[LC.o];exact BN.o) false (by show 0≤kidA TC bv true;rw[KC.o];exact N0.o) 0 rfl).mono ?_;rintro e wq ⟨rfl,hWq,hGq⟩;have WD:=Z hWq;have GD:=Z (G8.o.trans hGq);clear hWq hGq);generalize yM TC bv false=TD at WD LD OD hmd;have LDT:=Z (show TD.ns.length=T.ns.length by rw[LD.o,HN.o]);have BD:=Z (show bv<(TD.ns.length:Int)by rw[LDT.o,←LB.o];exact BN.o);have ND:=Z (show nr<(TD.ns.length:Int)by rw[LDT.o,←LB.o];exact NN.o);rw[xN,show(!true)=false from rfl]at hmd;by_cases hge:kidA TD p false=nr∧kidA TD nr false=bv;rotate_left
       ·rw[if_neg hge]at hmd;cases hmd
       rw[if_pos hge]at hmd;have HE1:=Z hge.1;clear hge;have PL1:=Z (zF TD (redA TD p) nr);have PO1:=Z (OD.o.zT (redA TD p) nr ND.o);have PK1:=Z (zS TD (redA TD p) nr p false ND.o);obtain⟨rp,hrp⟩:∃rp,rp=redA TD p:=⟨_,rfl⟩;rw[←hrp]at hmd PL1 PO1 PK1;have HRP:=Z hrp.symm;clear hrp;go_upto_region 17 with(fail)
       go_region_with (first
        | (go_at_call 79;refine(yD (by first|exact WD.o.drew|exact(WD.o.alloc _).drew) p (by rw[LDT.o];exact HP.o) rp HRP.o).mono ?_;rintro e wr ⟨rfl,rfl⟩)
        | (go_at_call 82;refine(qD WD.o rp nr (by have:=HP.o;have:=P0.o;have:=LDT.o;omega) ND.o).mono ?_;rintro e wq ⟨rfl,hWq,hGq⟩;have WF1:=Z hWq;have GF1:=Z (GD.o.trans hGq);clear hWq hGq))
       all_goals
        generalize zG TD rp nr=TF1 at WF1 PL1 PO1 PK1 hmd;have PO2:=Z ((PO1.o.zT false p (by rw[PL1.o,LDT.o];exact HP.o)).zT false bv (by rw[zF,PL1.o];exact BD.o));have PL2:=Z (show(zG (zG TF1 false p) false bv).ns.length=TF1.ns.length by rw[zF,zF]);have PK2:=Z (show kidA (zG (zG TF1 false p) false bv) p false=kidA TF1 p false by rw[zS _ _ _ _ _ (by rw[zF,PL1.o];exact BD.o),zS _ _ _ _ _ (by rw[PL1.o,LDT.o];exact HP.o)]);have HMD:=Z (Option.some.inj hmd);clear hmd;go_upto_region 18 with(go_at_call 82;refine(jB WF1.o false p bv (by have:=HP.o;have:=P0.o;have:=LDT.o;have:=PL1.o;omega) (by rw[PL1.o,LDT.o];exact HP.o) (by rw[PL1.o];exact BD.o)).mono ?_;rintro e wq ⟨rfl,hWq,hGq⟩;have WF2:=Z hWq;have GF2:=Z (GF1.o.trans hGq);clear hWq hGq);generalize zG (zG TF1 false p) false bv=TF2 at WF2 PL2 PO2 PK2 HMD;have HK8:=Z (show 0≤kidA TF2 p (!true)by show 0≤kidA TF2 p false;rw[PK2.o,PK1.o,HE1.o];exact N0.o);have HK9:=Z (show p<(TF2.ns.length:Int)by rw[PL2.o,PL1.o,LDT.o];exact HP.o);go_wp2_with (go_at_call 122;refine(qB WF2.o PO2.o p P0.o HK9.o true HK8.o 1 rfl).mono ?_;rintro e wq ⟨rfl,hWq,hGq⟩;have WF3:=Z hWq;have GF3:=Z (GF2.o.trans hGq);clear hWq hGq);refine bodyPost_ret (results_none rfl _ _ _) rfl ?_;exact⟨rfl,by rw[←HMD.o];exact WF3.o,GF3.o⟩
      | true=>
       have HNR:=Z h1;have HFR:=Z h2;rw[h1,h2,if_neg (by simp),if_neg (by simp)]at hmd;clear h1 h2;go_upto_region 16 with(first
        | (go_at_call 88;first|(with_reducible refine((KI.o _ WB.o).1).mono ?_;rintro e wq ⟨rfl,rfl⟩)|(with_reducible refine((KI.o _ WB.o).2).mono ?_;rintro e wq ⟨rfl,rfl⟩))
        | (go_at_call_of 79 (Value.int IntKind.i64 nr);refine(yD WB.o nr NN.o _ HNR.o).mono ?_;rintro e wq ⟨rfl,rfl⟩)
        | (go_at_call_of 79 (Value.int IntKind.i64 fr);refine(yD WB.o fr FN.o _ HFR.o).mono ?_;rintro e wq ⟨rfl,rfl⟩))
       rw[xN,show(!true)=false from rfl]at hmd;by_cases hge:kidA TB p false=bv∧kidA TB bv false=fr;rotate_left
       ·rw[if_neg hge]at hmd;cases hmd
       rw[if_pos hge]at hmd;have HE1:=Z hge.1;clear hge;have PL1:=Z (zF TB (redA TB p) bv);have PO1:=Z (OB.o.zT (redA TB p) bv BN.o);have PK1:=Z (zS TB (redA TB p) bv p false BN.o);obtain⟨rp,hrp⟩:∃rp,rp=redA TB p:=⟨_,rfl⟩;rw[←hrp]at hmd PL1 PO1 PK1;have HRP:=Z hrp.symm;clear hrp;go_upto_region 17 with(fail)
       go_region_with (first
        | (go_at_call 79;refine(yD (by first|exact WB.o.drew|exact(WB.o.alloc _).drew) p (by rw[LB.o];exact HP.o) rp HRP.o).mono ?_;rintro e wr ⟨rfl,rfl⟩)
        | (go_at_call 82;refine(qD WB.o rp bv (by have:=HP.o;have:=P0.o;have:=LB.o;omega) BN.o).mono ?_;rintro e wq ⟨rfl,hWq,hGq⟩;have WF1:=Z hWq;have GF1:=Z (GB.o.trans hGq);clear hWq hGq))
       all_goals
        generalize zG TB rp bv=TF1 at WF1 PL1 PO1 PK1 hmd;have PO2:=Z ((PO1.o.zT false p (by rw[PL1.o,LB.o];exact HP.o)).zT false fr (by rw[zF,PL1.o];exact FN.o));have PL2:=Z (show(zG (zG TF1 false p) false fr).ns.length=TF1.ns.length by rw[zF,zF]);have PK2:=Z (show kidA (zG (zG TF1 false p) false fr) p false=kidA TF1 p false by rw[zS _ _ _ _ _ (by rw[zF,PL1.o];exact FN.o),zS _ _ _ _ _ (by rw[PL1.o,LB.o];exact HP.o)]);have HMD:=Z (Option.some.inj hmd);clear hmd;go_upto_region 18 with(go_at_call 82;refine(jB WF1.o false p fr (by have:=HP.o;have:=P0.o;have:=LB.o;have:=PL1.o;omega) (by rw[PL1.o,LB.o];exact HP.o) (by rw[PL1.o];exact FN.o)).mono ?_;rintro e wq ⟨rfl,hWq,hGq⟩;have WF2:=Z hWq;have GF2:=Z (GF1.o.trans hGq);clear hWq hGq);generalize zG (zG TF1 false p) false fr=TF2 at WF2 PL2 PO2 PK2 HMD;have HK8:=Z (show 0≤kidA TF2 p (!true)by show 0≤kidA TF2 p false;rw[PK2.o,PK1.o,HE1.o];exact B0.o);have HK9:=Z (show p<(TF2.ns.length:Int)by rw[PL2.o,PL1.o,LB.o];exact HP.o);go_wp2_with (go_at_call 122;refine(qB WF2.o PO2.o p P0.o HK9.o true HK8.o 1 rfl).mono ?_;rintro e wq ⟨rfl,hWq,hGq⟩;have WF3:=Z hWq;have GF3:=Z (GF2.o.trans hGq);clear hWq hGq);refine bodyPost_ret (results_none rfl _ _ _) rfl ?_;exact⟨rfl,by rw[←HMD.o];exact WF3.o,GF3.o⟩
end Go.Proofs.YtnkhnnojdlgfjaaGreatDoor.Tm
