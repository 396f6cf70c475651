/- Parts of the proof, joined: RW. -/
import Derived.Test.YtnkhnnojdlgfjaaGreatDoorUI9
set_option linter.unusedVariables false
set_option linter.unusedSimpArgs false
set_option maxHeartbeats 32000000
set_option maxRecDepth 100000
namespace Go.Proofs.YtnkhnnojdlgfjaaGreatDoor.RW
open RowKit PA PB PC
attribute [local go_sem] max2_int min2_int max_two min_two zbm zbl max_four min_four   -- for this text's walks alone
def turnspitref03_Lag.f (a0:Int) (a1:Int):Option (Int):=if (IntKind.u64.wrap (a0-a1))<9223372036854775808 then (some (wrap64 (IntKind.u64.wrap (a0-a1))))else (some (wrap64 ((-1)-(wrap64 (IntKind.u64.wrap (18446744073709551615-(IntKind.u64.wrap (a0-a1))))))))
theorem turnspitref03_Lag.calls (a0:Int) (a1:Int) (r:Int) (w:World) (hT:Tm.Emp w) (h:turnspitref03_Lag.f a0 a1=some r) :
  Calls Tryz.prog 66 #[.int .u64 a0,.int .u64 a1] w fun e w'=>e=.returned (.int .i64 r)∧zI w w':=by
 have H:(if (IntKind.u64.wrap (a0-a1))<9223372036854775808 then (some (wrap64 (IntKind.u64.wrap (a0-a1))))else (some (wrap64 ((-1)-(wrap64 (IntKind.u64.wrap (18446744073709551615-(IntKind.u64.wrap (a0-a1)))))))))=some r:=h;clear h;by_cases c3:(IntKind.u64.wrap (a0-a1))<9223372036854775808
 ·rw[if_pos c3]at H;have c3b0:decide ((IntKind.u64.wrap (a0-a1))<9223372036854775808)=true:=decide_eq_true c3;clear c3;obtain rfl:=Option.some.inj H;go_enter Tryz.func66,Tryz.ntmps66;go_wp2;go_ret;exact⟨by first|rfl|(simp;done)|(simp[*];done),by repeat (first|exact zI.refl _|apply zI.step)⟩
 rw[if_neg c3]at H;have c3b0:decide ((IntKind.u64.wrap (a0-a1))<9223372036854775808)=false:=decide_eq_false c3;clear c3;obtain rfl:=Option.some.inj H;go_enter Tryz.func66,Tryz.ntmps66;go_wp2;go_ret;exact⟨by first|rfl|(simp;done)|(simp[*];done),by repeat (first|exact zI.refl _|apply zI.step)⟩
def turnspitref03_At.f (a0:Int) (a1:Int):Option (Int):=some (IntKind.u64.wrap (a0+(IntKind.u64.wrap (a1))))
theorem turnspitref03_At.calls (a0:Int) (a1:Int) (r:Int) (w:World) (hT:Tm.Emp w) (h:turnspitref03_At.f a0 a1=some r) :
  Calls Tryz.prog 92 #[.int .u64 a0,.int .i64 a1] w fun e w'=>e=.returned (.int .u64 r)∧zI w w':=by
 have H:(some (IntKind.u64.wrap (a0+(IntKind.u64.wrap (a1)))))=some r:=h;clear h;obtain rfl:=Option.some.inj H;go_enter Tryz.func92,Tryz.ntmps92;go_wp2;go_ret;exact⟨by first|rfl|(simp;done)|(simp[*];done),by repeat (first|exact zI.refl _|apply zI.step)⟩
def turnspitref03_Clamp.f (a0:Int) (a1:Int) (a2:Int):Option (Int):=if a0<a1 then (some a1)else (if a0 > a2 then (some a2)else (some a0))
theorem turnspitref03_Clamp.calls (a0:Int) (a1:Int) (a2:Int) (r:Int) (w:World) (hT:Tm.Emp w) (h:turnspitref03_Clamp.f a0 a1 a2=some r) :
  Calls Tryz.prog 93 #[.int .i64 a0,.int .i64 a1,.int .i64 a2] w fun e w'=>e=.returned (.int .i64 r)∧zI w w':=by
 have H:(if a0<a1 then (some a1)else (if a0 > a2 then (some a2)else (some a0)))=some r:=h;clear h;by_cases c4:a0<a1
 ·rw[if_pos c4]at H;have c4b0:decide (a0<a1)=true:=decide_eq_true c4;clear c4;obtain rfl:=Option.some.inj H;go_enter Tryz.func93,Tryz.ntmps93;go_wp2;go_ret;exact⟨by first|rfl|(simp;done)|(simp[*];done),by repeat (first|exact zI.refl _|apply zI.step)⟩
 rw[if_neg c4]at H;have c4b0:decide (a0<a1)=false:=decide_eq_false c4;clear c4;by_cases c5:a0 > a2
 ·rw[if_pos c5]at H;have c5b0:decide (a2<a0)=true:=decide_eq_true c5;clear c5;obtain rfl:=Option.some.inj H;go_enter Tryz.func93,Tryz.ntmps93;go_wp2;go_ret;exact⟨by first|rfl|(simp;done)|(simp[*];done),by repeat (first|exact zI.refl _|apply zI.step)⟩
 rw[if_neg c5]at H;have c5b0:decide (a2<a0)=false:=decide_eq_false c5;clear c5;obtain rfl:=Option.some.inj H;go_enter Tryz.func93,Tryz.ntmps93;go_wp2;go_ret;exact⟨by first|rfl|(simp;done)|(simp[*];done),by repeat (first|exact zI.refl _|apply zI.step)⟩
def turnspitref03_Before.f (a0:Int) (a1:Int):Option (Bool):=if (IntKind.u64.wrap (a1-a0))≥1 then (some (decide ((IntKind.u64.wrap (a1-a0))≤9223372036854775807)))else (some false)
theorem turnspitref03_Before.calls (a0:Int) (a1:Int) (r:Bool) (w:World) (hT:Tm.Emp w) (h:turnspitref03_Before.f a0 a1=some r) :
  Calls Tryz.prog 145 #[.int .u64 a0,.int .u64 a1] w fun e w'=>e=.returned (.bool r)∧zI w w':=by
 have H:(if (IntKind.u64.wrap (a1-a0))≥1 then (some (decide ((IntKind.u64.wrap (a1-a0))≤9223372036854775807)))else (some false))=some r:=h;clear h;by_cases c3:(IntKind.u64.wrap (a1-a0))≥1
 ·rw[if_pos c3]at H;have c3b0:decide (1≤(IntKind.u64.wrap (a1-a0)))=true:=decide_eq_true c3;clear c3;obtain rfl:=Option.some.inj H;go_enter Tryz.func145,Tryz.ntmps145;go_wp2;go_ret;exact⟨by first|rfl|(simp;done)|(simp[*];done),by repeat (first|exact zI.refl _|apply zI.step)⟩
 rw[if_neg c3]at H;have c3b0:decide (1≤(IntKind.u64.wrap (a1-a0)))=false:=decide_eq_false c3;clear c3;obtain rfl:=Option.some.inj H;go_enter Tryz.func145,Tryz.ntmps145;go_wp2;go_ret;exact⟨by first|rfl|(simp;done)|(simp[*];done),by repeat (first|exact zI.refl _|apply zI.step)⟩
def turnspitref03_Later.f (a0:Int) (a1:Int):Option (Int):=(turnspitref03_Before.f a0 a1).bind fun t579=>(if t579=true then (some a1)else (some a0))
theorem turnspitref03_Later.calls (a0:Int) (a1:Int) (r:Int) (w:World) (hT:Tm.Emp w) (h:turnspitref03_Later.f a0 a1=some r) :
  Calls Tryz.prog 133 #[.int .u64 a0,.int .u64 a1] w fun e w'=>e=.returned (.int .u64 r)∧zI w w':=by
 have H:((turnspitref03_Before.f a0 a1).bind fun t579=>(if t579=true then (some a1)else (some a0)))=some r:=h;clear h;replace H:=Option.bind_eq_some_iff.mp H;obtain⟨t579,A30,H⟩:=H;replace H:(if t579=true then (some a1)else (some a0))=some r:=H;have A3:=Z A30;clear A30;by_cases c4:t579=true
 ·subst c4;have H1:(some a1)=some r:=by first|(rw[if_pos rfl]at H;exact H)|(rw[if_pos trivial]at H;exact H)
  clear H;have H:=H1;clear H1;obtain rfl:=Option.some.inj H;go_enter Tryz.func133,Tryz.ntmps133;go_wp2_with (first|((with_reducible refine zV (f:=145) rfl ?_);refine yZ (some 7) rfl rfl Tryz.func145 (by kernel_rfl) rfl #[.int .u64 a0,.int .u64 a1] rfl (by(try simp only[List.map_toArray,List.map_cons,List.map_nil]);first|done|rfl|(simp only[List.length_drop,List.length_take];rfl)) ?_;(with_reducible refine(turnspitref03_Before.calls a0 a1 true _ (by first|exact hT|((repeat (first|exact hT|apply Tm.Emp.drewN|apply Tm.Emp.drew));done)|exact Tm.Emp.below hT (by repeat (first|(with_reducible first|exact HB.o|apply zB|apply zL|apply zZ|refine yX ?_ (zA.o (by assumption)))|exact HB.o))) A3.o).mono ?_);rintro e w' ⟨rfl,⟨nd,rfl⟩⟩;refine⟨_,rfl,?_⟩));go_ret;exact⟨by first|rfl|(simp;done)|(simp[*];done),by repeat (first|exact zI.refl _|apply zI.step)⟩
 replace c4:=Bool.eq_false_iff.mpr c4;subst c4;have H1:(some a0)=some r:=by first|(rw[if_neg (show ¬(false=true)by decide)]at H;exact H)|(rw[if_neg (fun h=>h)]at H;exact H)
 clear H;have H:=H1;clear H1;obtain rfl:=Option.some.inj H;go_enter Tryz.func133,Tryz.ntmps133;go_wp2_with (first|((with_reducible refine zV (f:=145) rfl ?_);refine yZ (some 7) rfl rfl Tryz.func145 (by kernel_rfl) rfl #[.int .u64 a0,.int .u64 a1] rfl (by(try simp only[List.map_toArray,List.map_cons,List.map_nil]);first|done|rfl|(simp only[List.length_drop,List.length_take];rfl)) ?_;(with_reducible refine(turnspitref03_Before.calls a0 a1 false _ (by first|exact hT|((repeat (first|exact hT|apply Tm.Emp.drewN|apply Tm.Emp.drew));done)|exact Tm.Emp.below hT (by repeat (first|(with_reducible first|exact HB.o|apply zB|apply zL|apply zZ|refine yX ?_ (zA.o (by assumption)))|exact HB.o))) A3.o).mono ?_);rintro e w' ⟨rfl,⟨nd,rfl⟩⟩;refine⟨_,rfl,?_⟩));go_ret;exact⟨by first|rfl|(simp;done)|(simp[*];done),by repeat (first|exact zI.refl _|apply zI.step)⟩
def turnspitref01_double.f (a0:Int) (a1:Int) (a2:Int):Option (Int × Int):=some (IntKind.u64.wrap ((IntKind.u64.wrap (a0*2))+(IntKind.u64.wrap (Int.tdiv a1 9223372036854775808))),IntKind.u64.wrap ((IntKind.u64.wrap (a1*2))+a2))
theorem turnspitref01_double.calls (a0:Int) (a1:Int) (a2:Int) (r1:Int) (r2:Int) (w:World) (hT:Tm.Emp w) (h:turnspitref01_double.f a0 a1 a2=some (r1,r2)) :
  Calls Tryz.prog 155 #[.int .u64 a0,.int .u64 a1,.int .u64 a2] w fun e w'=>e=.returned (.tuple #[.int .u64 r1,.int .u64 r2])∧zI w w':=by
 have H:(some (IntKind.u64.wrap ((IntKind.u64.wrap (a0*2))+(IntKind.u64.wrap (Int.tdiv a1 9223372036854775808))),IntKind.u64.wrap ((IntKind.u64.wrap (a1*2))+a2)))=some (r1,r2):=h;clear h;simp only[Option.some.injEq,Prod.mk.injEq]at H;obtain⟨rfl,rfl⟩:=H;go_enter Tryz.func155,Tryz.ntmps155;go_wp2
 go_ret2
 exact⟨by first|rfl|(simp;done)|(simp[*];done),by repeat (first|exact zI.refl _|apply zI.step)⟩
def turnspitref01_Add.f (a0:Int) (a1:Int) (a2:Int):Option (Int × Int):=if (IntKind.u64.wrap (a1+a2))<a1 then (some (IntKind.u64.wrap (a0+1),IntKind.u64.wrap (a1+a2)))else (some (a0,IntKind.u64.wrap (a1+a2)))
theorem turnspitref01_Add.calls (a0:Int) (a1:Int) (a2:Int) (r1:Int) (r2:Int) (w:World) (hT:Tm.Emp w) (h:turnspitref01_Add.f a0 a1 a2=some (r1,r2)) :
  Calls Tryz.prog 156 #[.int .u64 a0,.int .u64 a1,.int .u64 a2] w fun e w'=>e=.returned (.tuple #[.int .u64 r1,.int .u64 r2])∧zI w w':=by
 have H:(if (IntKind.u64.wrap (a1+a2))<a1 then (some (IntKind.u64.wrap (a0+1),IntKind.u64.wrap (a1+a2)))else (some (a0,IntKind.u64.wrap (a1+a2))))=some (r1,r2):=h;clear h;by_cases c4:(IntKind.u64.wrap (a1+a2))<a1
 ·rw[if_pos c4]at H;have c4b0:decide ((IntKind.u64.wrap (a1+a2))<a1)=true:=decide_eq_true c4;clear c4;simp only[Option.some.injEq,Prod.mk.injEq]at H;obtain⟨rfl,rfl⟩:=H;go_enter Tryz.func156,Tryz.ntmps156;go_wp2
  go_ret2
  exact⟨by first|rfl|(simp;done)|(simp[*];done),by repeat (first|exact zI.refl _|apply zI.step)⟩
 rw[if_neg c4]at H;have c4b0:decide ((IntKind.u64.wrap (a1+a2))<a1)=false:=decide_eq_false c4;clear c4;simp only[Option.some.injEq,Prod.mk.injEq]at H;obtain⟨rfl,rfl⟩:=H;go_enter Tryz.func156,Tryz.ntmps156;go_wp2
 go_ret2
 exact⟨by first|rfl|(simp;done)|(simp[*];done),by repeat (first|exact zI.refl _|apply zI.step)⟩
def turnspitref01_Mul.l0:Nat→Int→Int→Int→Int→Int→Option (Int × Int)
 | 0,_,_,_,_,_=>none
 | k+1,x0,x1,x6,x7,x8=>if x8≥0 then ((turnspitref01_double.f x6 x7 0).bind fun bt604=>(if 0≤x8 then (if (Int.tmod (shr .u64 x0 x8) 2)=1 then ((turnspitref01_Add.f bt604.1 bt604.2 x1).bind fun bt606=>(turnspitref01_Mul.l0 k x0 x1 bt606.1 bt606.2 (wrap64 (x8-1))))else (turnspitref01_Mul.l0 k x0 x1 bt604.1 bt604.2 (wrap64 (x8-1))))else (none)))else (some (x6,x7))
def turnspitref01_Mul.f (k:Nat) (a0:Int) (a1:Int):Option (Int × Int):=turnspitref01_Mul.l0 k a0 a1 0 0 63
theorem turnspitref01_Mul.mono_l:∀k,(∀y0 y1 y2 y3 y4,LeO (turnspitref01_Mul.l0 k y0 y1 y2 y3 y4) (turnspitref01_Mul.l0 (k+1) y0 y1 y2 y3 y4))
 | 0=>fun _ _ _ _ _ r h=>by simp[turnspitref01_Mul.l0]at h
 | k+1=>by
  have ih0:=turnspitref01_Mul.mono_l k
  ·intro y0 y1 y2 y3 y4;unfold turnspitref01_Mul.l0
   repeat' first
   | (with_reducible exact ih0 _ _ _ _ _)
   | (with_reducible exact LeO.refl _)
   | (with_reducible exact LeO.none _)
   | (with_reducible refine LeO.ite ?_ ?_)
   | (with_reducible refine LeO.bind ?_ (fun _=>?_))
   | exact ih0 _ _ _ _ _
   | exact LeO.none _
   | refine LeO.ite ?_ ?_
   | refine LeO.bind ?_ (fun _=>?_)
theorem turnspitref01_Mul.mono:∀a0 a1 k,LeO (turnspitref01_Mul.f k a0 a1) (turnspitref01_Mul.f (k+1) a0 a1):=by
 intro a0 a1 k;have ih0:=turnspitref01_Mul.mono_l k;unfold turnspitref01_Mul.f
 repeat' first
   | (with_reducible exact ih0 _ _ _ _ _)
   | (with_reducible exact LeO.refl _)
   | (with_reducible exact LeO.none _)
   | (with_reducible refine LeO.ite ?_ ?_)
   | (with_reducible refine LeO.bind ?_ (fun _=>?_))
   | exact ih0 _ _ _ _ _
   | exact LeO.none _
   | refine LeO.ite ?_ ?_
   | refine LeO.bind ?_ (fun _=>?_)
theorem turnspitref01_Mul.calls (k:Nat) (a0:Int) (a1:Int) (r1:Int) (r2:Int) (w:World) (hT:Tm.Emp w) (h:turnspitref01_Mul.f k a0 a1=some (r1,r2)) :
  Calls Tryz.prog 146 #[.int .u64 a0,.int .u64 a1] w fun e w'=>e=.returned (.tuple #[.int .u64 r1,.int .u64 r2])∧zI w w':=by
 have H:(turnspitref01_Mul.l0 k a0 a1 0 0 63)=some (r1,r2):=h;clear h;have H':=Z H;clear H;go_enter Tryz.func146,Tryz.ntmps146;go_wp2
 go_loopg [6,7,8] k (fun kq v6 v7 v8 w'=>∃(x6_1:Int) (x7_1:Int) (x8_1:Int),v6=.int .u64 x6_1∧v7=.int .u64 x7_1∧v8=.int .i64 x8_1∧zA (turnspitref01_Mul.l0 kq a0 a1 x6_1 x7_1 x8_1=some (r1,r2))∧zA (kq≤k)∧zI w w')
 case atStart=>exact⟨(0),(0),(63),(by first|rfl|(simp;done)|(simp[*];done)),(by first|rfl|(simp;done)|(simp[*];done)),(by first|rfl|(simp;done)|(simp[*];done)),H',⟨Nat.le_refl _⟩,by repeat (first|exact zI.refl _|apply zI.step)⟩
 case round=>
  clear H';(try clear c1);(try clear p2)
  obtain⟨x6_1,x7_1,x8_1,rfl,rfl,rfl,HA,HK1,⟨m1,rfl⟩⟩:=hrel;cases gk with
  | zero=>exact absurd HA.o (by simp[turnspitref01_Mul.l0])
  | succ k1=>
   have H:=HA.o;clear HA;simp only[turnspitref01_Mul.l0]at H;by_cases c3:x8_1≥0;rotate_left
   ·rw[if_neg c3]at H;have c3b0:decide (0≤x8_1)=false:=decide_eq_false c3;clear c3;simp only[Option.some.injEq,Prod.mk.injEq]at H;obtain⟨rfl,rfl⟩:=H;go_wp2
    go_ret2
    exact⟨by first|rfl|(simp;done)|(simp[*];done),by repeat (first|exact zI.refl _|apply zI.step)⟩
   rw[if_pos c3]at H;have c3b0:decide (0≤x8_1)=true:=decide_eq_true c3;clear c3;replace H:=Option.bind_eq_some_iff.mp H;obtain⟨⟨t604,t605⟩,A40,H⟩:=H;replace H:(if 0≤x8_1 then (if (Int.tmod (shr .u64 a0 x8_1) 2)=1 then ((turnspitref01_Add.f t604 t605 a1).bind fun bt606=>(turnspitref01_Mul.l0 k1 a0 a1 bt606.1 bt606.2 (wrap64 (x8_1-1))))else (turnspitref01_Mul.l0 k1 a0 a1 t604 t605 (wrap64 (x8_1-1))))else (none))=some (r1,r2):=H;have A4:=Z A40;clear A40;by_cases c5:0≤x8_1;rotate_left
   ·rw[if_neg c5]at H;exact absurd H (by simp)
   rw[if_pos c5]at H;have c5b0:=eq_true c5;have c5b1:decide (0≤x8_1)=true:=decide_eq_true c5;clear c5;obtain⟨ji6,hji6⟩:∃j_:Int,(shr .u64 a0 x8_1)=j_:=⟨_,rfl⟩;replace H:(if (Int.tmod (ji6) 2)=1 then ((turnspitref01_Add.f t604 t605 a1).bind fun bt606=>(turnspitref01_Mul.l0 k1 a0 a1 bt606.1 bt606.2 (wrap64 (x8_1-1))))else (turnspitref01_Mul.l0 k1 a0 a1 t604 t605 (wrap64 (x8_1-1))))=some (r1,r2):=by first|(rw[hji6]at H;exact H)|(simp only[hji6]at H⊢;exact H)
   (try rw[hji6]at A4)
   have hji6_:(a0 / 2 ^ min x8_1.toNat 64)=ji6:=hji6;have hji6z:x8_1≤64→(a0 / 2 ^ x8_1.toNat)=ji6:=shr_small hji6;by_cases c7:(Int.tmod (ji6) 2)=1;rotate_left
   ·rw[if_neg c7]at H;have c7b0:((Int.tmod (ji6) 2)==1)=false:=beq_eq_false_iff_ne.mpr c7;have c7b1:((Int.tmod (ji6) 2) != 1)=true:=bne_iff_ne.mpr c7;have H':=Z H;clear H;go_wp2_with (first|((with_reducible refine zV (f:=155) rfl ?_);refine yZ (some 20) rfl rfl Tryz.func155 (by kernel_rfl) rfl #[.int .u64 x6_1,.int .u64 x7_1,.int .u64 0] rfl (by(try simp only[List.map_toArray,List.map_cons,List.map_nil]);first|done|rfl|(simp only[List.length_drop,List.length_take];rfl)) ?_;(with_reducible refine(turnspitref01_double.calls x6_1 x7_1 0 t604 t605 _ (by first|exact hT|((repeat (first|exact hT|apply Tm.Emp.drewN|apply Tm.Emp.drew));done)|exact Tm.Emp.below hT (by repeat (first|(with_reducible first|exact HB.o|apply zB|apply zL|apply zZ|refine yX ?_ (zA.o (by assumption)))|exact HB.o))) A4.o).mono ?_);rintro e w' ⟨rfl,⟨nd,rfl⟩⟩;refine⟨_,rfl,?_⟩))
    go_roundg k1
    case measure=>have:=HK1.o;omega
    case rel=>exact⟨(t604),(t605),(wrap64 (x8_1-1)),(by first|rfl|(simp;done)|(simp[*];done)),(by first|rfl|(simp;done)|(simp[*];done)),(by first|rfl|(simp;done)|(simp[*];done)),H',⟨by have:=HK1.o;omega⟩,by repeat (first|exact zI.refl _|apply zI.step)⟩
   rw[if_pos c7]at H;have c7b0:((Int.tmod (ji6) 2)==1)=true:=beq_iff_eq.mpr c7;have c7b1:((Int.tmod (ji6) 2) != 1)=false:=bne_eq_false_iff_eq.mpr c7;clear c7;replace H:=Option.bind_eq_some_iff.mp H;obtain⟨⟨t606,t607⟩,A80,H⟩:=H;replace H:(turnspitref01_Mul.l0 k1 a0 a1 t606 t607 (wrap64 (x8_1-1)))=some (r1,r2):=H;have A8:=Z A80;clear A80;have H':=Z H;clear H;go_wp2_with (first|((with_reducible refine zV (f:=155) rfl ?_);refine yZ (some 20) rfl rfl Tryz.func155 (by kernel_rfl) rfl #[.int .u64 x6_1,.int .u64 x7_1,.int .u64 0] rfl (by(try simp only[List.map_toArray,List.map_cons,List.map_nil]);first|done|rfl|(simp only[List.length_drop,List.length_take];rfl)) ?_;(with_reducible refine(turnspitref01_double.calls x6_1 x7_1 0 t604 t605 _ (by first|exact hT|((repeat (first|exact hT|apply Tm.Emp.drewN|apply Tm.Emp.drew));done)|exact Tm.Emp.below hT (by repeat (first|(with_reducible first|exact HB.o|apply zB|apply zL|apply zZ|refine yX ?_ (zA.o (by assumption)))|exact HB.o))) A4.o).mono ?_);rintro e w' ⟨rfl,⟨nd,rfl⟩⟩;refine⟨_,rfl,?_⟩)|((with_reducible refine zV (f:=156) rfl ?_);refine yZ (some 34) rfl rfl Tryz.func156 (by kernel_rfl) rfl #[.int .u64 t604,.int .u64 t605,.int .u64 a1] rfl (by(try simp only[List.map_toArray,List.map_cons,List.map_nil]);first|done|rfl|(simp only[List.length_drop,List.length_take];rfl)) ?_;(with_reducible refine(turnspitref01_Add.calls t604 t605 a1 t606 t607 _ (by first|exact hT|((repeat (first|exact hT|apply Tm.Emp.drewN|apply Tm.Emp.drew));done)|exact Tm.Emp.below hT (by repeat (first|(with_reducible first|exact HB.o|apply zB|apply zL|apply zZ|refine yX ?_ (zA.o (by assumption)))|exact HB.o))) A8.o).mono ?_);rintro e w' ⟨rfl,⟨nd,rfl⟩⟩;refine⟨_,rfl,?_⟩))
   go_roundg k1
   case measure=>have:=HK1.o;omega
   case rel=>exact⟨(t606),(t607),(wrap64 (x8_1-1)),(by first|rfl|(simp;done)|(simp[*];done)),(by first|rfl|(simp;done)|(simp[*];done)),(by first|rfl|(simp;done)|(simp[*];done)),H',⟨by have:=HK1.o;omega⟩,by repeat (first|exact zI.refl _|apply zI.step)⟩
mutual
def turnspitref01_Div.j0:Nat→Int→Int→Int→Bool→Option (Int × Int × Bool)
 | 0,_,_,_,_=>none
 | k+1,x0,x1,x2,x19=>if x19=true then (some (0,0,false))else (turnspitref01_Div.l0 k x1 x2 x0 0 63)
def turnspitref01_Div.l0:Nat→Int→Int→Int→Int→Int→Option (Int × Int × Bool)
 | 0,_,_,_,_,_=>none
 | k+1,x1,x2,x9,x10,x11=>if x11≥0 then (if 0≤x11 then (if x9≥9223372036854775808 then (turnspitref01_Div.l0 k x1 x2 (IntKind.u64.wrap ((IntKind.u64.wrap ((IntKind.u64.wrap (x9*2))+(Int.tmod (shr .u64 x1 x11) 2)))-x2)) (IntKind.u64.wrap ((IntKind.u64.wrap (x10*2))+1)) (wrap64 (x11-1)))else (if (IntKind.u64.wrap ((IntKind.u64.wrap (x9*2))+(Int.tmod (shr .u64 x1 x11) 2)))≥x2 then (turnspitref01_Div.l0 k x1 x2 (IntKind.u64.wrap ((IntKind.u64.wrap ((IntKind.u64.wrap (x9*2))+(Int.tmod (shr .u64 x1 x11) 2)))-x2)) (IntKind.u64.wrap ((IntKind.u64.wrap (x10*2))+1)) (wrap64 (x11-1)))else (turnspitref01_Div.l0 k x1 x2 (IntKind.u64.wrap ((IntKind.u64.wrap (x9*2))+(Int.tmod (shr .u64 x1 x11) 2))) (IntKind.u64.wrap (x10*2)) (wrap64 (x11-1)))))else (none))else (some (x10,x9,true))
end
def turnspitref01_Div.f (k:Nat) (a0:Int) (a1:Int) (a2:Int):Option (Int × Int × Bool):=if a2=0 then (turnspitref01_Div.j0 k a0 a1 a2 true)else (turnspitref01_Div.j0 k a0 a1 a2 (decide (a0≥a2)))
theorem turnspitref01_Div.calls (k:Nat) (a0:Int) (a1:Int) (a2:Int) (r1:Int) (r2:Int) (r3:Bool) (w:World) (hT:Tm.Emp w) (h:turnspitref01_Div.f k a0 a1 a2=some (r1,r2,r3)) :
  Calls Tryz.prog 147 #[.int .u64 a0,.int .u64 a1,.int .u64 a2] w fun e w'=>e=.returned (.tuple #[.int .u64 r1,.int .u64 r2,.bool r3])∧zI w w':=by
 have H:(if a2=0 then (turnspitref01_Div.j0 k a0 a1 a2 true)else (turnspitref01_Div.j0 k a0 a1 a2 (decide (a0≥a2))))=some (r1,r2,r3):=h;clear h;have HC4:=Z H;clear H;go_enter Tryz.func147,Tryz.ntmps147;go_upto_region 1 with(fail);go_cut [19] (fun v19 wc=>∃(kq:Nat) (x19_3:Bool),v19=.bool x19_3∧zA (turnspitref01_Div.j0 kq a0 a1 a2 x19_3=some (r1,r2,r3))∧zA (kq≤k)∧zI w wc)
 case first=>
  have H:=HC4.o;clear HC4;by_cases c5:a2=0;rotate_left
  ·rw[if_neg c5]at H;have c5b0:(a2==0)=false:=beq_eq_false_iff_ne.mpr c5;have c5b1:(a2 != 0)=true:=bne_iff_ne.mpr c5
   (first|rw[c5b0]|(simp only[yO,yP];rw[c5b0])|skip)
   have H':=Z H;clear H;go_wp2
   go_meet
   case rel=>exact⟨_,(decide (a0≥a2)),(by first|rfl|(simp;done)|(simp[*];done)),H',⟨by first|omega|exact Nat.le_refl _⟩,by repeat (first|exact zI.refl _|apply zI.step)⟩
  rw[if_pos c5]at H;have c5b0:(a2==0)=true:=beq_iff_eq.mpr c5;have c5b1:(a2 != 0)=false:=bne_eq_false_iff_eq.mpr c5;clear c5
  (first|rw[c5b0]|(simp only[yO,yP];rw[c5b0])|skip)
  have H':=Z H;clear H;go_wp2
  go_meet
  case rel=>exact⟨_,(true),(by first|rfl|(simp;done)|(simp[*];done)),H',⟨by first|omega|exact Nat.le_refl _⟩,by repeat (first|exact zI.refl _|apply zI.step)⟩
 case rest=>
  clear HC4;(try clear c1);(try clear p2);(try clear c5);(try clear c5b0);(try clear c5b1)
  obtain⟨kq,x19_3,rfl,HA,HJ3,⟨mc3,rfl⟩⟩:=hcut;cases kq with
  | zero=>exact absurd HA.o (by simp[turnspitref01_Div.j0])
  | succ kj3=>
   have H:=HA.o;clear HA;simp only[turnspitref01_Div.j0]at H;by_cases c6:x19_3=true
   ·subst c6;have H1:(some (0,0,false))=some (r1,r2,r3):=by first|(rw[if_pos rfl]at H;exact H)|(rw[if_pos trivial]at H;exact H)
    clear H;have H:=H1;clear H1;simp only[Option.some.injEq,Prod.mk.injEq]at H;obtain⟨rfl,rfl,rfl⟩:=H;go_wp2
    go_ret3
    exact⟨by first|rfl|(simp;done)|(simp[*];done),by repeat (first|exact zI.refl _|apply zI.step)⟩
   replace c6:=Bool.eq_false_iff.mpr c6;subst c6;have H1:(turnspitref01_Div.l0 kj3 a1 a2 a0 0 63)=some (r1,r2,r3):=by first|(rw[if_neg (show ¬(false=true)by decide)]at H;exact H)|(rw[if_neg (fun h=>h)]at H;exact H)
   clear H;have H:=H1;clear H1;have H':=Z H;clear H;go_wp2
   go_loopg [9,10,11] kj3 (fun kq v9 v10 v11 w'=>∃(x9_2:Int) (x10_2:Int) (x11_2:Int),v9=.int .u64 x9_2∧v10=.int .u64 x10_2∧v11=.int .i64 x11_2∧zA (turnspitref01_Div.l0 kq a1 a2 x9_2 x10_2 x11_2=some (r1,r2,r3))∧zA (kq≤kj3)∧zI w w')
   case atStart=>exact⟨(a0),(0),(63),(by first|rfl|(simp;done)|(simp[*];done)),(by first|rfl|(simp;done)|(simp[*];done)),(by first|rfl|(simp;done)|(simp[*];done)),H',⟨Nat.le_refl _⟩,by repeat (first|exact zI.refl _|apply zI.step)⟩
   case round=>
    clear H';(try clear c1);(try clear p2);(try clear c3);(try clear c5);(try clear c5b0);(try clear c5b1);(try clear c6);(try clear p2)
    obtain⟨x9_2,x10_2,x11_2,rfl,rfl,rfl,HA,HK2,⟨m2,rfl⟩⟩:=hrel;cases gk with
    | zero=>exact absurd HA.o (by simp[turnspitref01_Div.l0])
    | succ k2=>
     have H:=HA.o;clear HA;simp only[turnspitref01_Div.l0]at H;by_cases c7:x11_2≥0;rotate_left
     ·rw[if_neg c7]at H;have c7b0:decide (0≤x11_2)=false:=decide_eq_false c7;clear c7;simp only[Option.some.injEq,Prod.mk.injEq]at H;obtain⟨rfl,rfl,rfl⟩:=H;go_wp2
      go_ret3
      exact⟨by first|rfl|(simp;done)|(simp[*];done),by repeat (first|exact zI.refl _|apply zI.step)⟩
     rw[if_pos c7]at H;have c7b0:decide (0≤x11_2)=true:=decide_eq_true c7;clear c7;by_cases c8:0≤x11_2;rotate_left
     ·rw[if_neg c8]at H;exact absurd H (by simp)
     rw[if_pos c8]at H;have c8b0:=eq_true c8;have c8b1:decide (0≤x11_2)=true:=decide_eq_true c8;clear c8;obtain⟨ji9,hji9⟩:∃j_:Int,(shr .u64 a1 x11_2)=j_:=⟨_,rfl⟩;replace H:(if x9_2≥9223372036854775808 then (turnspitref01_Div.l0 k2 a1 a2 (IntKind.u64.wrap ((IntKind.u64.wrap ((IntKind.u64.wrap (x9_2*2))+(Int.tmod (ji9) 2)))-a2)) (IntKind.u64.wrap ((IntKind.u64.wrap (x10_2*2))+1)) (wrap64 (x11_2-1)))else (if (IntKind.u64.wrap ((IntKind.u64.wrap (x9_2*2))+(Int.tmod (ji9) 2)))≥a2 then (turnspitref01_Div.l0 k2 a1 a2 (IntKind.u64.wrap ((IntKind.u64.wrap ((IntKind.u64.wrap (x9_2*2))+(Int.tmod (ji9) 2)))-a2)) (IntKind.u64.wrap ((IntKind.u64.wrap (x10_2*2))+1)) (wrap64 (x11_2-1)))else (turnspitref01_Div.l0 k2 a1 a2 (IntKind.u64.wrap ((IntKind.u64.wrap (x9_2*2))+(Int.tmod (ji9) 2))) (IntKind.u64.wrap (x10_2*2)) (wrap64 (x11_2-1)))))=some (r1,r2,r3):=by first|(rw[hji9]at H;exact H)|(simp only[hji9]at H⊢;exact H)
     have hji9_:(a1 / 2 ^ min x11_2.toNat 64)=ji9:=hji9;have hji9z:x11_2≤64→(a1 / 2 ^ x11_2.toNat)=ji9:=shr_small hji9;by_cases c10:x9_2≥9223372036854775808
     ·rw[if_pos c10]at H;have c10b0:decide (9223372036854775808≤x9_2)=true:=decide_eq_true c10;clear c10;have H':=Z H;clear H;go_wp2
      go_roundg k2
      case measure=>have:=HJ3.o;have:=HK2.o;omega
      case rel=>exact⟨(IntKind.u64.wrap ((IntKind.u64.wrap ((IntKind.u64.wrap (x9_2*2))+(Int.tmod (ji9) 2)))-a2)),(IntKind.u64.wrap ((IntKind.u64.wrap (x10_2*2))+1)),(wrap64 (x11_2-1)),(by first|rfl|(simp;done)|(simp only[←hji9]<;>(first|rfl|simp))|(simp[*];done)),(by first|rfl|(simp;done)|(simp[*];done)),(by first|rfl|(simp;done)|(simp[*];done)),H',⟨by have:=HJ3.o;have:=HK2.o;omega⟩,by repeat (first|exact zI.refl _|apply zI.step)⟩
     rw[if_neg c10]at H;have c10b0:decide (9223372036854775808≤x9_2)=false:=decide_eq_false c10;clear c10;by_cases c11:(IntKind.u64.wrap ((IntKind.u64.wrap (x9_2*2))+(Int.tmod (ji9) 2)))≥a2;rotate_left
     ·rw[if_neg c11]at H;have c11b0:decide (a2≤(IntKind.u64.wrap ((IntKind.u64.wrap (x9_2*2))+(Int.tmod (ji9) 2))))=false:=decide_eq_false c11;clear c11;have H':=Z H;clear H;go_wp2
      go_roundg k2
      case measure=>have:=HJ3.o;have:=HK2.o;omega
      case rel=>exact⟨(IntKind.u64.wrap ((IntKind.u64.wrap (x9_2*2))+(Int.tmod (ji9) 2))),(IntKind.u64.wrap (x10_2*2)),(wrap64 (x11_2-1)),(by first|rfl|(simp;done)|(simp only[←hji9]<;>(first|rfl|simp))|(simp[*];done)),(by first|rfl|(simp;done)|(simp[*];done)),(by first|rfl|(simp;done)|(simp[*];done)),H',⟨by have:=HJ3.o;have:=HK2.o;omega⟩,by repeat (first|exact zI.refl _|apply zI.step)⟩
     rw[if_pos c11]at H;have c11b0:decide (a2≤(IntKind.u64.wrap ((IntKind.u64.wrap (x9_2*2))+(Int.tmod (ji9) 2))))=true:=decide_eq_true c11;clear c11;have H':=Z H;clear H;go_wp2
     go_roundg k2
     case measure=>have:=HJ3.o;have:=HK2.o;omega
     case rel=>exact⟨(IntKind.u64.wrap ((IntKind.u64.wrap ((IntKind.u64.wrap (x9_2*2))+(Int.tmod (ji9) 2)))-a2)),(IntKind.u64.wrap ((IntKind.u64.wrap (x10_2*2))+1)),(wrap64 (x11_2-1)),(by first|rfl|(simp;done)|(simp only[←hji9]<;>(first|rfl|simp))|(simp[*];done)),(by first|rfl|(simp;done)|(simp[*];done)),(by first|rfl|(simp;done)|(simp[*];done)),H',⟨by have:=HJ3.o;have:=HK2.o;omega⟩,by repeat (first|exact zI.refl _|apply zI.step)⟩
def turnspitref01_Scale.f (k:Nat) (a0:Int) (a1:Int) (a2:Int):Option (Int):=(turnspitref01_Mul.f k a0 a1).bind fun bt608=>((turnspitref01_Div.f k bt608.1 bt608.2 a2).bind fun bt610=>(if bt610.2.2=true then (some bt610.1)else (some 18446744073709551615)))
theorem turnspitref01_Scale.calls (k:Nat) (a0:Int) (a1:Int) (a2:Int) (r:Int) (w:World) (hT:Tm.Emp w) (h:turnspitref01_Scale.f k a0 a1 a2=some r) :
  Calls Tryz.prog 134 #[.int .u64 a0,.int .u64 a1,.int .u64 a2] w fun e w'=>e=.returned (.int .u64 r)∧zI w w':=by
 have H:((turnspitref01_Mul.f k a0 a1).bind fun bt608=>((turnspitref01_Div.f k bt608.1 bt608.2 a2).bind fun bt610=>(if bt610.2.2=true then (some bt610.1)else (some 18446744073709551615))))=some r:=h;clear h;replace H:=Option.bind_eq_some_iff.mp H;obtain⟨⟨t608,t609⟩,A40,H⟩:=H;replace H:((turnspitref01_Div.f k t608 t609 a2).bind fun bt610=>(if bt610.2.2=true then (some bt610.1)else (some 18446744073709551615)))=some r:=H;have A4:=Z A40;clear A40;replace H:=Option.bind_eq_some_iff.mp H;obtain⟨⟨t610,t611,t612⟩,A50,H⟩:=H;replace H:(if t612=true then (some t610)else (some 18446744073709551615))=some r:=H;have A5:=Z A50;clear A50;by_cases c6:t612=true
 ·subst c6;have H1:(some t610)=some r:=by first|(rw[if_pos rfl]at H;exact H)|(rw[if_pos trivial]at H;exact H)
  clear H;have H:=H1;clear H1;obtain rfl:=Option.some.inj H;go_enter Tryz.func134,Tryz.ntmps134;go_wp2_with (first|((with_reducible refine zV (f:=146) rfl ?_);refine yZ (some 15) rfl rfl Tryz.func146 (by kernel_rfl) rfl #[.int .u64 a0,.int .u64 a1] rfl (by(try simp only[List.map_toArray,List.map_cons,List.map_nil]);first|done|rfl|(simp only[List.length_drop,List.length_take];rfl)) ?_;(with_reducible refine(turnspitref01_Mul.calls k a0 a1 t608 t609 _ (by first|exact hT|((repeat (first|exact hT|apply Tm.Emp.drewN|apply Tm.Emp.drew));done)|exact Tm.Emp.below hT (by repeat (first|(with_reducible first|exact HB.o|apply zB|apply zL|apply zZ|refine yX ?_ (zA.o (by assumption)))|exact HB.o))) A4.o).mono ?_);rintro e w' ⟨rfl,⟨nd,rfl⟩⟩;refine⟨_,rfl,?_⟩)|((with_reducible refine zV (f:=147) rfl ?_);refine yZ (some 22) rfl rfl Tryz.func147 (by kernel_rfl) rfl #[.int .u64 t608,.int .u64 t609,.int .u64 a2] rfl (by(try simp only[List.map_toArray,List.map_cons,List.map_nil]);first|done|rfl|(simp only[List.length_drop,List.length_take];rfl)) ?_;(with_reducible refine(turnspitref01_Div.calls k t608 t609 a2 t610 t611 true _ (by first|exact hT|((repeat (first|exact hT|apply Tm.Emp.drewN|apply Tm.Emp.drew));done)|exact Tm.Emp.below hT (by repeat (first|(with_reducible first|exact HB.o|apply zB|apply zL|apply zZ|refine yX ?_ (zA.o (by assumption)))|exact HB.o))) A5.o).mono ?_);rintro e w' ⟨rfl,⟨nd,rfl⟩⟩;refine⟨_,rfl,?_⟩));go_ret;exact⟨by first|rfl|(simp;done)|(simp[*];done),by repeat (first|exact zI.refl _|apply zI.step)⟩
 replace c6:=Bool.eq_false_iff.mpr c6;subst c6;have H1:(some 18446744073709551615)=some r:=by first|(rw[if_neg (show ¬(false=true)by decide)]at H;exact H)|(rw[if_neg (fun h=>h)]at H;exact H)
 clear H;have H:=H1;clear H1;obtain rfl:=Option.some.inj H;go_enter Tryz.func134,Tryz.ntmps134;go_wp2_with (first|((with_reducible refine zV (f:=146) rfl ?_);refine yZ (some 15) rfl rfl Tryz.func146 (by kernel_rfl) rfl #[.int .u64 a0,.int .u64 a1] rfl (by(try simp only[List.map_toArray,List.map_cons,List.map_nil]);first|done|rfl|(simp only[List.length_drop,List.length_take];rfl)) ?_;(with_reducible refine(turnspitref01_Mul.calls k a0 a1 t608 t609 _ (by first|exact hT|((repeat (first|exact hT|apply Tm.Emp.drewN|apply Tm.Emp.drew));done)|exact Tm.Emp.below hT (by repeat (first|(with_reducible first|exact HB.o|apply zB|apply zL|apply zZ|refine yX ?_ (zA.o (by assumption)))|exact HB.o))) A4.o).mono ?_);rintro e w' ⟨rfl,⟨nd,rfl⟩⟩;refine⟨_,rfl,?_⟩)|((with_reducible refine zV (f:=147) rfl ?_);refine yZ (some 22) rfl rfl Tryz.func147 (by kernel_rfl) rfl #[.int .u64 t608,.int .u64 t609,.int .u64 a2] rfl (by(try simp only[List.map_toArray,List.map_cons,List.map_nil]);first|done|rfl|(simp only[List.length_drop,List.length_take];rfl)) ?_;(with_reducible refine(turnspitref01_Div.calls k t608 t609 a2 t610 t611 false _ (by first|exact hT|((repeat (first|exact hT|apply Tm.Emp.drewN|apply Tm.Emp.drew));done)|exact Tm.Emp.below hT (by repeat (first|(with_reducible first|exact HB.o|apply zB|apply zL|apply zZ|refine yX ?_ (zA.o (by assumption)))|exact HB.o))) A5.o).mono ?_);rintro e w' ⟨rfl,⟨nd,rfl⟩⟩;refine⟨_,rfl,?_⟩));go_ret;exact⟨by first|rfl|(simp;done)|(simp[*];done),by repeat (first|exact zI.refl _|apply zI.step)⟩
def turnspitref02_Delta.j0:Nat→Int→Int→Bool→Option (Int × Int)
 | 0,_,_,_=>none
 | k+1,x0,x1,x12=>if x12=true then (some (0,1))else ((turnspitref01_Scale.f k (IntKind.u64.wrap (x0)) 1024 (IntKind.u64.wrap (x1))).bind fun t613=>(if t613 > 281474976710656 then (some (281474976710656,0))else (some (wrap64 (t613),0))))
def turnspitref02_Delta.f (k:Nat) (a0:Int) (a1:Int):Option (Int × Int):=if a0<0 then (turnspitref02_Delta.j0 k a0 a1 true)else (turnspitref02_Delta.j0 k a0 a1 (decide (a1<1)))
theorem turnspitref02_Delta.calls (k:Nat) (a0:Int) (a1:Int) (r1:Int) (r2:Int) (w:World) (hT:Tm.Emp w) (h:turnspitref02_Delta.f k a0 a1=some (r1,r2)) :
  Calls Tryz.prog 101 #[.int .i64 a0,.int .i64 a1] w fun e w'=>e=.returned (.tuple #[.int .i64 r1,.int .i64 r2])∧zI w w':=by
 have H:(if a0<0 then (turnspitref02_Delta.j0 k a0 a1 true)else (turnspitref02_Delta.j0 k a0 a1 (decide (a1<1))))=some (r1,r2):=h;clear h;have HC3:=Z H;clear H;go_enter Tryz.func101,Tryz.ntmps101;go_upto_region 1 with(fail);go_cut [12] (fun v12 wc=>∃(kq:Nat) (x12_2:Bool),v12=.bool x12_2∧zA (turnspitref02_Delta.j0 kq a0 a1 x12_2=some (r1,r2))∧zA (kq≤k)∧zI w wc)
 case first=>
  have H:=HC3.o;clear HC3;by_cases c4:a0<0
  ·rw[if_pos c4]at H;have c4b0:decide (a0<0)=true:=decide_eq_true c4;clear c4
   (first|rw[c4b0]|(simp only[yO,yP];rw[c4b0])|skip)
   have H':=Z H;clear H;go_wp2
   go_meet
   case rel=>exact⟨_,(true),(by first|rfl|(simp;done)|(simp[*];done)),H',⟨by first|omega|exact Nat.le_refl _⟩,by repeat (first|exact zI.refl _|apply zI.step)⟩
  rw[if_neg c4]at H;have c4b0:decide (a0<0)=false:=decide_eq_false c4;clear c4
  (first|rw[c4b0]|(simp only[yO,yP];rw[c4b0])|skip)
  have H':=Z H;clear H;go_wp2
  go_meet
  case rel=>exact⟨_,(decide (a1<1)),(by first|rfl|(simp;done)|(simp[*];done)),H',⟨by first|omega|exact Nat.le_refl _⟩,by repeat (first|exact zI.refl _|apply zI.step)⟩
 case rest=>
  clear HC3;(try clear c1);(try clear p2);(try clear c4);(try clear c4b0)
  obtain⟨kq,x12_2,rfl,HA,HJ2,⟨mc2,rfl⟩⟩:=hcut;cases kq with
  | zero=>exact absurd HA.o (by simp[turnspitref02_Delta.j0])
  | succ kj2=>
   have H:=HA.o;clear HA;simp only[turnspitref02_Delta.j0]at H;by_cases c5:x12_2=true
   ·subst c5;have H1:(some (0,1))=some (r1,r2):=by first|(rw[if_pos rfl]at H;exact H)|(rw[if_pos trivial]at H;exact H)
    clear H;have H:=H1;clear H1;simp only[Option.some.injEq,Prod.mk.injEq]at H;obtain⟨rfl,rfl⟩:=H;go_wp2
    go_ret2
    exact⟨by first|rfl|(simp;done)|(simp[*];done),by repeat (first|exact zI.refl _|apply zI.step)⟩
   replace c5:=Bool.eq_false_iff.mpr c5;subst c5;have H1:((turnspitref01_Scale.f kj2 (IntKind.u64.wrap (a0)) 1024 (IntKind.u64.wrap (a1))).bind fun t613=>(if t613 > 281474976710656 then (some (281474976710656,0))else (some (wrap64 (t613),0))))=some (r1,r2):=by first|(rw[if_neg (show ¬(false=true)by decide)]at H;exact H)|(rw[if_neg (fun h=>h)]at H;exact H)
   clear H;have H:=H1;clear H1;replace H:=Option.bind_eq_some_iff.mp H;obtain⟨t613,A60,H⟩:=H;replace H:(if t613 > 281474976710656 then (some (281474976710656,0))else (some (wrap64 (t613),0)))=some (r1,r2):=H;have A6:=Z A60;clear A60;by_cases c7:t613 > 281474976710656
   ·rw[if_pos c7]at H;have c7b0:decide (281474976710656<t613)=true:=decide_eq_true c7;clear c7;simp only[Option.some.injEq,Prod.mk.injEq]at H;obtain⟨rfl,rfl⟩:=H;go_wp2_with (first|((with_reducible refine zV (f:=134) rfl ?_);refine yZ (some 17) rfl rfl Tryz.func134 (by kernel_rfl) rfl #[.int .u64 (IntKind.u64.wrap (a0)),.int .u64 1024,.int .u64 (IntKind.u64.wrap (a1))] rfl (by(try simp only[List.map_toArray,List.map_cons,List.map_nil]);first|done|rfl|(simp only[List.length_drop,List.length_take];rfl)) ?_;(with_reducible refine(turnspitref01_Scale.calls kj2 (IntKind.u64.wrap (a0)) 1024 (IntKind.u64.wrap (a1)) t613 _ (by first|exact hT|((repeat (first|exact hT|apply Tm.Emp.drewN|apply Tm.Emp.drew));done)|exact Tm.Emp.below hT (by repeat (first|(with_reducible first|exact HB.o|apply zB|apply zL|apply zZ|refine yX ?_ (zA.o (by assumption)))|exact HB.o))) A6.o).mono ?_);rintro e w' ⟨rfl,⟨nd,rfl⟩⟩;refine⟨_,rfl,?_⟩))
    go_ret2
    exact⟨by first|rfl|(simp;done)|(simp[*];done),by repeat (first|exact zI.refl _|apply zI.step)⟩
   rw[if_neg c7]at H;have c7b0:decide (281474976710656<t613)=false:=decide_eq_false c7;clear c7;simp only[Option.some.injEq,Prod.mk.injEq]at H;obtain⟨rfl,rfl⟩:=H;go_wp2_with (first|((with_reducible refine zV (f:=134) rfl ?_);refine yZ (some 17) rfl rfl Tryz.func134 (by kernel_rfl) rfl #[.int .u64 (IntKind.u64.wrap (a0)),.int .u64 1024,.int .u64 (IntKind.u64.wrap (a1))] rfl (by(try simp only[List.map_toArray,List.map_cons,List.map_nil]);first|done|rfl|(simp only[List.length_drop,List.length_take];rfl)) ?_;(with_reducible refine(turnspitref01_Scale.calls kj2 (IntKind.u64.wrap (a0)) 1024 (IntKind.u64.wrap (a1)) t613 _ (by first|exact hT|((repeat (first|exact hT|apply Tm.Emp.drewN|apply Tm.Emp.drew));done)|exact Tm.Emp.below hT (by repeat (first|(with_reducible first|exact HB.o|apply zB|apply zL|apply zZ|refine yX ?_ (zA.o (by assumption)))|exact HB.o))) A6.o).mono ?_);rintro e w' ⟨rfl,⟨nd,rfl⟩⟩;refine⟨_,rfl,?_⟩))
   go_ret2
   exact⟨by first|rfl|(simp;done)|(simp[*];done),by repeat (first|exact zI.refl _|apply zI.step)⟩
def turnspitref03_Step.j0:Nat→Int→Int→Int→Int→Bool→Option (Int)
 | 0,_,_,_,_,_=>none
 | k+1,x0,x1,x2,x7,x17=>if x17=true then (some x0)else (if (IntKind.u64.wrap (x2)) > (IntKind.u64.wrap (1125899906842624-(IntKind.u64.wrap (x7))))then ((turnspitref03_At.f x1 1125899906842624).bind fun t615=>(some t615))else (some (IntKind.u64.wrap (x0+(IntKind.u64.wrap (x2))))))
def turnspitref03_Step.f (k:Nat) (a0:Int) (a1:Int) (a2:Int):Option (Int):=(turnspitref03_Lag.f a0 a1).bind fun t614=>(if a2<1 then (turnspitref03_Step.j0 k a0 a1 a2 t614 true)else (turnspitref03_Step.j0 k a0 a1 a2 t614 (decide (t614≥1125899906842624))))
theorem turnspitref03_Step.calls (k:Nat) (a0:Int) (a1:Int) (a2:Int) (r:Int) (w:World) (hT:Tm.Emp w) (h:turnspitref03_Step.f k a0 a1 a2=some r) :
  Calls Tryz.prog 102 #[.int .u64 a0,.int .u64 a1,.int .i64 a2] w fun e w'=>e=.returned (.int .u64 r)∧zI w w':=by
 have H:((turnspitref03_Lag.f a0 a1).bind fun t614=>(if a2<1 then (turnspitref03_Step.j0 k a0 a1 a2 t614 true)else (turnspitref03_Step.j0 k a0 a1 a2 t614 (decide (t614≥1125899906842624)))))=some r:=h;clear h;replace H:=Option.bind_eq_some_iff.mp H;obtain⟨t614,A40,H⟩:=H;replace H:(if a2<1 then (turnspitref03_Step.j0 k a0 a1 a2 t614 true)else (turnspitref03_Step.j0 k a0 a1 a2 t614 (decide (t614≥1125899906842624))))=some r:=H;have A4:=Z A40;clear A40;have HC5:=Z H;clear H;go_enter Tryz.func102,Tryz.ntmps102;go_upto_region 2 with(first|((with_reducible refine zV (f:=66) rfl ?_);refine yZ (some 11) rfl rfl Tryz.func66 (by kernel_rfl) rfl #[.int .u64 a0,.int .u64 a1] rfl (by(try simp only[List.map_toArray,List.map_cons,List.map_nil]);first|done|rfl|(simp only[List.length_drop,List.length_take];rfl)) ?_;(with_reducible refine(turnspitref03_Lag.calls a0 a1 t614 _ (by first|exact hT|((repeat (first|exact hT|apply Tm.Emp.drewN|apply Tm.Emp.drew));done)|exact Tm.Emp.below hT (by repeat (first|(with_reducible first|exact HB.o|apply zB|apply zL|apply zZ|refine yX ?_ (zA.o (by assumption)))|exact HB.o))) A4.o).mono ?_);rintro e w' ⟨rfl,⟨nd,rfl⟩⟩;refine⟨_,rfl,?_⟩))
 (try simp only[Act.put,List.setIfInBounds_toArray,List.set_cons_zero,List.set_cons_succ])
 go_cut [17] (fun v17 wc=>∃(kq:Nat) (x17_4:Bool),v17=.bool x17_4∧zA (turnspitref03_Step.j0 kq a0 a1 a2 t614 x17_4=some r)∧zA (kq≤k)∧zI w wc)
 case first=>
  have H:=HC5.o;clear HC5;by_cases c6:a2<1
  ·rw[if_pos c6]at H;have c6b0:decide (a2<1)=true:=decide_eq_true c6;clear c6
   (first|rw[c6b0]|(simp only[yO,yP];rw[c6b0])|skip)
   have H':=Z H;clear H;go_wp2
   go_meet
   case rel=>exact⟨_,(true),(by first|rfl|(simp;done)|(simp[*];done)),H',⟨by first|omega|exact Nat.le_refl _⟩,by repeat (first|exact zI.refl _|apply zI.step)⟩
  rw[if_neg c6]at H;have c6b0:decide (a2<1)=false:=decide_eq_false c6;clear c6
  (first|rw[c6b0]|(simp only[yO,yP];rw[c6b0])|skip)
  have H':=Z H;clear H;go_wp2
  go_meet
  case rel=>exact⟨_,(decide (t614≥1125899906842624)),(by first|rfl|(simp;done)|(simp[*];done)),H',⟨by first|omega|exact Nat.le_refl _⟩,by repeat (first|exact zI.refl _|apply zI.step)⟩
 case rest=>
  clear HC5;(try clear c1);(try clear p2);(try clear c6);(try clear c6b0)
  obtain⟨kq,x17_4,rfl,HA,HJ4,⟨mc4,rfl⟩⟩:=hcut;cases kq with
  | zero=>exact absurd HA.o (by simp[turnspitref03_Step.j0])
  | succ kj4=>
   have H:=HA.o;clear HA;simp only[turnspitref03_Step.j0]at H;by_cases c7:x17_4=true
   ·subst c7;have H1:(some a0)=some r:=by first|(rw[if_pos rfl]at H;exact H)|(rw[if_pos trivial]at H;exact H)
    clear H;have H:=H1;clear H1;obtain rfl:=Option.some.inj H;go_wp2;go_ret;exact⟨by first|rfl|(simp;done)|(simp[*];done),by repeat (first|exact zI.refl _|apply zI.step)⟩
   replace c7:=Bool.eq_false_iff.mpr c7;subst c7;have H1:(if (IntKind.u64.wrap (a2)) > (IntKind.u64.wrap (1125899906842624-(IntKind.u64.wrap (t614))))then ((turnspitref03_At.f a1 1125899906842624).bind fun t615=>(some t615))else (some (IntKind.u64.wrap (a0+(IntKind.u64.wrap (a2))))))=some r:=by first|(rw[if_neg (show ¬(false=true)by decide)]at H;exact H)|(rw[if_neg (fun h=>h)]at H;exact H)
   clear H;have H:=H1;clear H1;by_cases c8:(IntKind.u64.wrap (a2)) > (IntKind.u64.wrap (1125899906842624-(IntKind.u64.wrap (t614))));rotate_left
   ·rw[if_neg c8]at H;have c8b0:decide ((IntKind.u64.wrap (1125899906842624-(IntKind.u64.wrap (t614))))<(IntKind.u64.wrap (a2)))=false:=decide_eq_false c8;clear c8;obtain rfl:=Option.some.inj H;go_wp2;go_ret;exact⟨by first|rfl|(simp;done)|(simp[*];done),by repeat (first|exact zI.refl _|apply zI.step)⟩
   rw[if_pos c8]at H;have c8b0:decide ((IntKind.u64.wrap (1125899906842624-(IntKind.u64.wrap (t614))))<(IntKind.u64.wrap (a2)))=true:=decide_eq_true c8;clear c8;replace H:=Option.bind_eq_some_iff.mp H;obtain⟨t615,A90,H⟩:=H;replace H:(some t615)=some r:=H;have A9:=Z A90;clear A90;obtain rfl:=Option.some.inj H;go_wp2_with (first|((with_reducible refine zV (f:=92) rfl ?_);refine yZ (some 27) rfl rfl Tryz.func92 (by kernel_rfl) rfl #[.int .u64 a1,.int .i64 1125899906842624] rfl (by(try simp only[List.map_toArray,List.map_cons,List.map_nil]);first|done|rfl|(simp only[List.length_drop,List.length_take];rfl)) ?_;(with_reducible refine(turnspitref03_At.calls a1 1125899906842624 t615 _ (by first|exact hT|((repeat (first|exact hT|apply Tm.Emp.drewN|apply Tm.Emp.drew));done)|exact Tm.Emp.below hT (by repeat (first|(with_reducible first|exact HB.o|apply zB|apply zL|apply zZ|refine yX ?_ (zA.o (by assumption)))|exact HB.o))) A9.o).mono ?_);rintro e w' ⟨rfl,⟨nd,rfl⟩⟩;refine⟨_,rfl,?_⟩));go_ret;exact⟨by first|rfl|(simp;done)|(simp[*];done),by repeat (first|exact zI.refl _|apply zI.step)⟩
end Go.Proofs.YtnkhnnojdlgfjaaGreatDoor.RW
