/- Parts of the proof, joined: TW, Q3. -/
import Derived.Test.YtnkhnnojdlgfjaaGreatDoorUI19
set_option linter.unusedVariables false
set_option linter.unusedSimpArgs false
set_option maxHeartbeats 32000000
set_option maxRecDepth 100000
section
namespace Go.Proofs.YtnkhnnojdlgfjaaGreatDoor.TW
open RowKit PA PB PC
attribute [local go_sem] max2_int min2_int max_two min_two zbm zbl max_four min_four   -- for this text's walks alone
def errW:Option Int→Value
 | none=>.nilIface
 | some c=>.iface 0 (.int .i64 c)
theorem xV:errW none=.nilIface:=rfl
theorem xU (c:Int):errW (some c)=.iface 0 (.int .i64 c):=rfl
def turn_Lag.f (a0:Int) (a1:Int):Option (Int):=some (wrap64 (IntKind.u64.wrap (a0-a1)))
theorem turn_Lag.calls (a0:Int) (a1:Int) (r:Int) (w:World) (h:turn_Lag.f a0 a1=some r) :
  Calls Tryz.prog 39 #[.int .u64 a0,.int .u64 a1] w fun e w'=>e=.returned (.int .i64 r)∧zI w w':=by
 have H:(some (wrap64 (IntKind.u64.wrap (a0-a1))))=some r:=h;clear h;obtain rfl:=Option.some.inj H;go_enter Tryz.func39,Tryz.ntmps39;go_wp2;go_ret;exact⟨by first|rfl|(simp;done)|(simp[*];done),by repeat (first|exact zI.refl _|apply zI.step)⟩
def turn_At.f (a0:Int) (a1:Int):Option (Int):=some (IntKind.u64.wrap (a0+(IntKind.u64.wrap (a1))))
theorem turn_At.calls (a0:Int) (a1:Int) (r:Int) (w:World) (h:turn_At.f a0 a1=some r) :
  Calls Tryz.prog 43 #[.int .u64 a0,.int .i64 a1] w fun e w'=>e=.returned (.int .u64 r)∧zI w w':=by
 have H:(some (IntKind.u64.wrap (a0+(IntKind.u64.wrap (a1)))))=some r:=h;clear h;obtain rfl:=Option.some.inj H;go_enter Tryz.func43,Tryz.ntmps43;go_wp2;go_ret;exact⟨by first|rfl|(simp;done)|(simp[*];done),by repeat (first|exact zI.refl _|apply zI.step)⟩
def turn_between_int.f (a0:Int) (a1:Int) (a2:Int):Option (Int):=if a0<a1 then (some a1)else (if a0 > a2 then (some a2)else (some a0))
theorem turn_between_int.calls (a0:Int) (a1:Int) (a2:Int) (r:Int) (w:World) (h:turn_between_int.f a0 a1 a2=some r) :
  Calls Tryz.prog 87 #[.int .i64 a0,.int .i64 a1,.int .i64 a2] w fun e w'=>e=.returned (.int .i64 r)∧zI w w':=by
 have H:(if a0<a1 then (some a1)else (if a0 > a2 then (some a2)else (some a0)))=some r:=h;clear h;by_cases c4:a0<a1
 ·rw[if_pos c4]at H;have c4b0:decide (a0<a1)=true:=decide_eq_true c4;clear c4;obtain rfl:=Option.some.inj H;go_enter Tryz.func87,Tryz.ntmps87;go_wp2;go_ret;exact⟨by first|rfl|(simp;done)|(simp[*];done),by repeat (first|exact zI.refl _|apply zI.step)⟩
 rw[if_neg c4]at H;have c4b0:decide (a0<a1)=false:=decide_eq_false c4;clear c4;by_cases c5:a0 > a2
 ·rw[if_pos c5]at H;have c5b0:decide (a2<a0)=true:=decide_eq_true c5;clear c5;obtain rfl:=Option.some.inj H;go_enter Tryz.func87,Tryz.ntmps87;go_wp2;go_ret;exact⟨by first|rfl|(simp;done)|(simp[*];done),by repeat (first|exact zI.refl _|apply zI.step)⟩
 rw[if_neg c5]at H;have c5b0:decide (a2<a0)=false:=decide_eq_false c5;clear c5;obtain rfl:=Option.some.inj H;go_enter Tryz.func87,Tryz.ntmps87;go_wp2;go_ret;exact⟨by first|rfl|(simp;done)|(simp[*];done),by repeat (first|exact zI.refl _|apply zI.step)⟩
def turn_Clamp.f (a0:Int) (a1:Int) (a2:Int):Option (Int):=(turn_between_int.f a0 a1 a2).bind fun t154=>(some t154)
theorem turn_Clamp.calls (a0:Int) (a1:Int) (a2:Int) (r:Int) (w:World) (h:turn_Clamp.f a0 a1 a2=some r) :
  Calls Tryz.prog 44 #[.int .i64 a0,.int .i64 a1,.int .i64 a2] w fun e w'=>e=.returned (.int .i64 r)∧zI w w':=by
 have H:((turn_between_int.f a0 a1 a2).bind fun t154=>(some t154))=some r:=h;clear h;replace H:=Option.bind_eq_some_iff.mp H;obtain⟨t154,A40,H⟩:=H;replace H:(some t154)=some r:=H;have A4:=Z A40;clear A40;obtain rfl:=Option.some.inj H;go_enter Tryz.func44,Tryz.ntmps44;go_wp2_with (first|((with_reducible refine zV (f:=87) rfl ?_);refine yZ (some 10) rfl rfl Tryz.func87 (by kernel_rfl) rfl #[.int .i64 a0,.int .i64 a1,.int .i64 a2] rfl (by(try simp only[List.map_toArray,List.map_cons,List.map_nil]);first|done|rfl|(simp only[List.length_drop,List.length_take];rfl)) ?_;(with_reducible refine(turn_between_int.calls a0 a1 a2 t154 _ A4.o).mono ?_);rintro e w' ⟨rfl,⟨nd,rfl⟩⟩;refine⟨_,rfl,?_⟩));go_ret;exact⟨by first|rfl|(simp;done)|(simp[*];done),by repeat (first|exact zI.refl _|apply zI.step)⟩
def turn_choose_uint64.f (a0:Bool) (a1:Int) (a2:Int):Option (Int):=if a0=true then (some a2)else (some a1)
theorem turn_choose_uint64.calls (a0:Bool) (a1:Int) (a2:Int) (r:Int) (w:World) (h:turn_choose_uint64.f a0 a1 a2=some r) :
  Calls Tryz.prog 123 #[.bool a0,.int .u64 a1,.int .u64 a2] w fun e w'=>e=.returned (.int .u64 r)∧zI w w':=by
 have H:(if a0=true then (some a2)else (some a1))=some r:=h;clear h;by_cases c4:a0=true
 ·subst c4;have H1:(some a2)=some r:=by first|(rw[if_pos rfl]at H;exact H)|(rw[if_pos trivial]at H;exact H)
  clear H;have H:=H1;clear H1;obtain rfl:=Option.some.inj H;go_enter Tryz.func123,Tryz.ntmps123;go_wp2;go_ret;exact⟨by first|rfl|(simp;done)|(simp[*];done),by repeat (first|exact zI.refl _|apply zI.step)⟩
 replace c4:=Bool.eq_false_iff.mpr c4;subst c4;have H1:(some a1)=some r:=by first|(rw[if_neg (show ¬(false=true)by decide)]at H;exact H)|(rw[if_neg (fun h=>h)]at H;exact H)
 clear H;have H:=H1;clear H1;obtain rfl:=Option.some.inj H;go_enter Tryz.func123,Tryz.ntmps123;go_wp2;go_ret;exact⟨by first|rfl|(simp;done)|(simp[*];done),by repeat (first|exact zI.refl _|apply zI.step)⟩
def turn_Before.f (a0:Int) (a1:Int):Option (Bool):=if (IntKind.u64.wrap (a1-a0))=0 then (some false)else (some (decide ((IntKind.u64.wrap (a1-a0))<9223372036854775808)))
theorem turn_Before.calls (a0:Int) (a1:Int) (r:Bool) (w:World) (h:turn_Before.f a0 a1=some r) :
  Calls Tryz.prog 124 #[.int .u64 a0,.int .u64 a1] w fun e w'=>e=.returned (.bool r)∧zI w w':=by
 have H:(if (IntKind.u64.wrap (a1-a0))=0 then (some false)else (some (decide ((IntKind.u64.wrap (a1-a0))<9223372036854775808))))=some r:=h;clear h;by_cases c3:(IntKind.u64.wrap (a1-a0))=0;rotate_left
 ·rw[if_neg c3]at H;have c3b0:((IntKind.u64.wrap (a1-a0))==0)=false:=beq_eq_false_iff_ne.mpr c3;have c3b1:((IntKind.u64.wrap (a1-a0)) != 0)=true:=bne_iff_ne.mpr c3;obtain rfl:=Option.some.inj H;go_enter Tryz.func124,Tryz.ntmps124;go_wp2;go_ret;exact⟨by first|rfl|(simp;done)|(simp[*];done),by repeat (first|exact zI.refl _|apply zI.step)⟩
 rw[if_pos c3]at H;have c3b0:((IntKind.u64.wrap (a1-a0))==0)=true:=beq_iff_eq.mpr c3;have c3b1:((IntKind.u64.wrap (a1-a0)) != 0)=false:=bne_eq_false_iff_eq.mpr c3;clear c3;obtain rfl:=Option.some.inj H;go_enter Tryz.func124,Tryz.ntmps124;go_wp2;go_ret;exact⟨by first|rfl|(simp;done)|(simp[*];done),by repeat (first|exact zI.refl _|apply zI.step)⟩
def turn_Later.f (a0:Int) (a1:Int):Option (Int):=(turn_Before.f a0 a1).bind fun t167=>((turn_choose_uint64.f t167 a0 a1).bind fun t168=>(some t168))
theorem turn_Later.calls (a0:Int) (a1:Int) (r:Int) (w:World) (h:turn_Later.f a0 a1=some r) :
  Calls Tryz.prog 85 #[.int .u64 a0,.int .u64 a1] w fun e w'=>e=.returned (.int .u64 r)∧zI w w':=by
 have H:((turn_Before.f a0 a1).bind fun t167=>((turn_choose_uint64.f t167 a0 a1).bind fun t168=>(some t168)))=some r:=h;clear h;replace H:=Option.bind_eq_some_iff.mp H;obtain⟨t167,A30,H⟩:=H;replace H:((turn_choose_uint64.f t167 a0 a1).bind fun t168=>(some t168))=some r:=H;have A3:=Z A30;clear A30;replace H:=Option.bind_eq_some_iff.mp H;obtain⟨t168,A40,H⟩:=H;replace H:(some t168)=some r:=H;have A4:=Z A40;clear A40;obtain rfl:=Option.some.inj H;go_enter Tryz.func85,Tryz.ntmps85;go_wp2_with (first|((with_reducible refine zV (f:=124) rfl ?_);refine yZ (some 7) rfl rfl Tryz.func124 (by kernel_rfl) rfl #[.int .u64 a0,.int .u64 a1] rfl (by(try simp only[List.map_toArray,List.map_cons,List.map_nil]);first|done|rfl|(simp only[List.length_drop,List.length_take];rfl)) ?_;(with_reducible refine(turn_Before.calls a0 a1 t167 _ A3.o).mono ?_);rintro e w' ⟨rfl,⟨nd,rfl⟩⟩;refine⟨_,rfl,?_⟩)|((with_reducible refine zV (f:=123) rfl ?_);refine yZ (some 10) rfl rfl Tryz.func123 (by kernel_rfl) rfl #[.bool t167,.int .u64 a0,.int .u64 a1] rfl (by(try simp only[List.map_toArray,List.map_cons,List.map_nil]);first|done|rfl|(simp only[List.length_drop,List.length_take];rfl)) ?_;(with_reducible refine(turn_choose_uint64.calls t167 a0 a1 t168 _ A4.o).mono ?_);rintro e w' ⟨rfl,⟨nd,rfl⟩⟩;refine⟨_,rfl,?_⟩));go_ret;exact⟨by first|rfl|(simp;done)|(simp[*];done),by repeat (first|exact zI.refl _|apply zI.step)⟩
def wide_Mul.f (a0:Int) (a1:Int):Option (Int × Int):=some (IntKind.u64.wrap ((IntKind.u64.wrap ((IntKind.u64.wrap ((a0 / 4294967296)*(a1 / 4294967296)))+((IntKind.u64.wrap ((IntKind.u64.wrap ((a0 / 4294967296)*(Go.bits .and .u64 a1 4294967295)))+((IntKind.u64.wrap ((Go.bits .and .u64 a0 4294967295)*(Go.bits .and .u64 a1 4294967295))) / 4294967296))) / 4294967296)))+((IntKind.u64.wrap ((IntKind.u64.wrap ((Go.bits .and .u64 a0 4294967295)*(a1 / 4294967296)))+(Go.bits .and .u64 (IntKind.u64.wrap ((IntKind.u64.wrap ((a0 / 4294967296)*(Go.bits .and .u64 a1 4294967295)))+((IntKind.u64.wrap ((Go.bits .and .u64 a0 4294967295)*(Go.bits .and .u64 a1 4294967295))) / 4294967296))) 4294967295))) / 4294967296)),Go.bits .or .u64 (IntKind.u64.wrap ((IntKind.u64.wrap ((IntKind.u64.wrap ((Go.bits .and .u64 a0 4294967295)*(a1 / 4294967296)))+(Go.bits .and .u64 (IntKind.u64.wrap ((IntKind.u64.wrap ((a0 / 4294967296)*(Go.bits .and .u64 a1 4294967295)))+((IntKind.u64.wrap ((Go.bits .and .u64 a0 4294967295)*(Go.bits .and .u64 a1 4294967295))) / 4294967296))) 4294967295)))*4294967296)) (Go.bits .and .u64 (IntKind.u64.wrap ((Go.bits .and .u64 a0 4294967295)*(Go.bits .and .u64 a1 4294967295))) 4294967295))
theorem wide_Mul.calls (a0:Int) (a1:Int) (r1:Int) (r2:Int) (w:World) (h:wide_Mul.f a0 a1=some (r1,r2)) :
  Calls Tryz.prog 135 #[.int .u64 a0,.int .u64 a1] w fun e w'=>e=.returned (.tuple #[.int .u64 r1,.int .u64 r2])∧zI w w':=by
 have H:(some (IntKind.u64.wrap ((IntKind.u64.wrap ((IntKind.u64.wrap ((a0 / 4294967296)*(a1 / 4294967296)))+((IntKind.u64.wrap ((IntKind.u64.wrap ((a0 / 4294967296)*(Go.bits .and .u64 a1 4294967295)))+((IntKind.u64.wrap ((Go.bits .and .u64 a0 4294967295)*(Go.bits .and .u64 a1 4294967295))) / 4294967296))) / 4294967296)))+((IntKind.u64.wrap ((IntKind.u64.wrap ((Go.bits .and .u64 a0 4294967295)*(a1 / 4294967296)))+(Go.bits .and .u64 (IntKind.u64.wrap ((IntKind.u64.wrap ((a0 / 4294967296)*(Go.bits .and .u64 a1 4294967295)))+((IntKind.u64.wrap ((Go.bits .and .u64 a0 4294967295)*(Go.bits .and .u64 a1 4294967295))) / 4294967296))) 4294967295))) / 4294967296)),Go.bits .or .u64 (IntKind.u64.wrap ((IntKind.u64.wrap ((IntKind.u64.wrap ((Go.bits .and .u64 a0 4294967295)*(a1 / 4294967296)))+(Go.bits .and .u64 (IntKind.u64.wrap ((IntKind.u64.wrap ((a0 / 4294967296)*(Go.bits .and .u64 a1 4294967295)))+((IntKind.u64.wrap ((Go.bits .and .u64 a0 4294967295)*(Go.bits .and .u64 a1 4294967295))) / 4294967296))) 4294967295)))*4294967296)) (Go.bits .and .u64 (IntKind.u64.wrap ((Go.bits .and .u64 a0 4294967295)*(Go.bits .and .u64 a1 4294967295))) 4294967295)))=some (r1,r2):=h;clear h;simp only[Option.some.injEq,Prod.mk.injEq]at H;obtain⟨rfl,rfl⟩:=H;go_enter Tryz.func135,Tryz.ntmps135;go_wp2
 go_ret2
 exact⟨by first|rfl|(simp;done)|(simp[*];done),by repeat (first|exact zI.refl _|apply zI.step)⟩
def wide_Div.f (a0:Int) (a1:Int) (a2:Int):Option (Int × Int × Bool):=
 if 0≤a0∧0≤a1∧a1≤18446744073709551615∧a2≤18446744073709551615 then Wide.wide_Div.f a0 a1 a2 else none
theorem wide_Div.calls (a0:Int) (a1:Int) (a2:Int) (r1:Int) (r2:Int) (r3:Bool) (w:World) (h:wide_Div.f a0 a1 a2=some (r1,r2,r3)) :
  Calls Tryz.prog 136 #[.int .u64 a0,.int .u64 a1,.int .u64 a2] w fun e w'=>e=.returned (.tuple #[.int .u64 r1,.int .u64 r2,.bool r3])∧Below w.heap.size w w':=by
 unfold wide_Div.f at h;by_cases c:0≤a0∧0≤a1∧a1≤18446744073709551615∧a2≤18446744073709551615;rotate_left
 ·rw[if_neg c]at h;cases h
 rw[if_pos c]at h;exact Wide.wide_Div.any a0 a1 a2 c.1 c.2.1 c.2.2.1 c.2.2.2 (r1,r2,r3) w h
def wide_Scale.f (a0:Int) (a1:Int) (a2:Int):Option (Int):=(wide_Mul.f a0 a1).bind fun bt173=>((wide_Div.f bt173.1 bt173.2 a2).bind fun bt175=>(if bt175.2.2=true then (some bt175.1)else (some 18446744073709551615)))
theorem wide_Scale.calls (a0:Int) (a1:Int) (a2:Int) (r:Int) (w:World) (h:wide_Scale.f a0 a1 a2=some r) :
  Calls Tryz.prog 104 #[.int .u64 a0,.int .u64 a1,.int .u64 a2] w fun e w'=>e=.returned (.int .u64 r)∧Below w.heap.size w w':=by
 have HB:=Z (Below.refl w.heap.size w);have H:((wide_Mul.f a0 a1).bind fun bt173=>((wide_Div.f bt173.1 bt173.2 a2).bind fun bt175=>(if bt175.2.2=true then (some bt175.1)else (some 18446744073709551615))))=some r:=h;clear h;replace H:=Option.bind_eq_some_iff.mp H;obtain⟨⟨t173,t174⟩,A40,H⟩:=H;replace H:((wide_Div.f t173 t174 a2).bind fun bt175=>(if bt175.2.2=true then (some bt175.1)else (some 18446744073709551615)))=some r:=H;have A4:=Z A40;clear A40;replace H:=Option.bind_eq_some_iff.mp H;obtain⟨⟨t175,t176,t177⟩,A50,H⟩:=H;replace H:(if t177=true then (some t175)else (some 18446744073709551615))=some r:=H;have A5:=Z A50;clear A50;by_cases c6:t177=true
 ·subst c6;have H1:(some t175)=some r:=by first|(rw[if_pos rfl]at H;exact H)|(rw[if_pos trivial]at H;exact H)
  clear H;have H:=H1;clear H1;obtain rfl:=Option.some.inj H;go_enter Tryz.func104,Tryz.ntmps104;go_wp2_with (first|((with_reducible refine zV (f:=135) rfl ?_);refine yZ (some 15) rfl rfl Tryz.func135 (by kernel_rfl) rfl #[.int .u64 a0,.int .u64 a1] rfl (by(try simp only[List.map_toArray,List.map_cons,List.map_nil]);first|done|rfl|(simp only[List.length_drop,List.length_take];rfl)) ?_;(with_reducible refine(wide_Mul.calls a0 a1 t173 t174 _ A4.o).mono ?_);rintro e w' ⟨rfl,⟨nd,rfl⟩⟩;refine⟨_,rfl,?_⟩)|((with_reducible refine zV (f:=136) rfl ?_);refine yZ (some 22) rfl rfl Tryz.func136 (by kernel_rfl) rfl #[.int .u64 t173,.int .u64 t174,.int .u64 a2] rfl (by(try simp only[List.map_toArray,List.map_cons,List.map_nil]);first|done|rfl|(simp only[List.length_drop,List.length_take];rfl)) ?_;(with_reducible refine(wide_Div.calls t173 t174 a2 t175 t176 true _ A5.o).mono ?_);rintro e w7 ⟨rfl,hb⟩;refine⟨_,rfl,?_⟩;have n0_:=Z (zD (by repeat (first|(with_reducible first|exact HB.o|apply zB|apply zL|apply zZ)|exact HB.o)) hb);clear HB;have HB:=n0_;clear n0_;(try clear hb);(try clear hb2);(try clear hk);(try clear hi)));go_ret;exact⟨by first|rfl|(simp[xV,xU]<;>rfl)|(simp[*,xV,xU]<;>rfl),by repeat (first|(with_reducible first|exact HB.o|apply zB|apply zL|apply zZ)|exact HB.o)⟩
 replace c6:=Bool.eq_false_iff.mpr c6;subst c6;have H1:(some 18446744073709551615)=some r:=by first|(rw[if_neg (show ¬(false=true)by decide)]at H;exact H)|(rw[if_neg (fun h=>h)]at H;exact H)
 clear H;have H:=H1;clear H1;obtain rfl:=Option.some.inj H;go_enter Tryz.func104,Tryz.ntmps104;go_wp2_with (first|((with_reducible refine zV (f:=135) rfl ?_);refine yZ (some 15) rfl rfl Tryz.func135 (by kernel_rfl) rfl #[.int .u64 a0,.int .u64 a1] rfl (by(try simp only[List.map_toArray,List.map_cons,List.map_nil]);first|done|rfl|(simp only[List.length_drop,List.length_take];rfl)) ?_;(with_reducible refine(wide_Mul.calls a0 a1 t173 t174 _ A4.o).mono ?_);rintro e w' ⟨rfl,⟨nd,rfl⟩⟩;refine⟨_,rfl,?_⟩)|((with_reducible refine zV (f:=136) rfl ?_);refine yZ (some 22) rfl rfl Tryz.func136 (by kernel_rfl) rfl #[.int .u64 t173,.int .u64 t174,.int .u64 a2] rfl (by(try simp only[List.map_toArray,List.map_cons,List.map_nil]);first|done|rfl|(simp only[List.length_drop,List.length_take];rfl)) ?_;(with_reducible refine(wide_Div.calls t173 t174 a2 t175 t176 false _ A5.o).mono ?_);rintro e w8 ⟨rfl,hb⟩;refine⟨_,rfl,?_⟩;have n0_:=Z (zD (by repeat (first|(with_reducible first|exact HB.o|apply zB|apply zL|apply zZ)|exact HB.o)) hb);clear HB;have HB:=n0_;clear n0_;(try clear hb);(try clear hb2);(try clear hk);(try clear hi)));go_ret;exact⟨by first|rfl|(simp[xV,xU]<;>rfl)|(simp[*,xV,xU]<;>rfl),by repeat (first|(with_reducible first|exact HB.o|apply zB|apply zL|apply zZ)|exact HB.o)⟩
def weight_Delta.f (a0:Int) (a1:Int):Option (Int × Int):=if a0<0 then (some (0,1))else (if a1<1 then (some (0,1))else ((wide_Scale.f (IntKind.u64.wrap (a0)) 1024 (IntKind.u64.wrap (a1))).bind fun t178=>(some (wrap64 (mn t178 281474976710656),0))))
theorem weight_Delta.calls (a0:Int) (a1:Int) (r1:Int) (r2:Int) (w:World) (h:weight_Delta.f a0 a1=some (r1,r2)) :
  Calls Tryz.prog 58 #[.int .i64 a0,.int .i64 a1] w fun e w'=>e=.returned (.tuple #[.int .i64 r1,.int .i64 r2])∧Below w.heap.size w w':=by
 have HB:=Z (Below.refl w.heap.size w);have H:(if a0<0 then (some (0,1))else (if a1<1 then (some (0,1))else ((wide_Scale.f (IntKind.u64.wrap (a0)) 1024 (IntKind.u64.wrap (a1))).bind fun t178=>(some (wrap64 (mn t178 281474976710656),0)))))=some (r1,r2):=h;clear h;by_cases c3:a0<0
 ·rw[if_pos c3]at H;have c3b0:decide (a0<0)=true:=decide_eq_true c3;clear c3;simp only[Option.some.injEq,Prod.mk.injEq]at H;obtain⟨rfl,rfl⟩:=H;go_enter Tryz.func58,Tryz.ntmps58;go_wp2
  go_ret2
  exact⟨by first|rfl|(simp[xV,xU]<;>rfl)|(simp[*,xV,xU]<;>rfl),by repeat (first|(with_reducible first|exact HB.o|apply zB|apply zL|apply zZ)|exact HB.o)⟩
 rw[if_neg c3]at H;have c3b0:decide (a0<0)=false:=decide_eq_false c3;clear c3;by_cases c4:a1<1
 ·rw[if_pos c4]at H;have c4b0:decide (a1<1)=true:=decide_eq_true c4;clear c4;simp only[Option.some.injEq,Prod.mk.injEq]at H;obtain⟨rfl,rfl⟩:=H;go_enter Tryz.func58,Tryz.ntmps58;go_wp2
  go_ret2
  exact⟨by first|rfl|(simp[xV,xU]<;>rfl)|(simp[*,xV,xU]<;>rfl),by repeat (first|(with_reducible first|exact HB.o|apply zB|apply zL|apply zZ)|exact HB.o)⟩
 rw[if_neg c4]at H;have c4b0:decide (a1<1)=false:=decide_eq_false c4;clear c4;replace H:=Option.bind_eq_some_iff.mp H;obtain⟨t178,A50,H⟩:=H;replace H:(some (wrap64 (mn t178 281474976710656),0))=some (r1,r2):=H;have A5:=Z A50;clear A50;obtain⟨ji6,hji6⟩:∃j_:Int,(mn t178 281474976710656)=j_:=⟨_,rfl⟩;replace H:(some (wrap64 (ji6),0))=some (r1,r2):=by first|(rw[hji6]at H;exact H)|(simp only[hji6]at H⊢;exact H)
 (try rw[hji6]at A5)
 (try(have hji6h:ji6≤281474976710656:=by(rw[←hji6];unfold mn;(repeat' split)<;>omega)))
 (try(have hji6g:ji6≤64:=by omega))
 have hji6_:(if 281474976710656<t178 then 281474976710656 else t178)=ji6:=hji6;simp only[Option.some.injEq,Prod.mk.injEq]at H;obtain⟨rfl,rfl⟩:=H;go_enter Tryz.func58,Tryz.ntmps58;go_wp2_with (first|((with_reducible refine zV (f:=104) rfl ?_);refine yZ (some 16) rfl rfl Tryz.func104 (by kernel_rfl) rfl #[.int .u64 (IntKind.u64.wrap (a0)),.int .u64 1024,.int .u64 (IntKind.u64.wrap (a1))] rfl (by(try simp only[List.map_toArray,List.map_cons,List.map_nil]);first|done|rfl|(simp only[List.length_drop,List.length_take];rfl)) ?_;(with_reducible refine(wide_Scale.calls (IntKind.u64.wrap (a0)) 1024 (IntKind.u64.wrap (a1)) t178 _ A5.o).mono ?_);rintro e w7 ⟨rfl,hb⟩;refine⟨_,rfl,?_⟩;have n0_:=Z (zD (by repeat (first|(with_reducible first|exact HB.o|apply zB|apply zL|apply zZ)|exact HB.o)) hb);clear HB;have HB:=n0_;clear n0_;(try clear hb);(try clear hb2);(try clear hk);(try clear hi)))
 go_ret2
 exact⟨by first|rfl|(simp[xV,xU]<;>rfl)|(simp only[←hji6];first|rfl|(simp[xV,xU]<;>rfl))|(simp[*,xV,xU]<;>rfl),by repeat (first|(with_reducible first|exact HB.o|apply zB|apply zL|apply zZ)|exact HB.o)⟩
def turn_between_uint64.f (a0:Int) (a1:Int) (a2:Int):Option (Int):=if a0<a1 then (some a1)else (if a0 > a2 then (some a2)else (some a0))
theorem turn_between_uint64.calls (a0:Int) (a1:Int) (a2:Int) (r:Int) (w:World) (h:turn_between_uint64.f a0 a1 a2=some r) :
  Calls Tryz.prog 105 #[.int .u64 a0,.int .u64 a1,.int .u64 a2] w fun e w'=>e=.returned (.int .u64 r)∧zI w w':=by
 have H:(if a0<a1 then (some a1)else (if a0 > a2 then (some a2)else (some a0)))=some r:=h;clear h;by_cases c4:a0<a1
 ·rw[if_pos c4]at H;have c4b0:decide (a0<a1)=true:=decide_eq_true c4;clear c4;obtain rfl:=Option.some.inj H;go_enter Tryz.func105,Tryz.ntmps105;go_wp2;go_ret;exact⟨by first|rfl|(simp;done)|(simp[*];done),by repeat (first|exact zI.refl _|apply zI.step)⟩
 rw[if_neg c4]at H;have c4b0:decide (a0<a1)=false:=decide_eq_false c4;clear c4;by_cases c5:a0 > a2
 ·rw[if_pos c5]at H;have c5b0:decide (a2<a0)=true:=decide_eq_true c5;clear c5;obtain rfl:=Option.some.inj H;go_enter Tryz.func105,Tryz.ntmps105;go_wp2;go_ret;exact⟨by first|rfl|(simp;done)|(simp[*];done),by repeat (first|exact zI.refl _|apply zI.step)⟩
 rw[if_neg c5]at H;have c5b0:decide (a2<a0)=false:=decide_eq_false c5;clear c5;obtain rfl:=Option.some.inj H;go_enter Tryz.func105,Tryz.ntmps105;go_wp2;go_ret;exact⟨by first|rfl|(simp;done)|(simp[*];done),by repeat (first|exact zI.refl _|apply zI.step)⟩
def turn_Step.f (a0:Int) (a1:Int) (a2:Int):Option (Int):=(turn_Lag.f a0 a1).bind fun t179=>(if a2<1 then (some a0)else (if t179≥1125899906842624 then (some a0)else ((turn_between_uint64.f (IntKind.u64.wrap (a2)) 0 (IntKind.u64.wrap (1125899906842624-(IntKind.u64.wrap (t179))))).bind fun t180=>(some (IntKind.u64.wrap (a0+t180))))))
theorem turn_Step.calls (a0:Int) (a1:Int) (a2:Int) (r:Int) (w:World) (h:turn_Step.f a0 a1 a2=some r) :
  Calls Tryz.prog 59 #[.int .u64 a0,.int .u64 a1,.int .i64 a2] w fun e w'=>e=.returned (.int .u64 r)∧zI w w':=by
 have H:((turn_Lag.f a0 a1).bind fun t179=>(if a2<1 then (some a0)else (if t179≥1125899906842624 then (some a0)else ((turn_between_uint64.f (IntKind.u64.wrap (a2)) 0 (IntKind.u64.wrap (1125899906842624-(IntKind.u64.wrap (t179))))).bind fun t180=>(some (IntKind.u64.wrap (a0+t180)))))))=some r:=h;clear h;replace H:=Option.bind_eq_some_iff.mp H;obtain⟨t179,A40,H⟩:=H;replace H:(if a2<1 then (some a0)else (if t179≥1125899906842624 then (some a0)else ((turn_between_uint64.f (IntKind.u64.wrap (a2)) 0 (IntKind.u64.wrap (1125899906842624-(IntKind.u64.wrap (t179))))).bind fun t180=>(some (IntKind.u64.wrap (a0+t180))))))=some r:=H;have A4:=Z A40;clear A40;by_cases c5:a2<1
 ·rw[if_pos c5]at H;have c5b0:decide (a2<1)=true:=decide_eq_true c5;clear c5;obtain rfl:=Option.some.inj H;go_enter Tryz.func59,Tryz.ntmps59;go_wp2_with (first|((with_reducible refine zV (f:=39) rfl ?_);refine yZ (some 10) rfl rfl Tryz.func39 (by kernel_rfl) rfl #[.int .u64 a0,.int .u64 a1] rfl (by(try simp only[List.map_toArray,List.map_cons,List.map_nil]);first|done|rfl|(simp only[List.length_drop,List.length_take];rfl)) ?_;(with_reducible refine(turn_Lag.calls a0 a1 t179 _ A4.o).mono ?_);rintro e w' ⟨rfl,⟨nd,rfl⟩⟩;refine⟨_,rfl,?_⟩));go_ret;exact⟨by first|rfl|(simp;done)|(simp[*];done),by repeat (first|exact zI.refl _|apply zI.step)⟩
 rw[if_neg c5]at H;have c5b0:decide (a2<1)=false:=decide_eq_false c5;clear c5;by_cases c6:t179≥1125899906842624
 ·rw[if_pos c6]at H;have c6b0:decide (1125899906842624≤t179)=true:=decide_eq_true c6;clear c6;obtain rfl:=Option.some.inj H;go_enter Tryz.func59,Tryz.ntmps59;go_wp2_with (first|((with_reducible refine zV (f:=39) rfl ?_);refine yZ (some 10) rfl rfl Tryz.func39 (by kernel_rfl) rfl #[.int .u64 a0,.int .u64 a1] rfl (by(try simp only[List.map_toArray,List.map_cons,List.map_nil]);first|done|rfl|(simp only[List.length_drop,List.length_take];rfl)) ?_;(with_reducible refine(turn_Lag.calls a0 a1 t179 _ A4.o).mono ?_);rintro e w' ⟨rfl,⟨nd,rfl⟩⟩;refine⟨_,rfl,?_⟩));go_ret;exact⟨by first|rfl|(simp;done)|(simp[*];done),by repeat (first|exact zI.refl _|apply zI.step)⟩
 rw[if_neg c6]at H;have c6b0:decide (1125899906842624≤t179)=false:=decide_eq_false c6;clear c6;replace H:=Option.bind_eq_some_iff.mp H;obtain⟨t180,A70,H⟩:=H;replace H:(some (IntKind.u64.wrap (a0+t180)))=some r:=H;have A7:=Z A70;clear A70;obtain rfl:=Option.some.inj H;go_enter Tryz.func59,Tryz.ntmps59;go_wp2_with (first|((with_reducible refine zV (f:=39) rfl ?_);refine yZ (some 10) rfl rfl Tryz.func39 (by kernel_rfl) rfl #[.int .u64 a0,.int .u64 a1] rfl (by(try simp only[List.map_toArray,List.map_cons,List.map_nil]);first|done|rfl|(simp only[List.length_drop,List.length_take];rfl)) ?_;(with_reducible refine(turn_Lag.calls a0 a1 t179 _ A4.o).mono ?_);rintro e w' ⟨rfl,⟨nd,rfl⟩⟩;refine⟨_,rfl,?_⟩)|((with_reducible refine zV (f:=105) rfl ?_);refine yZ (some 24) rfl rfl Tryz.func105 (by kernel_rfl) rfl #[.int .u64 (IntKind.u64.wrap (a2)),.int .u64 0,.int .u64 (IntKind.u64.wrap (1125899906842624-(IntKind.u64.wrap (t179))))] rfl (by(try simp only[List.map_toArray,List.map_cons,List.map_nil]);first|done|rfl|(simp only[List.length_drop,List.length_take];rfl)) ?_;(with_reducible refine(turn_between_uint64.calls (IntKind.u64.wrap (a2)) 0 (IntKind.u64.wrap (1125899906842624-(IntKind.u64.wrap (t179)))) t180 _ A7.o).mono ?_);rintro e w' ⟨rfl,⟨nd,rfl⟩⟩;refine⟨_,rfl,?_⟩));go_ret;exact⟨by first|rfl|(simp;done)|(simp[*];done),by repeat (first|exact zI.refl _|apply zI.step)⟩
end Go.Proofs.YtnkhnnojdlgfjaaGreatDoor.TW
end
section
namespace Go.Proofs.YtnkhnnojdlgfjaaGreatDoor.Qw
open RowKit Tr Tk Tm Qu PA PB PC
structure kH (q:Q):Prop where mk::
 o:q.cur=-1∨0≤q.cur∧inA q.t q.cur=false
def rowK (q:Q):List K:=if q.cur=-1 then yA q.t else yA q.t++[(q.v,q.cur)]
theorem keys_uniq {q:Q}(hr:yJ q.t q.mn=true) (hc:kH q) {l:List K}(hp:l.Perm (rowK q)) (hs:Ky.Srd (cvf q.mn) l 0 l.length):l=yH q:=by
 obtain⟨a,ha,hS⟩:=wO hr;have hj:J q.mn q.t.ns.length q.t (keysOf q.t a.ids):=⟨⟨a,ha,rfl⟩,hS,rfl⟩;have hSK:SS q.mn (yH q):=by
  rw[qO hj];by_cases c:q.cur=-1
  ·rw[if_pos c];exact hS
  rw[if_neg c];have h0:=hc.o.resolve_left c;exact ins_SS hS (noCur hj h0.1 h0.2)
 have hpk:(rowK q).Perm (yH q):=by
  unfold rowK;rw[qO hj,hj.walk];by_cases c:q.cur=-1
  ·rw[if_pos c,if_pos c]
  rw[if_neg c,if_neg c];exact(List.perm_append_comm.trans (List.Perm.refl _)).trans (kZ q.mn (q.v,q.cur) _).symm
 have hpl:=hp.trans hpk;have hnd:=nd_perm hpl.symm hSK.nd;refine sorted_perm (mn:=q.mn) ⟨pw_strict (List.pairwise_iff_getElem.2 fun i j hi hj hij=>?_) hnd,hnd⟩ hSK hpl;have:=hs i j (Nat.zero_le _) (by omega) hj;unfold Ky.le at this
 rwa [Ky.qV l i hi,Ky.qV l j hj]at this
theorem ordS (mn:Int):Ky.Ord (cvf mn):=⟨(ord mn).asym,(ord mn).trans⟩
theorem cmpS (mn:Int):Srt.Cmp26 mn (cvf mn):=⟨(cmp26 mn).o⟩
theorem sort_ {q:Q}(hr:yJ q.t q.mn=true) (hc:kH q) (A0:Option Addr) (c0:Nat) (w:World) (h:kp.C w A0 (rowK q).length (rowK q)) (hl:(rowK q).length≤1000000) :
  Calls Tryz.prog 73 #[.int .u64 q.mn,.slice A0 (rowK q).length c0] w fun e w'=>jU w (yH q) e w':=by
 refine(Srt.keySort (ordS q.mn) (cmpS q.mn) A0 c0 (rowK q) w h hl).mono ?_;rintro e w' ⟨v0,l',rfl,hR,hp,hs,hb⟩;obtain rfl:=keys_uniq hr hc hp (by rw[hp.length_eq];exact hs);exact⟨v0,rfl,hR,hb⟩
theorem zcG {q:Q}(hr:yJ q.t q.mn=true):(rowK q).length≤65∧(yA q.t).length≤64:=by
 obtain⟨a,ha,hS⟩:=wO hr;have hj:J q.mn q.t.ns.length q.t (keysOf q.t a.ids):=⟨⟨a,ha,rfl⟩,hS,rfl⟩;have h1:=J.small hj;have h2:=J.le hj;unfold rowK;rw[hj.walk];split
 ·omega
 ·rw[List.length_append];simp only[List.length_cons,List.length_nil];omega
theorem zbW {q:Q}(hr:yJ q.t q.mn=true) (hc:kH q):(yH q).length≤65:=by
 obtain⟨a,ha,hS⟩:=wO hr;have hj:J q.mn q.t.ns.length q.t (keysOf q.t a.ids):=⟨⟨a,ha,rfl⟩,hS,rfl⟩;have h1:=J.small hj;have h2:=J.le hj;rw[qO hj];split
 ·omega
 ·rw[(kZ q.mn (q.v,q.cur) _).length_eq,List.length_cons];omega
section
variable {S : Nat → Prop} {A B : Option Addr} {c d : Nat} {w w' : World} {q : Q}
theorem keys_ (h:QIn S A c B d w q) (hr:yJ q.t q.mn=true) (hc:kH q) (hT:Emp w):Calls Tryz.prog 26 #[.agg (qc A c B d q)] w fun e w'=>jU w (yH q) e w':=by
 have HQ:=Z h;have HT:=Z hT;have HR:=Z hr;have HC:=Z hc;have HL:=Z (zcG hr);have HW:=Z (show rowK q=if q.cur=-1 then yA q.t else yA q.t++[(q.v,q.cur)]from rfl);have HSO:=Z (fun(A0:Option Addr) (c0 n:Nat) (w:World) (hn:(rowK q).length=n) (h:kp.C w A0 (rowK q).length (rowK q))=>(show Calls Tryz.prog 73 #[.int .u64 q.mn,.slice A0 n c0] w fun e w'=>jU w (yH q) e w' by subst hn;exact sort_ hr hc A0 c0 w h (by have:=(zcG hr).1;omega)));generalize yH q=K1 at HSO⊢;generalize rowK q=R1 at HSO HW HL;clear h hT hr hc HR HC;obtain⟨⟨ns,rt⟩,cur,v,mn,load,ws⟩:=q;show Calls Tryz.prog 26 #[.agg #[.int .i64 rt,.slice A ns.length c,.int .i64 cur,.int .u64 v,.int .u64 mn,.int .i64 load,.slice B ws.length d]] w _;go_enter Tryz.func26,Tryz.ntmps26;go_upto_region 1 with(fail);have HX:=Z (QB.new w rt A ns.length c cur v mn load B ws.length d);have HB:=Z (zB (Below.refl w.heap.size w) (.cells #[.int .i64 rt,.slice A ns.length c,.int .i64 cur,.int .u64 v,.int .u64 mn,.int .i64 load,.slice B ws.length d] 30));generalize w.alloc (.cells #[.int .i64 rt,.slice A ns.length c,.int .i64 cur,.int .u64 v,.int .u64 mn,.int .i64 load,.slice B ws.length d] 30)=W1 at HX HB⊢;have a0:=HX.o.c0;have a1:=HX.o.c1;have HQ1:=Z (HQ.o.below HB.o);have HT1:=Z (HT.o.below HB.o);go_upto_region 2 with(go_at_call 72;refine(Walk_ (t:=⟨ns,rt⟩) A c HQ1.o.trC HQ1.o.tl HT1.o).mono ?_;rintro e w2 ⟨v1,rfl,hR,hb⟩;obtain⟨A2,c2,hv2,hlc2,hC2⟩:=Kd.yE hR;subst hv2;have HC2:=Z hC2;have HRR:=Z hR;have HX2:=Z (HX.o.below hb);have HB2:=Z (zD HB.o hb);have HB12:=Z hb;clear hR hb hC2 hlc2);clear a0 a1;have a2:=HX2.o.c2;have a3:=HX2.o.c3;have a4:=HX2.o.c4;have HWL:=Z HL.o.2;replace HW:zA (R1=if cur=-1 then yA ⟨ns,rt⟩else yA ⟨ns,rt⟩++[(v,cur)]):=HW;replace HWL:zA ((yA ⟨ns,rt⟩).length≤64):=HWL;replace HRR:zA (kp.R 38 w2 W1.heap.size (fun _=>True) (.slice A2 (yA ⟨ns,rt⟩).length c2) (yA ⟨ns,rt⟩)):=HRR;replace HC2:zA (kp.C w2 A2 (yA ⟨ns,rt⟩).length (yA ⟨ns,rt⟩)):=HC2;generalize yA ⟨ns,rt⟩=L1 at HW HWL HRR HC2⊢;have HWB:=Z (show w.heap.size≤W1.heap.size from HB.o.size);by_cases b:cur=-1
 ·have HE:=Z (HW.o.trans (if_pos b));have b1:(cur != -1)=false:=by simpa using b
  clear b;go_wp2_with (go_at_call 73;refine(HSO.o A2 c2 L1.length _ (by rw[HE.o]) (by rw[HE.o];exact HC2.o)).mono ?_;rintro e w3 ⟨v3,rfl,hR3,hb3⟩;have HR3:=Z hR3;have HB3:=Z (zD HB2.o hb3);have HZ3:=Z (HB2.o.size);clear hR3 hb3);go_ret;exact⟨_,rfl,Kd.qW HR3.o HZ3.o,HB3.o⟩
 have HE:=Z (HW.o.trans (if_neg b));have b1:(cur != -1)=true:=by simpa using b
 clear b;have hbd:W1.heap.size≤w2.heap.size:=HB12.o.size;go_upto_region 4 with(at_builtin;refine Kd.kE kp (w0:=W1) W1.heap.size rfl (.tmp 10) (.tmp 16) 32 38 (.agg #[(.int .u64 0),(.int .i64 0)]) 16 rfl Tryz.underlying32 kJ rfl (show 0<kp.sz by show 0<2;omega) (by omega) _ L1 (v,cur) [.int .u64 v,.int .i64 cur] (fun _=>True) (fun _=>False) rfl rfl (jD _ _ _ _) (fun _ hk=>hk.elim) (fun _ _=>trivial) HRR.o HB12.o hbd (by have:=HWL.o;omega) ?_;intro v2 w3 hR3 hB3 hg3 hat3;have HR3:=Z hR3;have HB3:=Z hB3;clear hR3 hB3 hg3 hat3);obtain⟨A3,c3,hv3,hlc3,hC3⟩:=Kd.yE HR3.o;subst hv3;have HC3:=Z hC3;have HX3:=Z (HX.o.below HB3.o);have HB4:=Z (zD HB.o HB3.o);have hw4:=HB4.o.size;clear hC3 hlc3 a2 a3 a4;have a4:=HX3.o.c4;obtain⟨n3,hn3⟩:∃n3,n3=(L1++[(v,cur)]).length:=⟨_,rfl⟩;rw[←hn3]at HC3⊢;have HN3:=Z hn3;clear hn3;go_wp2_with (go_at_call 73;refine(HSO.o A3 c3 n3 _ (by rw[HE.o,HN3.o]) (by rw[HE.o,←HN3.o];exact HC3.o)).mono ?_;rintro e w4 ⟨v3,rfl,hR4,hb4⟩;have HR4:=Z hR4;have HB5:=Z (zD HB4.o hb4);clear hR4 hb4);go_ret;exact⟨_,rfl,Kd.qW HR4.o hw4,HB5.o⟩
theorem later_ (a b:Int) (w:World):Calls Tryz.prog 85 #[.int .u64 a,.int .u64 b] w fun e w'=>e=.returned (.int .u64 (xB a b))∧Below w.heap.size w w':=by
 refine(TW.turn_Later.calls a b (xB a b) w ?_).mono ?_
 ·unfold TW.turn_Later.f TW.turn_Before.f TW.turn_choose_uint64.f xB zcO;by_cases h:IntKind.u64.wrap (b-a)=0
  ·rw[if_pos h,h];simp
  rw[if_neg h,bne_iff_ne.2 h];simp;split<;>rfl
 ·rintro e w' ⟨rfl,hb⟩;exact⟨rfl,hb.below⟩
theorem clamp_ (x lo hi:Int) (w:World):Calls Tryz.prog 44 #[.int .i64 x,.int .i64 lo,.int .i64 hi] w fun e w'=>e=.returned (.int .i64 (q9 x lo hi))∧Below w.heap.size w w':=by
 refine(TW.turn_Clamp.calls x lo hi (q9 x lo hi) w ?_).mono ?_
 ·unfold TW.turn_Clamp.f TW.turn_between_int.f q9
  repeat' split
  all_goals first|rfl|omega
 ·rintro e w' ⟨rfl,hb⟩;exact⟨rfl,hb.below⟩
theorem lag_ (v mn:Int) (w:World):Calls Tryz.prog 39 #[.int .u64 v,.int .u64 mn] w fun e w'=>e=.returned (.int .i64 (lagf mn v))∧Below w.heap.size w w':=by
 refine(TW.turn_Lag.calls v mn (lagf mn v) w rfl).mono ?_;rintro e w' ⟨rfl,hb⟩;exact⟨rfl,hb.below⟩
theorem at_ (mn lag:Int) (w:World):Calls Tryz.prog 43 #[.int .u64 mn,.int .i64 lag] w fun e w'=>e=.returned (.int .u64 (atA mn lag))∧Below w.heap.size w w':=by
 refine(TW.turn_At.calls mn lag (atA mn lag) w rfl).mono ?_;rintro e w' ⟨rfl,hb⟩;exact⟨rfl,hb.below⟩
end
end Go.Proofs.YtnkhnnojdlgfjaaGreatDoor.Qw
end
