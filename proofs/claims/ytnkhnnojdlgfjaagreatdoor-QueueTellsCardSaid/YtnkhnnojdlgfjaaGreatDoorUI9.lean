/- Parts of the proof, joined: TC. -/
import Derived.Test.YtnkhnnojdlgfjaaGreatDoorProg
import Derived.Below
import Derived.Deep.Draws
import Derived.Deep.AppendLies
import Derived.Maps.AppendAt
import Derived.OwnWalk
import Derived.Laws.BytesArg
import Derived.Laws.MakeOwn
import Derived.Laws.OwnMore
import Derived.Deep.OwnRows
import Derived.Tactics
import Derived.Lib.ConvBytes
import Derived.Laws.Slices
import Derived.WalkKit
import Derived.KernelRfl
import Derived.RowKit3
import Derived.Deep.LoopGhost
import Derived.Deep.QuietTactic
import Derived.BigQuiet
import Derived.WideLaws
import Derived.Deep.DeepCutAuto
import Derived.Deep.CutBlock
import Derived.Deep.RegionHeld3
import Derived.Laws.Rows
import Derived.Lib.AppendStr
import Derived.ArgAppend
import Derived.Laws.IdiomCopy
import Derived.OrdersHeld
import Derived.Laws.BitsLemmas
import Derived.RowKit
import Derived.Test.YtnkhnnojdlgfjaaGreatDoorUI8
import Derived.Test.YtnkhnnojdlgfjaaGreatDoorUI7
set_option linter.unusedVariables false
set_option linter.unusedSimpArgs false
set_option maxHeartbeats 32000000
set_option maxRecDepth 100000
namespace Go.Proofs.YtnkhnnojdlgfjaaGreatDoor.TC
open RowKit PA PB PC
attribute [local go_sem] max2_int min2_int max_two min_two zbm zbl max_four min_four   -- for this text's walks alone
def errW:Option Int→Value
 | none=>.nilIface
 | some c=>.iface 0 (.int .i64 c)
theorem xV:errW none=.nilIface:=rfl
theorem xU (c:Int):errW (some c)=.iface 0 (.int .i64 c):=rfl
theorem info3:(Tryz.prog.info? 3).map (fun i=>(i.zero,i.size,i.bytes))=some (some (.int .i64 0),1,8):=by kernel_rfl
def cmp_Or_int.l0:Nat→Int→List Int→Int→Int→Option (Int)
 | 0,_,_,_,_=>none
 | k+1,x3,x6,x7,x8=>if x8<x7 then (if 0≤x8 then (if x8<(x6.length:Int)then (if (rd x6 x8)=x3 then (cmp_Or_int.l0 k x3 x6 x7 (wrap64 (x8+1)))else (some (rd x6 x8)))else (none))else (none))else (some x3)
def cmp_Or_int.f (k:Nat) (l0:List Int):Option (Int):=cmp_Or_int.l0 k 0 l0 (l0.length:Int) 0
theorem cmp_Or_int.calls (k:Nat) (A0:Option Addr) (c0:Nat) (l0:List Int) (r:Int) (w:World) (hr0:Kd.C (Kd.int .i64) w A0 l0.length l0) (hc0:l0.length≤c0) (h:cmp_Or_int.f k l0=some r) :
  Calls Tryz.prog 137 #[.slice A0 l0.length c0] w fun e w'=>e=.returned (.int .i64 r)∧zI w w':=by
 have HR0:=Z hr0;have HC0:=Z hc0;clear hr0 hc0;have H:(cmp_Or_int.l0 k 0 l0 (l0.length:Int) 0)=some r:=h;clear h;have H':=Z H;clear H;go_enter Tryz.func137,Tryz.ntmps137;go_wp2
 go_loopg [8] k (fun kq v8 w'=>∃(x8_1:Int),v8=.int .i64 x8_1∧zA (cmp_Or_int.l0 kq 0 l0 (l0.length:Int) x8_1=some r)∧zA (kq≤k)∧zI w w')
 case atStart=>exact⟨(0),(by first|rfl|(simp;done)|(simp[*];done)),H',⟨Nat.le_refl _⟩,by repeat (first|exact zI.refl _|apply zI.step)⟩
 case round=>
  clear H';obtain⟨x8_1,rfl,HA,HK1,⟨m1,rfl⟩⟩:=hrel;cases gk with
  | zero=>exact absurd HA.o (by simp[cmp_Or_int.l0])
  | succ k1=>
   have H:=HA.o;clear HA;simp only[cmp_Or_int.l0]at H;by_cases c2:x8_1<(l0.length:Int);rotate_left
   ·rw[if_neg c2]at H;have c2b0:decide (x8_1<(l0.length:Int))=false:=decide_eq_false c2;clear c2;obtain rfl:=Option.some.inj H;go_wp2;go_ret;exact⟨by first|rfl|(simp;done)|(simp[*];done),by repeat (first|exact zI.refl _|apply zI.step)⟩
   rw[if_pos c2]at H;have c2b0:decide (x8_1<(l0.length:Int))=true:=decide_eq_true c2;clear c2;by_cases c3:0≤x8_1;rotate_left
   ·rw[if_neg c3]at H;exact absurd H (by simp)
   rw[if_pos c3]at H;have c3b0:decide (0≤x8_1)=true:=decide_eq_true c3;clear c3;by_cases c4:x8_1<(l0.length:Int);rotate_left
   ·rw[if_neg c4]at H;exact absurd H (by simp)
   rw[if_pos c4]at H;have c4b0:decide (x8_1<(l0.length:Int))=true:=decide_eq_true c4;clear c4;by_cases c5:(rd l0 x8_1)=0;rotate_left
   ·rw[if_neg c5]at H;have c5b0:((rd l0 x8_1)==0)=false:=beq_eq_false_iff_ne.mpr c5;have c5b1:((rd l0 x8_1) != 0)=true:=bne_iff_ne.mpr c5;obtain rfl:=Option.some.inj H;have p102:0≤(x8_1:Int):=of_decide_eq_true (by first|(with_reducible assumption)|assumption);have q102:x8_1<(l0.length:Int):=of_decide_eq_true (by first|(with_reducible assumption)|assumption);obtain⟨ad102,e102,hx102_0⟩:=Kd.at_int HR0.o x8_1 p102 q102;cases e102;replace p102:=eq_true p102;replace q102:=eq_true q102;go_wp2;go_ret;exact⟨by first|rfl|(simp;done)|(simp[*];done),by repeat (first|exact zI.refl _|apply zI.step)⟩
   rw[if_pos c5]at H;have c5b0:((rd l0 x8_1)==0)=true:=beq_iff_eq.mpr c5;have c5b1:((rd l0 x8_1) != 0)=false:=bne_eq_false_iff_eq.mpr c5;clear c5;have H':=Z H;clear H;have p102:0≤(x8_1:Int):=of_decide_eq_true (by first|(with_reducible assumption)|assumption);have q102:x8_1<(l0.length:Int):=of_decide_eq_true (by first|(with_reducible assumption)|assumption);obtain⟨ad102,e102,hx102_0⟩:=Kd.at_int HR0.o x8_1 p102 q102;cases e102;replace p102:=eq_true p102;replace q102:=eq_true q102;go_wp2
   go_roundg k1
   case measure=>have:=HK1.o;omega
   case rel=>exact⟨(wrap64 (x8_1+1)),(by first|rfl|(simp;done)|(simp[*];done)),H',⟨by have:=HK1.o;omega⟩,by repeat (first|exact zI.refl _|apply zI.step)⟩
def cmp_isNaN_int.f (a0:Int):Option (Bool):=some (a0 != a0)
theorem cmp_isNaN_int.calls (a0:Int) (r:Bool) (w:World) (h:cmp_isNaN_int.f a0=some r) :
  Calls Tryz.prog 149 #[.int .i64 a0] w fun e w'=>e=.returned (.bool r)∧zI w w':=by
 have H:(some (a0 != a0))=some r:=h;clear h;obtain rfl:=Option.some.inj H;go_enter Tryz.func149,Tryz.ntmps149;go_wp2;go_ret;exact⟨by first|rfl|(simp;done)|(simp[*];done),by repeat (first|exact zI.refl _|apply zI.step)⟩
def cmp_Compare_int.f (a0:Int) (a1:Int):Option (Int):=(cmp_isNaN_int.f a0).bind fun t103=>((cmp_isNaN_int.f a1).bind fun t104=>(if t103=true then (if t104=true then (some 0)else (some (-1)))else (if t104=true then (some 1)else (if a0<a1 then (some (-1))else (if a0 > a1 then (some 1)else (some 0))))))
theorem cmp_Compare_int.calls (a0:Int) (a1:Int) (r:Int) (w:World) (h:cmp_Compare_int.f a0 a1=some r) :
  Calls Tryz.prog 138 #[.int .i64 a0,.int .i64 a1] w fun e w'=>e=.returned (.int .i64 r)∧zI w w':=by
 have H:((cmp_isNaN_int.f a0).bind fun t103=>((cmp_isNaN_int.f a1).bind fun t104=>(if t103=true then (if t104=true then (some 0)else (some (-1)))else (if t104=true then (some 1)else (if a0<a1 then (some (-1))else (if a0 > a1 then (some 1)else (some 0)))))))=some r:=h;clear h;replace H:=Option.bind_eq_some_iff.mp H;obtain⟨t103,A30,H⟩:=H;replace H:((cmp_isNaN_int.f a1).bind fun t104=>(if t103=true then (if t104=true then (some 0)else (some (-1)))else (if t104=true then (some 1)else (if a0<a1 then (some (-1))else (if a0 > a1 then (some 1)else (some 0))))))=some r:=H;have A3:=Z A30;clear A30;replace H:=Option.bind_eq_some_iff.mp H;obtain⟨t104,A40,H⟩:=H;replace H:(if t103=true then (if t104=true then (some 0)else (some (-1)))else (if t104=true then (some 1)else (if a0<a1 then (some (-1))else (if a0 > a1 then (some 1)else (some 0)))))=some r:=H;have A4:=Z A40;clear A40;by_cases c5:t103=true
 ·subst c5;have H1:(if t104=true then (some 0)else (some (-1)))=some r:=by first|(rw[if_pos rfl]at H;exact H)|(rw[if_pos trivial]at H;exact H)
  clear H;have H:=H1;clear H1;by_cases c6:t104=true
  ·subst c6;have H1:(some 0)=some r:=by first|(rw[if_pos rfl]at H;exact H)|(rw[if_pos trivial]at H;exact H)
   clear H;have H:=H1;clear H1;obtain rfl:=Option.some.inj H;go_enter Tryz.func138,Tryz.ntmps138;go_wp2_with (first|((with_reducible refine zV (f:=149) rfl ?_);refine yZ (some 8) rfl rfl Tryz.func149 (by kernel_rfl) rfl #[.int .i64 a0] rfl (by(try simp only[List.map_toArray,List.map_cons,List.map_nil]);first|done|rfl|(simp only[List.length_drop,List.length_take];rfl)) ?_;(with_reducible refine(cmp_isNaN_int.calls a0 true _ A3.o).mono ?_);rintro e w' ⟨rfl,⟨nd,rfl⟩⟩;refine⟨_,rfl,?_⟩)|((with_reducible refine zV (f:=149) rfl ?_);refine yZ (some 10) rfl rfl Tryz.func149 (by kernel_rfl) rfl #[.int .i64 a1] rfl (by(try simp only[List.map_toArray,List.map_cons,List.map_nil]);first|done|rfl|(simp only[List.length_drop,List.length_take];rfl)) ?_;(with_reducible refine(cmp_isNaN_int.calls a1 true _ A4.o).mono ?_);rintro e w' ⟨rfl,⟨nd,rfl⟩⟩;refine⟨_,rfl,?_⟩));go_ret;exact⟨by first|rfl|(simp;done)|(simp[*];done),by repeat (first|exact zI.refl _|apply zI.step)⟩
  replace c6:=Bool.eq_false_iff.mpr c6;subst c6;have H1:(some (-1))=some r:=by first|(rw[if_neg (show ¬(false=true)by decide)]at H;exact H)|(rw[if_neg (fun h=>h)]at H;exact H)
  clear H;have H:=H1;clear H1;obtain rfl:=Option.some.inj H;go_enter Tryz.func138,Tryz.ntmps138;go_wp2_with (first|((with_reducible refine zV (f:=149) rfl ?_);refine yZ (some 8) rfl rfl Tryz.func149 (by kernel_rfl) rfl #[.int .i64 a0] rfl (by(try simp only[List.map_toArray,List.map_cons,List.map_nil]);first|done|rfl|(simp only[List.length_drop,List.length_take];rfl)) ?_;(with_reducible refine(cmp_isNaN_int.calls a0 true _ A3.o).mono ?_);rintro e w' ⟨rfl,⟨nd,rfl⟩⟩;refine⟨_,rfl,?_⟩)|((with_reducible refine zV (f:=149) rfl ?_);refine yZ (some 10) rfl rfl Tryz.func149 (by kernel_rfl) rfl #[.int .i64 a1] rfl (by(try simp only[List.map_toArray,List.map_cons,List.map_nil]);first|done|rfl|(simp only[List.length_drop,List.length_take];rfl)) ?_;(with_reducible refine(cmp_isNaN_int.calls a1 false _ A4.o).mono ?_);rintro e w' ⟨rfl,⟨nd,rfl⟩⟩;refine⟨_,rfl,?_⟩));go_ret;exact⟨by first|rfl|(simp;done)|(simp[*];done),by repeat (first|exact zI.refl _|apply zI.step)⟩
 replace c5:=Bool.eq_false_iff.mpr c5;subst c5;have H1:(if t104=true then (some 1)else (if a0<a1 then (some (-1))else (if a0 > a1 then (some 1)else (some 0))))=some r:=by first|(rw[if_neg (show ¬(false=true)by decide)]at H;exact H)|(rw[if_neg (fun h=>h)]at H;exact H)
 clear H;have H:=H1;clear H1;by_cases c7:t104=true
 ·subst c7;have H1:(some 1)=some r:=by first|(rw[if_pos rfl]at H;exact H)|(rw[if_pos trivial]at H;exact H)
  clear H;have H:=H1;clear H1;obtain rfl:=Option.some.inj H;go_enter Tryz.func138,Tryz.ntmps138;go_wp2_with (first|((with_reducible refine zV (f:=149) rfl ?_);refine yZ (some 8) rfl rfl Tryz.func149 (by kernel_rfl) rfl #[.int .i64 a0] rfl (by(try simp only[List.map_toArray,List.map_cons,List.map_nil]);first|done|rfl|(simp only[List.length_drop,List.length_take];rfl)) ?_;(with_reducible refine(cmp_isNaN_int.calls a0 false _ A3.o).mono ?_);rintro e w' ⟨rfl,⟨nd,rfl⟩⟩;refine⟨_,rfl,?_⟩)|((with_reducible refine zV (f:=149) rfl ?_);refine yZ (some 10) rfl rfl Tryz.func149 (by kernel_rfl) rfl #[.int .i64 a1] rfl (by(try simp only[List.map_toArray,List.map_cons,List.map_nil]);first|done|rfl|(simp only[List.length_drop,List.length_take];rfl)) ?_;(with_reducible refine(cmp_isNaN_int.calls a1 true _ A4.o).mono ?_);rintro e w' ⟨rfl,⟨nd,rfl⟩⟩;refine⟨_,rfl,?_⟩));go_ret;exact⟨by first|rfl|(simp;done)|(simp[*];done),by repeat (first|exact zI.refl _|apply zI.step)⟩
 replace c7:=Bool.eq_false_iff.mpr c7;subst c7;have H1:(if a0<a1 then (some (-1))else (if a0 > a1 then (some 1)else (some 0)))=some r:=by first|(rw[if_neg (show ¬(false=true)by decide)]at H;exact H)|(rw[if_neg (fun h=>h)]at H;exact H)
 clear H;have H:=H1;clear H1;by_cases c8:a0<a1
 ·rw[if_pos c8]at H;have c8b0:decide (a0<a1)=true:=decide_eq_true c8;clear c8;obtain rfl:=Option.some.inj H;go_enter Tryz.func138,Tryz.ntmps138;go_wp2_with (first|((with_reducible refine zV (f:=149) rfl ?_);refine yZ (some 8) rfl rfl Tryz.func149 (by kernel_rfl) rfl #[.int .i64 a0] rfl (by(try simp only[List.map_toArray,List.map_cons,List.map_nil]);first|done|rfl|(simp only[List.length_drop,List.length_take];rfl)) ?_;(with_reducible refine(cmp_isNaN_int.calls a0 false _ A3.o).mono ?_);rintro e w' ⟨rfl,⟨nd,rfl⟩⟩;refine⟨_,rfl,?_⟩)|((with_reducible refine zV (f:=149) rfl ?_);refine yZ (some 10) rfl rfl Tryz.func149 (by kernel_rfl) rfl #[.int .i64 a1] rfl (by(try simp only[List.map_toArray,List.map_cons,List.map_nil]);first|done|rfl|(simp only[List.length_drop,List.length_take];rfl)) ?_;(with_reducible refine(cmp_isNaN_int.calls a1 false _ A4.o).mono ?_);rintro e w' ⟨rfl,⟨nd,rfl⟩⟩;refine⟨_,rfl,?_⟩));go_ret;exact⟨by first|rfl|(simp;done)|(simp[*];done),by repeat (first|exact zI.refl _|apply zI.step)⟩
 rw[if_neg c8]at H;have c8b0:decide (a0<a1)=false:=decide_eq_false c8;clear c8;by_cases c9:a0 > a1
 ·rw[if_pos c9]at H;have c9b0:decide (a1<a0)=true:=decide_eq_true c9;clear c9;obtain rfl:=Option.some.inj H;go_enter Tryz.func138,Tryz.ntmps138;go_wp2_with (first|((with_reducible refine zV (f:=149) rfl ?_);refine yZ (some 8) rfl rfl Tryz.func149 (by kernel_rfl) rfl #[.int .i64 a0] rfl (by(try simp only[List.map_toArray,List.map_cons,List.map_nil]);first|done|rfl|(simp only[List.length_drop,List.length_take];rfl)) ?_;(with_reducible refine(cmp_isNaN_int.calls a0 false _ A3.o).mono ?_);rintro e w' ⟨rfl,⟨nd,rfl⟩⟩;refine⟨_,rfl,?_⟩)|((with_reducible refine zV (f:=149) rfl ?_);refine yZ (some 10) rfl rfl Tryz.func149 (by kernel_rfl) rfl #[.int .i64 a1] rfl (by(try simp only[List.map_toArray,List.map_cons,List.map_nil]);first|done|rfl|(simp only[List.length_drop,List.length_take];rfl)) ?_;(with_reducible refine(cmp_isNaN_int.calls a1 false _ A4.o).mono ?_);rintro e w' ⟨rfl,⟨nd,rfl⟩⟩;refine⟨_,rfl,?_⟩));go_ret;exact⟨by first|rfl|(simp;done)|(simp[*];done),by repeat (first|exact zI.refl _|apply zI.step)⟩
 rw[if_neg c9]at H;have c9b0:decide (a1<a0)=false:=decide_eq_false c9;clear c9;obtain rfl:=Option.some.inj H;go_enter Tryz.func138,Tryz.ntmps138;go_wp2_with (first|((with_reducible refine zV (f:=149) rfl ?_);refine yZ (some 8) rfl rfl Tryz.func149 (by kernel_rfl) rfl #[.int .i64 a0] rfl (by(try simp only[List.map_toArray,List.map_cons,List.map_nil]);first|done|rfl|(simp only[List.length_drop,List.length_take];rfl)) ?_;(with_reducible refine(cmp_isNaN_int.calls a0 false _ A3.o).mono ?_);rintro e w' ⟨rfl,⟨nd,rfl⟩⟩;refine⟨_,rfl,?_⟩)|((with_reducible refine zV (f:=149) rfl ?_);refine yZ (some 10) rfl rfl Tryz.func149 (by kernel_rfl) rfl #[.int .i64 a1] rfl (by(try simp only[List.map_toArray,List.map_cons,List.map_nil]);first|done|rfl|(simp only[List.length_drop,List.length_take];rfl)) ?_;(with_reducible refine(cmp_isNaN_int.calls a1 false _ A4.o).mono ?_);rintro e w' ⟨rfl,⟨nd,rfl⟩⟩;refine⟨_,rfl,?_⟩));go_ret;exact⟨by first|rfl|(simp;done)|(simp[*];done),by repeat (first|exact zI.refl _|apply zI.step)⟩
def turn_Lag.f (a0:Int) (a1:Int):Option (Int):=some (wrap64 (IntKind.u64.wrap (a0-a1)))
theorem turn_Lag.calls (a0:Int) (a1:Int) (r:Int) (w:World) (h:turn_Lag.f a0 a1=some r) :
  Calls Tryz.prog 39 #[.int .u64 a0,.int .u64 a1] w fun e w'=>e=.returned (.int .i64 r)∧zI w w':=by
 have H:(some (wrap64 (IntKind.u64.wrap (a0-a1))))=some r:=h;clear h;obtain rfl:=Option.some.inj H;go_enter Tryz.func39,Tryz.ntmps39;go_wp2;go_ret;exact⟨by first|rfl|(simp;done)|(simp[*];done),by repeat (first|exact zI.refl _|apply zI.step)⟩
def key_compare.f (k:Nat) (a0:Int) (a1_0:Int) (a1_1:Int) (a2_0:Int) (a2_1:Int):Option (Int):=(turn_Lag.f a1_0 a0).bind fun t107=>((turn_Lag.f a2_0 a0).bind fun t108=>((cmp_Compare_int.f t107 t108).bind fun t109=>((cmp_Compare_int.f a1_1 a2_1).bind fun t110=>((cmp_Or_int.f k (([t109,t110]:List Int))).bind fun t114=>(some t114)))))
def key_compare.T1:Bool × List (List Nat × List Nat):=(true,[([],[]),([0],[0]),([],[]),([1,2],[1,2]),([],[]),([4],[4]),([],[]),([5,6,3],[5,6]),([3,7,7],[3,7]),([],[]),([9],[9]),([],[]),([11],[11]),([10,12,8],[10,12]),([8,13],[8,13]),([14,13],[14]),([15,15,0,1,2,3,4,5,6,7,8,9,10,11,12,13,14,15],[15])])
def key_compare.B1:List Nat:=[0,1,0,7,0,16,0,127,255,0,512,0,2048,8191,16383,32767,65535]
theorem key_compare.tab1:rtab .any (opsOf Tryz.f106 1)=key_compare.T1:=by kernel_rfl
theorem key_compare.bits1:zbD key_compare.T1.2 key_compare.B1=true:=by kernel_rfl
theorem key_compare.calls (k:Nat) (a0:Int) (a1_0:Int) (a1_1:Int) (a2_0:Int) (a2_1:Int) (r:Int) (w:World) (h:key_compare.f k a0 a1_0 a1_1 a2_0 a2_1=some r) :
  Calls Tryz.prog 106 #[.int .u64 a0,.agg #[.int .u64 a1_0,.int .i64 a1_1],.agg #[.int .u64 a2_0,.int .i64 a2_1]] w fun e w'=>e=.returned (.int .i64 r)∧Below w.heap.size w w':=by
 have hu27:=Tryz.underlying38;have HB:=Z (Below.refl w.heap.size w);have H:((turn_Lag.f a1_0 a0).bind fun t107=>((turn_Lag.f a2_0 a0).bind fun t108=>((cmp_Compare_int.f t107 t108).bind fun t109=>((cmp_Compare_int.f a1_1 a2_1).bind fun t110=>((cmp_Or_int.f k (([t109,t110]:List Int))).bind fun t114=>(some t114))))))=some r:=h;clear h;replace H:=Option.bind_eq_some_iff.mp H;obtain⟨t107,A40,H⟩:=H;replace H:((turn_Lag.f a2_0 a0).bind fun t108=>((cmp_Compare_int.f t107 t108).bind fun t109=>((cmp_Compare_int.f a1_1 a2_1).bind fun t110=>((cmp_Or_int.f k (([t109,t110]:List Int))).bind fun t114=>(some t114)))))=some r:=H;have A4:=Z A40;clear A40;replace H:=Option.bind_eq_some_iff.mp H;obtain⟨t108,A50,H⟩:=H;replace H:((cmp_Compare_int.f t107 t108).bind fun t109=>((cmp_Compare_int.f a1_1 a2_1).bind fun t110=>((cmp_Or_int.f k (([t109,t110]:List Int))).bind fun t114=>(some t114))))=some r:=H;have A5:=Z A50;clear A50;replace H:=Option.bind_eq_some_iff.mp H;obtain⟨t109,A60,H⟩:=H;replace H:((cmp_Compare_int.f a1_1 a2_1).bind fun t110=>((cmp_Or_int.f k (([t109,t110]:List Int))).bind fun t114=>(some t114)))=some r:=H;have A6:=Z A60;clear A60;replace H:=Option.bind_eq_some_iff.mp H;obtain⟨t110,A70,H⟩:=H;replace H:((cmp_Or_int.f k (([t109,t110]:List Int))).bind fun t114=>(some t114))=some r:=H;have A7:=Z A70;clear A70;obtain⟨y111,hy111⟩:∃y_:List Int,y_=(([t109,t110]:List Int)):=⟨_,rfl⟩;replace H:((cmp_Or_int.f k y111).bind fun t114=>(some t114))=some r:=by first|(rw[hy111];with_reducible exact H)|(have H2_:=(Option.bind_some _ _).symm.trans H;rw[hy111];with_reducible exact H2_)|(have H2_:=(Option.bind_some _ _).symm.trans H;with_reducible exact H2_)|with_reducible exact H|(rw[hy111];exact H)|exact H
 have Ny111:=Z hy111;clear hy111;replace H:=Option.bind_eq_some_iff.mp H;obtain⟨t114,A80,H⟩:=H;replace H:(some t114)=some r:=H;have A8:=Z A80;clear A80;obtain rfl:=Option.some.inj H;go_enter Tryz.func106,Tryz.ntmps106
 try go_wp2_with (first|((with_reducible refine gate_dst (N:=4) rfl ?_);refine box_event ?hg (N:=4) ?hd (cs:=#[.int .u64 a1_0,.int .i64 a1_1]) (t:=38) ?hr ?_;(case hd=>rfl);(case hg=>rfl);(case hr=>first|(go_simp;done)|(go_simp;rfl));intro gb105 hg w9 hbox hb;have n0_:=Z (zD (by repeat (first|(with_reducible first|exact HB.o|apply zB|apply zL|apply zZ)|exact HB.o)) hb);have n1_:=Z (hbox);have n2_:=Z ((by rw[hg];exact(vW (by repeat (first|(with_reducible first|exact HB.o|apply zB|apply zL|apply zZ)|exact HB.o))):w.heap.size≤gb105));have n3_:=Z ((by rw[hg];exact(vW (by repeat (first|(with_reducible first|exact HB.o|apply zB|apply zL|apply zZ)|exact HB.o))):w.heap.size≤gb105));clear HB;have HB:=n0_;have BK105:=n1_;have GW105:=n2_;have GE105:=n3_;clear n0_ n1_ n2_ n3_;clear hb hbox hg)|((with_reducible refine gate_dst (N:=5) rfl ?_);refine box_event ?hg (N:=5) ?hd (cs:=#[.int .u64 a2_0,.int .i64 a2_1]) (t:=38) ?hr ?_;(case hd=>rfl);(case hg=>rfl);(case hr=>first|(go_simp;done)|(go_simp;rfl));intro gb106 hg w10 hbox hb;have n0_:=Z (zH (g:=gb105) (o:=.cells #[.int .u64 a1_0,.int .i64 a1_1] 38 (0,0)) (by(with_reducible repeat (first|apply qU|apply qJ|apply wV));exact BK105.o) hb);have n1_:=Z (zD (by repeat (first|(with_reducible first|exact HB.o|apply zB|apply zL|apply zZ|refine yX ?_ GE105.o)|exact HB.o)) hb);have n2_:=Z (hbox);have n3_:=Z ((by rw[hg];exact(vW (by repeat (first|(with_reducible first|exact HB.o|apply zB|apply zL|apply zZ|refine yX ?_ GE105.o)|exact HB.o))):w.heap.size≤gb106));have n4_:=Z ((by rw[hg];exact(vW (by repeat (first|(with_reducible first|exact HB.o|apply zB|apply zL|apply zZ|refine yX ?_ GE105.o)|exact HB.o))):w.heap.size≤gb106));have n5_:=Z ((by rw[hg];exact Nat.ne_of_lt (zaB (g:=gb105) (o:=.cells #[.int .u64 a1_0,.int .i64 a1_1] 38 (0,0)) (by(with_reducible repeat (first|apply qU|apply qJ|apply wV));exact BK105.o)):gb105≠gb106));have n6_:=Z ((by rw[hg];exact Nat.ne_of_gt (zaB (g:=gb105) (o:=.cells #[.int .u64 a1_0,.int .i64 a1_1] 38 (0,0)) (by(with_reducible repeat (first|apply qU|apply qJ|apply wV));exact BK105.o)):gb106≠gb105));clear BK105 HB;have BK105:=n0_;have HB:=n1_;have BK106:=n2_;have GW106:=n3_;have GE106:=n4_;have NB105_106:=n5_;have NB106_105:=n6_;clear n0_ n1_ n2_ n3_ n4_ n5_ n6_;clear hb hbox hg))
 have n0_:=Z (qJ BK105.o);have n1_:=Z (qJ BK106.o);have n2_:=Z (zZ HB.o);clear BK105 BK106 HB;have BK105:=n0_;have BK106:=n1_;have HB:=n2_;clear n0_ n1_ n2_;refine qK (n:=17) (S:=fun w'=>w'.cell? ⟨gb105,0,none⟩=some (.int .u64 a1_0)∧w'.cell? ⟨gb105,1,none⟩=some (.int .i64 a1_1)∧w'.cell? ⟨gb106,0,none⟩=some (.int .u64 a2_0)∧w'.cell? ⟨gb106,1,none⟩=some (.int .i64 a2_1)) (ds:=[]) #[false,false,false,false,false,false,false,false,false,false,false,false,false,false,false,false,false] (by kernel_rfl) rfl rfl ⟨(zC BK105.o 0).trans rfl,(zC BK105.o 1).trans rfl,(zC BK106.o 0).trans rfl,(zC BK106.o 1).trans rfl⟩ (fun hHeld=>?_);refine with_tabW key_compare.tab1 key_compare.bits1 (fun HT_ HW_=>?_);generalize w10.drew=w11 at BK105 BK106 HB hHeld⊢;refine zaM (i:=0) (N:=some 7) (v:=?_) (a':=?_) #[true,false,false,false,false,false,false,false,false,false,false,false,false,false,false,false,false] rfl rfl (zaw HT_.o (by kernel_rfl)) (fun _ _ _ h=>h) (Or.inl ⟨by rfl,?_⟩) ?_ ?_;rotate_left
 ·intro w'
  go_simp
  with_reducible rfl
 rotate_left
 ·simp only[Act.put,List.setIfInBounds_toArray,List.set_cons_zero,List.set_cons_succ,yO,yP]
  rfl
 refine zaM (i:=2) (N:=some 9) (v:=?_) (a':=?_) #[true,false,true,false,false,false,false,false,false,false,false,false,false,false,false,false,false] rfl rfl (zaw HT_.o (by kernel_rfl)) (fun _ _ _ h=>h) (Or.inl ⟨by rfl,?_⟩) ?_ ?_;rotate_left
 ·intro w'
  go_simp
  with_reducible rfl
 rotate_left
 ·simp only[Act.put,List.setIfInBounds_toArray,List.set_cons_zero,List.set_cons_succ,yO,yP]
  rfl
 refine zaM (i:=4) (N:=some 11) (v:=?_) (a':=?_) #[true,false,true,false,true,false,false,false,false,false,false,false,false,false,false,false,false] rfl rfl (zaw HT_.o (by kernel_rfl)) (fun _ _ _ h=>h) (Or.inl ⟨by rfl,?_⟩) ?_ ?_;rotate_left
 ·intro w'
  go_simp
  with_reducible rfl
 rotate_left
 ·simp only[Act.put,List.setIfInBounds_toArray,List.set_cons_zero,List.set_cons_succ,yO,yP]
  rfl
 refine zaM (i:=6) (N:=some 13) (v:=?_) (a':=?_) #[true,false,true,false,true,false,true,false,false,false,false,false,false,false,false,false,false] rfl rfl (zaw HT_.o (by kernel_rfl)) (fun _ _ _ h=>h) (Or.inl ⟨by rfl,?_⟩) ?_ ?_;rotate_left
 ·intro w'
  go_simp
  with_reducible rfl
 rotate_left
 ·simp only[Act.put,List.setIfInBounds_toArray,List.set_cons_zero,List.set_cons_succ,yO,yP]
  rfl
 refine zaM (i:=9) (N:=some 16) (v:=?_) (a':=?_) #[true,false,true,false,true,false,true,false,false,true,false,false,false,false,false,false,false] rfl rfl (zaw HT_.o (by kernel_rfl)) (fun _ _ _ h=>h) (Or.inl ⟨by rfl,?_⟩) ?_ ?_;rotate_left
 ·intro w'
  go_simp
  with_reducible rfl
 rotate_left
 ·simp only[Act.put,List.setIfInBounds_toArray,List.set_cons_zero,List.set_cons_succ,yO,yP]
  rfl
 refine zaM (i:=11) (N:=some 18) (v:=?_) (a':=?_) #[true,false,true,false,true,false,true,false,false,true,false,true,false,false,false,false,false] rfl rfl (zaw HT_.o (by kernel_rfl)) (fun _ _ _ h=>h) (Or.inl ⟨by rfl,?_⟩) ?_ ?_;rotate_left
 ·intro w'
  go_simp
  with_reducible rfl
 rotate_left
 ·simp only[Act.put,List.setIfInBounds_toArray,List.set_cons_zero,List.set_cons_succ,yO,yP]
  rfl
 refine take_ (i:=1) (N:=some 8) (v:=?_) (a':=?_) #[true,true,true,false,true,false,true,false,false,true,false,true,false,false,false,false,false] rfl rfl (zbM HT_.o HW_.o (by kernel_rfl)) (fun _ _ _ h=>h) (Or.inl ⟨by rfl,?_⟩) hHeld ?_ ?_;rotate_left
 ·rintro w' ⟨s0,s1,s2,s3⟩
  go_simp
  with_reducible rfl
 rotate_left
 ·simp only[Act.put,List.setIfInBounds_toArray,List.set_cons_zero,List.set_cons_succ,yO,yP]
  rfl
 refine take_ (i:=5) (N:=some 12) (v:=?_) (a':=?_) #[true,true,true,false,true,true,true,false,false,true,false,true,false,false,false,false,false] rfl rfl (zbM HT_.o HW_.o (by kernel_rfl)) (fun _ _ _ h=>h) (Or.inl ⟨by rfl,?_⟩) hHeld ?_ ?_;rotate_left
 ·rintro w' ⟨s0,s1,s2,s3⟩
  go_simp
  with_reducible rfl
 rotate_left
 ·simp only[Act.put,List.setIfInBounds_toArray,List.set_cons_zero,List.set_cons_succ,yO,yP]
  rfl
 refine take_ (i:=10) (N:=some 17) (v:=?_) (a':=?_) #[true,true,true,false,true,true,true,false,false,true,true,true,false,false,false,false,false] rfl rfl (zbM HT_.o HW_.o (by kernel_rfl)) (fun _ _ _ h=>h) (Or.inl ⟨by rfl,?_⟩) hHeld ?_ ?_;rotate_left
 ·rintro w' ⟨s0,s1,s2,s3⟩
  go_simp
  with_reducible rfl
 rotate_left
 ·simp only[Act.put,List.setIfInBounds_toArray,List.set_cons_zero,List.set_cons_succ,yO,yP]
  rfl
 refine take_ (i:=12) (N:=some 19) (v:=?_) (a':=?_) #[true,true,true,false,true,true,true,false,false,true,true,true,true,false,false,false,false] rfl rfl (zbM HT_.o HW_.o (by kernel_rfl)) (fun _ _ _ h=>h) (Or.inl ⟨by rfl,?_⟩) hHeld ?_ ?_;rotate_left
 ·rintro w' ⟨s0,s1,s2,s3⟩
  go_simp
  with_reducible rfl
 rotate_left
 ·simp only[Act.put,List.setIfInBounds_toArray,List.set_cons_zero,List.set_cons_succ,yO,yP]
  rfl
 refine one_ (i:=3) (N:=some 10) #[true,true,true,true,true,true,true,false,false,true,true,true,true,false,false,false,false] rfl rfl (zbd HT_.o (by kernel_rfl)) (by decide) (fun K hK=>?_);refine qY Tryz.func39 (by kernel_rfl) rfl #[.int .u64 a1_0,.int .u64 a0] (by rfl) rfl rfl (by(try simp only[List.map_toArray,List.map_cons,List.map_nil]);first|done|rfl|(simp only[List.length_drop,List.length_take];rfl)) ?_
 with_reducible refine(turn_Lag.calls a1_0 a0 t107 _ A4.o).mono ?_
 rintro e w' ⟨rfl,⟨nd,rfl⟩⟩;refine⟨_,rfl,?_⟩;refine hK.out _ _ ⟨(zC BK105.o 0).trans rfl,(zC BK105.o 1).trans rfl,(zC BK106.o 0).trans rfl,(zC BK106.o 1).trans rfl⟩ (fun hHeld=>?_);clear hK K;refine xG (a':=?_) ?_ ?_;rotate_left
 ·show Act.put _ (some 10) _=_;simp only[Act.put,List.setIfInBounds_toArray,List.set_cons_zero,List.set_cons_succ,yO,yP]
  rfl
 refine one_ (i:=7) (N:=some 14) #[true,true,true,true,true,true,true,true,false,true,true,true,true,false,false,false,false] rfl rfl (zbd HT_.o (by kernel_rfl)) (by decide) (fun K hK=>?_);refine qY Tryz.func39 (by kernel_rfl) rfl #[.int .u64 a2_0,.int .u64 a0] (by rfl) rfl rfl (by(try simp only[List.map_toArray,List.map_cons,List.map_nil]);first|done|rfl|(simp only[List.length_drop,List.length_take];rfl)) ?_
 with_reducible refine(turn_Lag.calls a2_0 a0 t108 _ A5.o).mono ?_
 rintro e w' ⟨rfl,⟨nd,rfl⟩⟩;refine⟨_,rfl,?_⟩;refine hK.out _ _ ⟨(zC BK105.o 0).trans rfl,(zC BK105.o 1).trans rfl,(zC BK106.o 0).trans rfl,(zC BK106.o 1).trans rfl⟩ (fun hHeld=>?_);clear hK K;refine xG (a':=?_) ?_ ?_;rotate_left
 ·show Act.put _ (some 14) _=_;simp only[Act.put,List.setIfInBounds_toArray,List.set_cons_zero,List.set_cons_succ,yO,yP]
  rfl
 refine one_ (i:=8) (N:=some 15) #[true,true,true,true,true,true,true,true,true,true,true,true,true,false,false,false,false] rfl rfl (zbd HT_.o (by kernel_rfl)) (by decide) (fun K hK=>?_);refine qY Tryz.func138 (by kernel_rfl) rfl #[.int .i64 t107,.int .i64 t108] (by rfl) rfl rfl (by(try simp only[List.map_toArray,List.map_cons,List.map_nil]);first|done|rfl|(simp only[List.length_drop,List.length_take];rfl)) ?_
 with_reducible refine(cmp_Compare_int.calls t107 t108 t109 _ A6.o).mono ?_
 rintro e w' ⟨rfl,⟨nd,rfl⟩⟩;refine⟨_,rfl,?_⟩;refine hK.out _ _ ⟨(zC BK105.o 0).trans rfl,(zC BK105.o 1).trans rfl,(zC BK106.o 0).trans rfl,(zC BK106.o 1).trans rfl⟩ (fun hHeld=>?_);clear hK K;refine xG (a':=?_) ?_ ?_;rotate_left
 ·show Act.put _ (some 15) _=_;simp only[Act.put,List.setIfInBounds_toArray,List.set_cons_zero,List.set_cons_succ,yO,yP]
  rfl
 refine one_ (i:=13) (N:=some 20) #[true,true,true,true,true,true,true,true,true,true,true,true,true,true,false,false,false] rfl rfl (zbd HT_.o (by kernel_rfl)) (by decide) (fun K hK=>?_);refine qY Tryz.func138 (by kernel_rfl) rfl #[.int .i64 a1_1,.int .i64 a2_1] (by rfl) rfl rfl (by(try simp only[List.map_toArray,List.map_cons,List.map_nil]);first|done|rfl|(simp only[List.length_drop,List.length_take];rfl)) ?_
 with_reducible refine(cmp_Compare_int.calls a1_1 a2_1 t110 _ A7.o).mono ?_
 rintro e w' ⟨rfl,⟨nd,rfl⟩⟩;refine⟨_,rfl,?_⟩;refine hK.out _ _ ⟨(zC BK105.o 0).trans rfl,(zC BK105.o 1).trans rfl,(zC BK106.o 0).trans rfl,(zC BK106.o 1).trans rfl⟩ (fun hHeld=>?_);clear hK K;refine xG (a':=?_) ?_ ?_;rotate_left
 ·show Act.put _ (some 20) _=_;simp only[Act.put,List.setIfInBounds_toArray,List.set_cons_zero,List.set_cons_succ,yO,yP]
  rfl
 refine one_ (i:=14) (N:=some 21) #[true,true,true,true,true,true,true,true,true,true,true,true,true,true,true,false,false] rfl rfl (zbd HT_.o (by kernel_rfl)) (by decide) (fun K hK=>?_);refine Kd.jR (Kd.int .i64) _ 3 ?hg (N:=21) ?hd (xs:=([t109,t110]:List Int)) (inner:=[.int .i64 t109,.int .i64 t110]) (ok:=fun _=>True) (okp:=fun _=>True) ?hr ?hp (fun _ hk=>hk) trivial (Below.refl _ _) (Nat.le_refl _) (by simp) ?_;(case hd=>rfl);(case hg=>rfl);(case hr=>first|(go_simp;done)|(go_simp;rfl));(case hp=>exact(Reps.one (show Kd.M (Kd.int .i64) _ _ _ t109 [.int .i64 t109]from rfl) (Reps.one (show Kd.M (Kd.int .i64) _ _ _ t110 [.int .i64 t110]from rfl) (Reps.none _ _))))
 intro v112 w12 ho13 hb hg_ hnew_;clear hg_ hnew_
 (first|rw[←Ny111.o]at ho13|(simp only[Int.reduceToNat]at ho13;rw[←Ny111.o]at ho13))
 have n0_:=Z (Kd.qW ho13 (vW (by repeat (first|(with_reducible first|exact HB.o|apply zB|apply zL|apply zZ|refine yX ?_ GE105.o|refine yX ?_ GE106.o)|exact HB.o))));have n1_:=Z (zH (g:=gb105) (o:=.cells #[.int .u64 a1_0,.int .i64 a1_1] 38 (0,0)) (by(with_reducible repeat (first|apply qU|apply qJ|apply wV));exact BK105.o) hb);have n2_:=Z (zH (g:=gb106) (o:=.cells #[.int .u64 a2_0,.int .i64 a2_1] 38 (0,0)) (by(with_reducible repeat (first|apply qU|apply qJ|apply wV));exact BK106.o) hb);have n3_:=Z (zD (by repeat (first|(with_reducible first|exact HB.o|apply zB|apply zL|apply zZ|refine yX ?_ GE105.o|refine yX ?_ GE106.o)|exact HB.o)) hb);clear BK105 BK106 HB;have HO113:=n0_;have BK105:=n1_;have BK106:=n2_;have HB:=n3_;clear n0_ n1_ n2_ n3_;clear hb ho13;obtain⟨Ao14,co14,eo14⟩:=Kd.R_slice HO113.o
 (first|subst eo14|(injection eo14 with f1_ f2_ f3_;have f4_:=f1_.symm;have f5_:=f3_.symm;clear f1_ f2_ f3_;subst f4_;subst f5_))
 refine hK.out _ _ ⟨(zC BK105.o 0).trans rfl,(zC BK105.o 1).trans rfl,(zC BK106.o 0).trans rfl,(zC BK106.o 1).trans rfl⟩ (fun hHeld=>?_);clear hK K;refine xG (a':=?_) ?_ ?_;rotate_left
 ·show Act.put _ (some 21) _=_;simp only[Act.put,List.setIfInBounds_toArray,List.set_cons_zero,List.set_cons_succ,yO,yP]
  rfl
 refine one_ (i:=15) (N:=some 22) #[true,true,true,true,true,true,true,true,true,true,true,true,true,true,true,true,false] rfl rfl (zbd HT_.o (by kernel_rfl)) (by decide) (fun K hK=>?_);refine qY Tryz.func137 (by kernel_rfl) rfl #[.slice Ao14 y111.length co14] (by rfl) rfl rfl (by(try simp only[List.map_toArray,List.map_cons,List.map_nil]);first|done|rfl|(simp only[List.length_drop,List.length_take];rfl)) ?_
 with_reducible refine(cmp_Or_int.calls k _ _ y111 t114 _ ?side1 ?side2 A8.o).mono ?_
 (case side1=>repeat (first|exact(Kd.vC HO113.o).2.2|(with_reducible refine Kd.C_alloc ?_ _)|(with_reducible refine Kd.C_drewN ?_ _)|(with_reducible refine Kd.C_drew ?_)))
 (case side2=>exact(Kd.vC HO113.o).2.1)
 rintro e w' ⟨rfl,⟨nd,rfl⟩⟩;refine⟨_,rfl,?_⟩;refine hK.out _ _ ⟨(zC BK105.o 0).trans rfl,(zC BK105.o 1).trans rfl,(zC BK106.o 0).trans rfl,(zC BK106.o 1).trans rfl⟩ (fun hHeld=>?_);clear hK K;refine xG (a':=?_) ?_ ?_;rotate_left
 ·show Act.put _ (some 22) _=_;simp only[Act.put,List.setIfInBounds_toArray,List.set_cons_zero,List.set_cons_succ,yO,yP]
  rfl
 refine zaM (i:=16) (N:=some 6) (v:=?_) (a':=?_) #[true,true,true,true,true,true,true,true,true,true,true,true,true,true,true,true,true] rfl rfl (zaw HT_.o (by kernel_rfl)) (fun _ _ _ h=>h) (Or.inl ⟨by rfl,?_⟩) ?_ ?_;rotate_left
 ·intro w'
  go_simp
  with_reducible rfl
 rotate_left
 ·simp only[Act.put,List.setIfInBounds_toArray,List.set_cons_zero,List.set_cons_succ,yO,yP]
  rfl
 refine qG (done_of HT_.o (by kernel_rfl)) ?_
 try go_wp2
 go_ret;exact⟨by first|rfl|(simp[xV,xU]<;>rfl)|(simp[*,xV,xU]<;>rfl),by repeat (first|(with_reducible first|exact HB.o|apply zB|apply zL|apply zZ|refine yX ?_ GE105.o|refine yX ?_ GE106.o)|exact HB.o)⟩
def bits_Mul64.f (a0:Int) (a1:Int):Option (Int × Int):=some (IntKind.u64.wrap ((IntKind.u64.wrap ((IntKind.u64.wrap ((a0 / 4294967296)*(a1 / 4294967296)))+((IntKind.u64.wrap ((IntKind.u64.wrap ((a0 / 4294967296)*(Go.bits .and .u64 a1 4294967295)))+((IntKind.u64.wrap ((Go.bits .and .u64 a0 4294967295)*(Go.bits .and .u64 a1 4294967295))) / 4294967296))) / 4294967296)))+((IntKind.u64.wrap ((Go.bits .and .u64 (IntKind.u64.wrap ((IntKind.u64.wrap ((a0 / 4294967296)*(Go.bits .and .u64 a1 4294967295)))+((IntKind.u64.wrap ((Go.bits .and .u64 a0 4294967295)*(Go.bits .and .u64 a1 4294967295))) / 4294967296))) 4294967295)+(IntKind.u64.wrap ((Go.bits .and .u64 a0 4294967295)*(a1 / 4294967296))))) / 4294967296)),IntKind.u64.wrap (a0*a1))
theorem bits_Mul64.calls (a0:Int) (a1:Int) (r1:Int) (r2:Int) (w:World) (h:bits_Mul64.f a0 a1=some (r1,r2)) :
  Calls Tryz.prog 152 #[.int .u64 a0,.int .u64 a1] w fun e w'=>e=.returned (.tuple #[.int .u64 r1,.int .u64 r2])∧zI w w':=by
 have H:(some (IntKind.u64.wrap ((IntKind.u64.wrap ((IntKind.u64.wrap ((a0 / 4294967296)*(a1 / 4294967296)))+((IntKind.u64.wrap ((IntKind.u64.wrap ((a0 / 4294967296)*(Go.bits .and .u64 a1 4294967295)))+((IntKind.u64.wrap ((Go.bits .and .u64 a0 4294967295)*(Go.bits .and .u64 a1 4294967295))) / 4294967296))) / 4294967296)))+((IntKind.u64.wrap ((Go.bits .and .u64 (IntKind.u64.wrap ((IntKind.u64.wrap ((a0 / 4294967296)*(Go.bits .and .u64 a1 4294967295)))+((IntKind.u64.wrap ((Go.bits .and .u64 a0 4294967295)*(Go.bits .and .u64 a1 4294967295))) / 4294967296))) 4294967295)+(IntKind.u64.wrap ((Go.bits .and .u64 a0 4294967295)*(a1 / 4294967296))))) / 4294967296)),IntKind.u64.wrap (a0*a1)))=some (r1,r2):=h;clear h;simp only[Option.some.injEq,Prod.mk.injEq]at H;obtain⟨rfl,rfl⟩:=H;go_enter Tryz.func152,Tryz.ntmps152;go_wp2
 go_ret2
 exact⟨by first|rfl|(simp;done)|(simp[*];done),by repeat (first|exact zI.refl _|apply zI.step)⟩
def bits_Mul.f (a0:Int) (a1:Int):Option (Int × Int):=(bits_Mul64.f a0 a1).bind fun bt127=>(some (bt127.1,bt127.2))
theorem bits_Mul.calls (a0:Int) (a1:Int) (r1:Int) (r2:Int) (w:World) (h:bits_Mul.f a0 a1=some (r1,r2)) :
  Calls Tryz.prog 142 #[.int .u64 a0,.int .u64 a1] w fun e w'=>e=.returned (.tuple #[.int .u64 r1,.int .u64 r2])∧zI w w':=by
 have H:((bits_Mul64.f a0 a1).bind fun bt127=>(some (bt127.1,bt127.2)))=some (r1,r2):=h;clear h;replace H:=Option.bind_eq_some_iff.mp H;obtain⟨⟨t127,t128⟩,A30,H⟩:=H;replace H:(some (t127,t128))=some (r1,r2):=H;have A3:=Z A30;clear A30;simp only[Option.some.injEq,Prod.mk.injEq]at H;obtain⟨rfl,rfl⟩:=H;go_enter Tryz.func142,Tryz.ntmps142;go_wp2_with (first|((with_reducible refine zV (f:=152) rfl ?_);refine yZ (some 25) rfl rfl Tryz.func152 (by kernel_rfl) rfl #[.int .u64 a0,.int .u64 a1] rfl (by(try simp only[List.map_toArray,List.map_cons,List.map_nil]);first|done|rfl|(simp only[List.length_drop,List.length_take];rfl)) ?_;(with_reducible refine(bits_Mul64.calls a0 a1 t127 t128 _ A3.o).mono ?_);rintro e w' ⟨rfl,⟨nd,rfl⟩⟩;refine⟨_,rfl,?_⟩))
 go_ret2
 exact⟨by first|rfl|(simp;done)|(simp[*];done),by repeat (first|exact zI.refl _|apply zI.step)⟩
end Go.Proofs.YtnkhnnojdlgfjaaGreatDoor.TC
