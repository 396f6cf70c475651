/- Parts of the proof, joined: TD, RD, R3. -/
import Derived.Test.YtnkhnnojdlgfjaaGreatDoorUI31
import Derived.Test.YtnkhnnojdlgfjaaGreatDoorUI30
set_option linter.unusedVariables false
set_option linter.unusedSimpArgs false
set_option maxHeartbeats 32000000
set_option maxRecDepth 100000
section
namespace Go.Proofs.YtnkhnnojdlgfjaaGreatDoor.TW
open RowKit WideMath Qu Tm Tk PA
theorem zcI {a b:Int}(ha0:0≤a) (ha1:a<18446744073709551616) (hb0:0≤b) (hb1:b<18446744073709551616):0≤a*b∧a*b≤340282366920938463426481119284349108225:=by
 refine⟨Int.mul_nonneg ha0 hb0,?_⟩;have h:=Int.mul_le_mul (show a≤18446744073709551615 by omega) (show b≤18446744073709551615 by omega) hb0 (by decide)
 simpa using h
theorem mul (a b:Int) (ha0:0≤a) (ha1:a<18446744073709551616) (hb0:0≤b) (hb1:b<18446744073709551616) :
  wide_Mul.f a b=some (a*b / 18446744073709551616,a*b%18446744073709551616):=by
 unfold wide_Mul.f;rw[and32 a ha0 ha1,and32 b hb0 hb1];obtain⟨x,hx⟩:∃x,a / 4294967296=x:=⟨_,rfl⟩;obtain⟨y,hy⟩:∃y,a%4294967296=y:=⟨_,rfl⟩;obtain⟨p,hp⟩:∃p,b / 4294967296=p:=⟨_,rfl⟩;obtain⟨q,hq⟩:∃q,b%4294967296=q:=⟨_,rfl⟩;have ea:a=x*4294967296+y:=by omega
 have eb:b=p*4294967296+q:=by omega
 have hm:=mul_parts x y p q;rw[←ea,←eb]at hm;rw[hx,hy,hp,hq];have b1:=mul_bd (x:=x) (q:=p) (by omega) (by omega) (by omega) (by omega);have b2:=mul_bd (x:=x) (q:=q) (by omega) (by omega) (by omega) (by omega);have b3:=mul_bd (x:=y) (q:=p) (by omega) (by omega) (by omega) (by omega);have b4:=mul_bd (x:=y) (q:=q) (by omega) (by omega) (by omega) (by omega);have b5:=zcI ha0 ha1 hb0 hb1;clear hx hy hp hq ea eb;generalize x*p=A at *
 generalize x*q=B at *
 generalize y*p=C at *
 generalize y*q=D at *
 generalize a*b=P at *
 have w1:IntKind.u64.wrap A=A:=wid (by omega) (by omega);have w2:IntKind.u64.wrap B=B:=wid (by omega) (by omega);have w3:IntKind.u64.wrap C=C:=wid (by omega) (by omega);have w4:IntKind.u64.wrap D=D:=wid (by omega) (by omega);rw[w1,w2,w3,w4];have w5:IntKind.u64.wrap (B+D / 4294967296)=B+D / 4294967296:=wid (by omega) (by omega);rw[w5,and32 (B+D / 4294967296) (by omega) (by omega),and32 D (by omega) (by omega)];have w6:IntKind.u64.wrap (C+(B+D / 4294967296)%4294967296)=C+(B+D / 4294967296)%4294967296:=wid (by omega) (by omega);rw[w6];have w7:IntKind.u64.wrap (A+(B+D / 4294967296) / 4294967296)=A+(B+D / 4294967296) / 4294967296:=wid (by omega) (by omega);rw[w7];have w8:IntKind.u64.wrap (A+(B+D / 4294967296) / 4294967296+(C+(B+D / 4294967296)%4294967296) / 4294967296)=P / 18446744073709551616:=by rw[wu];omega
 rw[w8];have w9:IntKind.u64.wrap ((C+(B+D / 4294967296)%4294967296)*4294967296)=((C+(B+D / 4294967296)%4294967296)%4294967296)*4294967296:=by rw[wu];omega
 rw[w9,or32 _ _ (by omega) (by omega) (by omega) (by omega) (by omega)];have w10:(C+(B+D / 4294967296)%4294967296)%4294967296*4294967296+D%4294967296=P%18446744073709551616:=by omega
 rw[w10]
theorem div (h l d:Int) (hh0:0≤h) (hl0:0≤l) (hl1:l<18446744073709551616) (hd1:d<18446744073709551616) :
  wide_Div.f h l d=if d≤h then some (0,0,false)else some ((h*18446744073709551616+l) / d,(h*18446744073709551616+l)%d,true):=by
 unfold wide_Div.f;rw[if_pos ⟨hh0,hl0,by omega,by omega⟩];rfl
def scl (P d:Int):Int:=if d≤P / 18446744073709551616 then 18446744073709551615 else P / d
theorem scale (a b d:Int) (ha0:0≤a) (ha1:a<18446744073709551616) (hb0:0≤b) (hb1:b<18446744073709551616) (hd1:d<18446744073709551616) :
  wide_Scale.f a b d=some (scl (a*b) d):=by
 have bd:=zcI ha0 ha1 hb0 hb1;unfold wide_Scale.f scl;rw[mul a b ha0 ha1 hb0 hb1];simp only[Option.bind_some];rw[div _ _ _ (by omega) (by omega) (by omega) hd1];have e:a*b / 18446744073709551616*18446744073709551616+a*b%18446744073709551616=a*b:=by omega
 by_cases c:d≤a*b / 18446744073709551616
 ·rw[if_pos c,if_pos c];rfl
 rw[if_neg c,if_neg c,e];rfl
theorem delta (d w:Int) (h0:0≤d) (h1:d≤1099511627776) (w0:1≤w) (w1:w≤88761):weight_Delta.f d w=some (jE d w,0):=by
 unfold weight_Delta.f jE;rw[if_neg (by omega),if_neg (by omega),wid (n:=d) (by omega) (by omega),wid (n:=w) (by omega) (by omega),scale d 1024 w (by omega) (by omega) (by omega) (by omega) (by omega),Option.bind_some];have e:scl (d*1024) w=d*1024 / w:=by
  unfold scl;rw[if_neg (by omega)]
 rw[e];have h2:0≤d*1024 / w:=Int.ediv_nonneg (by omega) (by omega);generalize d*1024 / w=m at *
 have e2:wrap64 (mn m 281474976710656)=if 281474976710656<m then 281474976710656 else m:=by
  unfold mn;rw[wr64]
  repeat' split
  all_goals omega
 rw[e2]
theorem delta_ (d w:Int) (h0:0≤d) (h1:d≤1099511627776) (w0:1≤w) (w1:w≤88761) (W:World):Calls Tryz.prog 58 #[.int .i64 d,.int .i64 w] W fun e w'=>e=.returned (.tuple #[.int .i64 (jE d w),.int .i64 0])∧Below W.heap.size W w':=by
 refine(weight_Delta.calls d w (jE d w) 0 W (delta d w h0 h1 w0 w1)).mono ?_;rintro e w' ⟨rfl,hb⟩;exact⟨rfl,hb⟩
theorem step_f (v mn d:Int) (h0:0≤d) (h1:d≤281474976710656) (h2:lagf mn v≤1125899906842624):turn_Step.f v mn d=some (vX v mn d):=by
 unfold turn_Step.f turn_Lag.f;rw[Option.bind_some];show(if d<1 then some v else if lagf mn v≥1125899906842624 then some v else _)=_;unfold vX;by_cases c:d<1
 ·rw[if_pos c,if_pos (Or.inl c)]
 rw[if_neg c];by_cases c2:lagf mn v≥1125899906842624
 ·rw[if_pos c2,if_pos (Or.inr c2)]
 rw[if_neg c2,if_neg (by omega)];unfold turn_between_uint64.f;rw[wid (n:=d) (by omega) (by omega),if_neg (by omega)];unfold lagf;generalize IntKind.u64.wrap (1125899906842624-IntKind.u64.wrap (wrap64 (IntKind.u64.wrap (v-mn))))=m;by_cases c3:m<d
 ·rw[if_pos (show d > m from c3),if_pos c3];rfl
 rw[if_neg (show ¬d > m from c3),if_neg c3];rfl
theorem step_ (v mn d:Int) (h0:0≤d) (h1:d≤281474976710656) (h2:lagf mn v≤1125899906842624) (W:World):Calls Tryz.prog 59 #[.int .u64 v,.int .u64 mn,.int .i64 d] W fun e w'=>e=.returned (.int .u64 (vX v mn d))∧Below W.heap.size W w':=by
 refine(turn_Step.calls v mn d (vX v mn d) W (step_f v mn d h0 h1 h2)).mono ?_;rintro e w' ⟨rfl,hb⟩
 first|exact⟨rfl,hb.below⟩|exact⟨rfl,hb⟩
end Go.Proofs.YtnkhnnojdlgfjaaGreatDoor.TW
end
section
namespace Go.Proofs.YtnkhnnojdlgfjaaGreatDoor.TW
open RowKit RW WideMath Qu Tm Tk PA PB PC
theorem radd (h l m:Int) (hh0:0≤h) (hh1:h<18446744073709551616) (hl0:0≤l) (hl1:l<18446744073709551616) (hm0:0≤m) (hm1:m<18446744073709551616) :
  turnspitref01_Add.f h l m=some ((h+(l+m) / 18446744073709551616)%18446744073709551616,(l+m)%18446744073709551616):=by
 unfold turnspitref01_Add.f;simp only[wu];by_cases c:(l+m)%18446744073709551616<l
 ·rw[if_pos c];have:(l+m) / 18446744073709551616=1:=by omega
  rw[this]
 rw[if_neg c];have:(l+m) / 18446744073709551616=0:=by omega
 rw[this,Int.add_zero,Int.emod_eq_of_lt hh0 hh1]
theorem rdouble (h l:Int) (hh0:0≤h) (hh1:2*h+1<18446744073709551616) (hl0:0≤l) (hl1:l<18446744073709551616) :
  turnspitref01_double.f h l 0=some (2*h+l / 9223372036854775808,2*l%18446744073709551616):=by
 unfold turnspitref01_double.f;rw[Int.tdiv_eq_ediv_of_nonneg hl0];simp only[wu];congr 2
 ·omega
 ·omega
theorem shr_is (a:Int) (n:Nat) (hn:n≤64):shr .u64 a (n:Int)=a / 2 ^ n:=by
 unfold shr;simp[IntKind.bits];rw[Nat.min_eq_left hn]
theorem half (a:Int) (ha0:0≤a) (n:Nat):a / 2 ^ n=2*(a / 2 ^ (n+1))+a / 2 ^ n%2:=by
 have hp:(0:Int)<2 ^ n:=Int.pow_pos (by decide);rw[Int.pow_succ,←Int.ediv_ediv_of_nonneg (Int.le_of_lt hp)];omega
theorem rmul (a b:Int) (ha0:0≤a) (ha1:a<18446744073709551616) (hb0:0≤b) (hb1:b<18446744073709551616) (n:Nat) :
  ∀(k:Nat) (h l:Int),n≤64→n<k→0≤h→0≤l→l<18446744073709551616→h*18446744073709551616+l=a / 2 ^ n*b→
   turnspitref01_Mul.l0 k a b h l ((n:Int)-1)=some (a*b / 18446744073709551616,a*b%18446744073709551616):=by
 induction n with
 | zero=>
  intro k h l _ hk hh0 hl0 hl1 hv;obtain⟨k,rfl⟩:∃m,k=m+1:=⟨k-1,by omega⟩;simp only[turnspitref01_Mul.l0];rw[if_neg (by omega)];simp at hv;rw[←hv];congr 2<;>omega
 | succ n ih=>
  intro k h l hn hk hh0 hl0 hl1 hv;obtain⟨k,rfl⟩:∃m,k=m+1:=⟨k-1,by omega⟩;have hq0:0≤a / 2 ^ n:=Int.ediv_nonneg ha0 (Int.le_of_lt (Int.pow_pos (by decide)));have hq1:a / 2 ^ n≤a:=Int.ediv_le_self _ ha0;have bd:=zcI hq0 (by omega) hb0 hb1;have hh:=half a ha0 n;have hbit0:0≤a / 2 ^ n%2:=by omega
  have hbit1:a / 2 ^ n%2≤1:=by omega
  have hval:a / 2 ^ n*b=2*(h*18446744073709551616+l)+a / 2 ^ n%2*b:=by
   rw[hv,←Int.mul_assoc,←Int.add_mul,←hh]
  have hbb:0≤a / 2 ^ n%2*b:=Int.mul_nonneg hbit0 hb0;have e0:(((n+1:Nat):Int)-1)=n:=by omega
  simp only[turnspitref01_Mul.l0];rw[e0,if_pos (by omega),rdouble h l hh0 (by omega) hl0 hl1];simp only[Option.bind_some];rw[if_pos (by omega),shr_is a n (by omega),Int.tmod_eq_emod_of_nonneg hq0];have ew:wrap64 ((n:Int)-1)=(n:Int)-1:=by unfold wrap64;omega
  rw[ew];by_cases c:a / 2 ^ n%2=1
  ·rw[c,Int.one_mul]at hval;rw[if_pos c,radd _ _ _ (by omega) (by omega) (by omega) (by omega) hb0 hb1];simp only[Option.bind_some];exact ih k _ _ (by omega) (by omega) (by omega) (by omega) (by omega) (by omega)
  ·have c0:a / 2 ^ n%2=0:=by omega
   rw[c0,Int.zero_mul]at hval;rw[if_neg c];exact ih k _ _ (by omega) (by omega) (by omega) (by omega) (by omega) (by omega)
theorem rMul (a b:Int) (ha0:0≤a) (ha1:a<18446744073709551616) (hb0:0≤b) (hb1:b<18446744073709551616) :
  turnspitref01_Mul.f 66 a b=some (a*b / 18446744073709551616,a*b%18446744073709551616):=by
 unfold turnspitref01_Mul.f;have e:a / 2 ^ 64=0:=Int.ediv_eq_zero_of_lt ha0 (by simpa using ha1);have e63:((64:Nat):Int)-1=63:=by decide
 have h:=rmul a b ha0 ha1 hb0 hb1 64 66 0 0 (by decide) (by decide) (by decide) (by decide) (by decide) (by rw[e,Int.zero_mul,Int.zero_mul];rfl);rw[e63]at h;exact h
theorem rdiv (h l d:Int) (hh0:0≤h) (hl0:0≤l) (hl1:l<18446744073709551616) (hd0:0<d) (hd1:d<18446744073709551616) (hlt:h<d) (n:Nat) :
  ∀(k:Nat),n≤64→n<k→
   turnspitref01_Div.l0 k l d (num h (bitsOf l (64-n))%d) (num h (bitsOf l (64-n)) / d) ((n:Int)-1)=some ((h*18446744073709551616+l) / d,(h*18446744073709551616+l)%d,true):=by
 induction n with
 | zero=>
  intro k _ hk;obtain⟨k,rfl⟩:∃m,k=m+1:=⟨k-1,by omega⟩;simp only[turnspitref01_Div.l0];rw[if_neg (by omega),num_all h l hl0 hl1]
 | succ n ih=>
  intro k hn hk;obtain⟨k,rfl⟩:∃m,k=m+1:=⟨k-1,by omega⟩;have e0:(((n+1:Nat):Int)-1)=n:=by omega
  have ew:wrap64 ((n:Int)-1)=(n:Int)-1:=by unfold wrap64;omega
  have hs:num h (bitsOf l (64-n))=2*num h (bitsOf l (64-(n+1)))+l / 2 ^ n%2:=by
   have e1:64-n=(64-(n+1))+1:=by omega
   have e2:63-(64-(n+1))=n:=by omega
   have e3:(bit l (64-(n+1))).1=l / 2 ^ n%2:=by
    show l / 2 ^ (63-(64-(n+1)))%2=l / 2 ^ n%2;rw[e2]
   rw[e1,zaX,num_snoc,e3]
  have q1:=quot_hi hd0 hlt (bitsOf l (64-(n+1))) (by rw[zat];omega);have hk':=ih k (by omega) (by omega);rw[hs]at hk';have lo:=num_lo h hh0 (bitsOf l (64-(n+1)));generalize num h (bitsOf l (64-(n+1)))=V at *
  have q0:0≤V / d:=Int.ediv_nonneg lo (by omega);have r0:0≤V%d:=Int.emod_nonneg _ (by omega);have r1:V%d<d:=Int.emod_lt_of_pos _ hd0;have hb0:0≤l / 2 ^ n%2:=by omega
  have hb1:l / 2 ^ n%2≤1:=by omega
  have hy:=fun g=>@step_yes V (l / 2 ^ n%2) d hd0 hb0 hb1 g
  have hnn:=fun g=>@step_no V (l / 2 ^ n%2) d hd0 hb0 g
  have hsq0:0≤l / 2 ^ n:=Int.ediv_nonneg hl0 (Int.le_of_lt (Int.pow_pos (by decide)));simp only[turnspitref01_Div.l0];rw[e0,ew,if_pos (by omega),if_pos (by omega),shr_is l n (by omega),Int.tmod_eq_emod_of_nonneg hsq0];simp only[wu];generalize l / 2 ^ n%2=x at *
  generalize V / d=q at *
  generalize V%d=r at *
  by_cases c:r≥9223372036854775808
  ·rw[if_pos c];obtain⟨f1,f2⟩:=hy (by omega);have g1:((r*2%18446744073709551616+x)%18446744073709551616-d)%18446744073709551616=(2*V+x)%d:=by rw[f2];omega
   have g2:(q*2%18446744073709551616+1)%18446744073709551616=(2*V+x) / d:=by rw[f1];omega
   rw[g1,g2];exact hk'
  ·rw[if_neg c];have g0:(r*2%18446744073709551616+x)%18446744073709551616=2*r+x:=by omega
   rw[g0];by_cases c2:2*r+x≥d
   ·rw[if_pos c2];obtain⟨f1,f2⟩:=hy (by omega);have g1:(2*r+x-d)%18446744073709551616=(2*V+x)%d:=by rw[f2];omega
    have g2:(q*2%18446744073709551616+1)%18446744073709551616=(2*V+x) / d:=by rw[f1];omega
    rw[g1,g2];exact hk'
   ·rw[if_neg c2];obtain⟨f1,f2⟩:=hnn (by omega);have g1:2*r+x=(2*V+x)%d:=by rw[f2]
    have g2:q*2%18446744073709551616=(2*V+x) / d:=by rw[f1];omega
    rw[g1,g2];exact hk'
theorem rDiv (h l d:Int) (hh0:0≤h) (hl0:0≤l) (hl1:l<18446744073709551616) (hd0:0≤d) (hd1:d<18446744073709551616) :
  turnspitref01_Div.f 67 h l d=if d≤h then some (0,0,false)else some ((h*18446744073709551616+l) / d,(h*18446744073709551616+l)%d,true):=by
 unfold turnspitref01_Div.f;by_cases z:d=0
 ·rw[if_pos z,if_pos (by omega)];rfl
 rw[if_neg z];by_cases c:d≤h
 ·rw[if_pos c,decide_eq_true (by omega)];rfl
 rw[if_neg c,decide_eq_false (by omega)];have:=rdiv h l d hh0 hl0 hl1 (by omega) hd1 (by omega) 64 66 (by omega) (by omega);have e1:num h (bitsOf l (64-64))=h:=rfl;have e63:((64:Nat):Int)-1=63:=by decide
 rw[e63,e1,Int.emod_eq_of_lt hh0 (by omega),Int.ediv_eq_zero_of_lt hh0 (by omega)]at this;exact this
theorem rScale (a b d:Int) (ha0:0≤a) (ha1:a<18446744073709551616) (hb0:0≤b) (hb1:b<18446744073709551616) (hd0:0≤d) (hd1:d<18446744073709551616) :
  turnspitref01_Scale.f 67 a b d=some (scl (a*b) d):=by
 have bd:=zcI ha0 ha1 hb0 hb1;have m:turnspitref01_Mul.f 67 a b=some (a*b / 18446744073709551616,a*b%18446744073709551616):=at_rounds (g:=fun k=>turnspitref01_Mul.f k a b) (fun k=>turnspitref01_Mul.mono a b k) (show 66≤67 by omega) (rMul a b ha0 ha1 hb0 hb1);unfold turnspitref01_Scale.f scl;rw[m];simp only[Option.bind_some];rw[rDiv _ _ _ (by omega) (by omega) (by omega) hd0 hd1];have e:a*b / 18446744073709551616*18446744073709551616+a*b%18446744073709551616=a*b:=by omega
 by_cases c:d≤a*b / 18446744073709551616
 ·rw[if_pos c,if_pos c];rfl
 rw[if_neg c,if_neg c,e];rfl
theorem rdelta (d w:Int) (h0:0≤d) (h1:d≤1099511627776) (w0:1≤w) (w1:w≤88761):turnspitref02_Delta.f 68 d w=some (jE d w,0):=by
 unfold turnspitref02_Delta.f jE;rw[if_neg (by omega),decide_eq_false (show ¬w<1 by omega)];simp only[turnspitref02_Delta.j0,Bool.false_eq_true,if_false];rw[wid (n:=d) (by omega) (by omega),wid (n:=w) (by omega) (by omega),rScale d 1024 w (by omega) (by omega) (by omega) (by omega) (by omega) (by omega),Option.bind_some];have e:scl (d*1024) w=d*1024 / w:=by
  unfold scl;rw[if_neg (by omega)]
 rw[e];have h2:0≤d*1024 / w:=Int.ediv_nonneg (by omega) (by omega);have h3:d*1024 / w≤d*1024:=Int.ediv_le_self _ (by omega);by_cases c:281474976710656<d*1024 / w
 ·rw[if_pos c,if_pos c]
 rw[if_neg c,if_neg c,show wrap64 (d*1024 / w)=d*1024 / w by unfold wrap64;omega]
theorem rdelta_ (d w:Int) (h0:0≤d) (h1:d≤1099511627776) (w0:1≤w) (w1:w≤88761) (W:World) (hT:Emp W):Calls Tryz.prog 101 #[.int .i64 d,.int .i64 w] W fun e w'=>e=.returned (.tuple #[.int .i64 (jE d w),.int .i64 0])∧Below W.heap.size W w':=by
 refine(turnspitref02_Delta.calls 68 d w (jE d w) 0 W hT (rdelta d w h0 h1 w0 w1)).mono ?_;rintro e w' ⟨rfl,hb⟩
 first|exact⟨rfl,hb.below⟩|exact⟨rfl,hb⟩
theorem rlag3 (v mn:Int):turnspitref03_Lag.f v mn=some (lagf mn v):=by
 unfold turnspitref03_Lag.f lagf;simp only[wu,wrap64];split
 ·rfl
 ·congr 1
  omega
theorem rstep_f (v mn d:Int) (h0:0≤d) (h1:d≤281474976710656):turnspitref03_Step.f 1 v mn d=some (vX v mn d):=by
 unfold turnspitref03_Step.f vX;rw[rlag3,Option.bind_some];have hL:=Z (show IntKind.u64.wrap (lagf mn v)=IntKind.u64.wrap (v-mn)from by unfold lagf;simp only[wu,wrap64];omega);generalize lagf mn v=l at hL⊢;by_cases c:d<1
 ·rw[if_pos c,if_pos (Or.inl c)];simp only[turnspitref03_Step.j0,if_true]
 rw[if_neg c];by_cases c2:1125899906842624≤l
 ·rw[decide_eq_true (show l≥1125899906842624 from c2),if_pos (Or.inr c2)];simp only[turnspitref03_Step.j0,if_true]
 rw[decide_eq_false (show ¬l≥1125899906842624 from c2),if_neg (show ¬(d<1∨1125899906842624≤l)by omega)];simp only[turnspitref03_Step.j0,turnspitref03_At.f,Bool.false_eq_true,if_false,Option.bind_some,hL.o];rw[wid (n:=d) (by omega) (by omega)];by_cases c3:IntKind.u64.wrap (1125899906842624-IntKind.u64.wrap (v-mn))<d;rotate_left
 ·rw[if_neg (show ¬d > _ from c3),if_neg c3]
 rw[if_pos (show d > _ from c3),if_pos c3]
 congr 1
 simp only[wu];omega
theorem rstep_ (v mn d:Int) (h0:0≤d) (h1:d≤281474976710656) (W:World) (hT:Emp W):Calls Tryz.prog 102 #[.int .u64 v,.int .u64 mn,.int .i64 d] W fun e w'=>e=.returned (.int .u64 (vX v mn d))∧Below W.heap.size W w':=by
 refine(turnspitref03_Step.calls 1 v mn d (vX v mn d) W hT (rstep_f v mn d h0 h1)).mono ?_;rintro e w' ⟨rfl,hb⟩
 first|exact⟨rfl,hb.below⟩|exact⟨rfl,hb⟩
theorem rlater_ (a b:Int) (w:World) (hT:Emp w):Calls Tryz.prog 133 #[.int .u64 a,.int .u64 b] w fun e w'=>e=.returned (.int .u64 (xB a b))∧Below w.heap.size w w':=by
 refine(turnspitref03_Later.calls a b (xB a b) w hT ?_).mono ?_
 ·unfold turnspitref03_Later.f turnspitref03_Before.f xB zcO;have h0:0≤IntKind.u64.wrap (b-a):=by rw[wu];omega
  generalize IntKind.u64.wrap (b-a)=d at h0⊢;by_cases h:d≥1;rotate_left
  ·obtain rfl:d=0:=by omega
   rfl
  rw[if_pos h,bne_iff_ne.2 (show d≠0 by omega),Option.bind_some,Bool.true_and];by_cases h2:d≤9223372036854775807
  ·rw[decide_eq_true h2,decide_eq_true (show d<9223372036854775808 by omega)];rfl
  rw[decide_eq_false h2,decide_eq_false (show ¬d<9223372036854775808 by omega)];rfl
 ·rintro e w' ⟨rfl,hb⟩;exact⟨rfl,hb.below⟩
theorem rclamp_ (x lo hi:Int) (w:World) (hT:Emp w):Calls Tryz.prog 93 #[.int .i64 x,.int .i64 lo,.int .i64 hi] w fun e w'=>e=.returned (.int .i64 (q9 x lo hi))∧Below w.heap.size w w':=by
 refine(turnspitref03_Clamp.calls x lo hi (q9 x lo hi) w hT ?_).mono ?_
 ·unfold turnspitref03_Clamp.f q9
  repeat' split
  all_goals first|rfl|omega
 ·rintro e w' ⟨rfl,hb⟩;exact⟨rfl,hb.below⟩
theorem rat_ (mn lag:Int) (w:World) (hT:Emp w):Calls Tryz.prog 92 #[.int .u64 mn,.int .i64 lag] w fun e w'=>e=.returned (.int .u64 (atA mn lag))∧Below w.heap.size w w':=by
 refine(turnspitref03_At.calls mn lag (atA mn lag) w hT rfl).mono ?_;rintro e w' ⟨rfl,hb⟩;exact⟨rfl,hb.below⟩
end Go.Proofs.YtnkhnnojdlgfjaaGreatDoor.TW
end
section
namespace Go.Proofs.YtnkhnnojdlgfjaaGreatDoor.Qw
open RowKit Tr Tk Tm Qu PA PB PC
variable {S : Nat → Prop} {A B : Option Addr} {c d : Nat} {w w' : World} {q : Q}
theorem zam (v mn:Int) (w:World) (hT:Emp w):Calls Tryz.prog 66 #[.int .u64 v,.int .u64 mn] w fun e w'=>e=.returned (.int .i64 (lagf mn v))∧Below w.heap.size w w':=by
 refine(RW.turnspitref03_Lag.calls v mn (lagf mn v) w hT (TW.rlag3 v mn)).mono ?_;rintro e w' ⟨rfl,hb⟩
 first|exact⟨rfl,hb.below⟩|exact⟨rfl,hb⟩
theorem rr_1 {q:Q}(h:yJ q.t q.mn=false):zP q=false:=right_T (by unfold okT;rw[h,Bool.and_false,Bool.and_false,Bool.and_false])
def okX (q:Q):Bool:=decide (q.ws.length=q.t.ns.length)&&(decide (-1≤q.cur)&&(decide (q.cur<(q.t.ns.length:Int))&&(if q.cur=-1 then q.v==0 else true)))
def okY (q:Q):Bool:=if q.cur=-1 then true else !(inA q.t q.cur)
theorem okTC (q:Q):(okT q&&okC q)=(yJ q.t q.mn&&(okX q&&okY q)):=by
 unfold okT okC okX okY;generalize yJ q.t q.mn=a;generalize decide (q.ws.length=q.t.ns.length)=b;generalize decide (-1≤q.cur)=c;generalize decide (q.cur<(q.t.ns.length:Int))=d;split<;>cases a<;>cases b<;>cases c<;>cases d<;>simp
theorem rr_2 {q:Q}(h:(okX q&&okY q)=false):zP q=false:=by
 have e:=okTC q;rw[h,Bool.and_false]at e;unfold zP;rw[←Bool.and_assoc,e,Bool.false_and]
theorem rr_4 {q:Q}(h1:yJ q.t q.mn=true) (h2:okX q=true) (h3:okY q=true) (h4:∀i,i<q.ws.length→okI q i=true):zP q=(sumA q.ws 0==q.load&&!((yH q).any (farA q.mn))):=by
 have e:=okTC q;rw[h1,h2,h3]at e;have e2:=(Bool.and_eq_true _ _).mp (e.trans rfl);exact right_E e2.1 e2.2 h4
structure FarI (kl:List K) (fa:K→Bool) (w:World) (i:Value) (n:Nat) (wr:World):Prop where mk::
 le:n≤kl.length
 hi:i=.int .i64 (n:Int)
 ok:∀t,t<n→fa (gt kl t)=false
 hb:Below w.heap.size w wr
structure FarL (kl:List K) (fa:K→Bool) (w:World) (i:Value) (wr:World):Prop where mk::
 o:∃n,FarI kl fa w i n wr
theorem any_no {kl:List K}{fa:K→Bool}(h:∀t,t<kl.length→fa (gt kl t)=false):kl.any fa=false:=List.any_eq_false.2 fun x hx=>by
 obtain⟨t,ht,rfl⟩:=List.mem_iff_getElem.1 hx;have:=h t ht;rw[qV kl t ht]at this;simp[this]
theorem kY (h:QIn S A c B d w q) (hT:Emp w):Calls Tryz.prog 21 #[.agg (qc A c B d q)] w fun e w'=>e=.returned (.bool (zP q))∧Below w.heap.size w w':=by
 have HQ:=Z h;have HT:=Z hT;clear h hT;have E1:=Z (fun h:yJ q.t q.mn=false=>rr_1 h);have E2:=Z (fun h:(okX q&&okY q)=false=>rr_2 h);have E3:=Z (fun i (hi:i<q.ws.length) (h:okI q i=false)=>right_W i hi h);have E4:=Z (fun(h0:yJ q.t q.mn=true) (h1:okX q=true) (h2:okY q=true) (h3:∀i,i<q.ws.length→okI q i=true)=>rr_4 h0 h1 h2 h3);have EX:=Z (show okX q=(decide (q.ws.length=q.t.ns.length)&&(decide (-1≤q.cur)&&(decide (q.cur<(q.t.ns.length:Int))&&(if q.cur=-1 then q.v==0 else true))))from rfl);have EY:=Z (show okY q=if q.cur=-1 then true else !(inA q.t q.cur)from rfl);obtain⟨qq,hqq⟩:∃qq,qq=q:=⟨_,rfl⟩;have HQQ:=Z hqq;generalize hrq:zP q=RQ at E1 E2 E3 E4⊢;generalize hox:okX q=OX at E2 E4 EX;generalize hoy:okY q=OY at E2 E4 EY;clear hrq hox hoy hqq;obtain⟨⟨ns,rt⟩,cur,v,mn,load,ws⟩:=q;replace HQQ:zA (qq=⟨⟨ns,rt⟩,cur,v,mn,load,ws⟩):=HQQ;have HK:=Z (fun(W:World) (h:QIn S A c B d W ⟨⟨ns,rt⟩,cur,v,mn,load,ws⟩) (hr:yJ ⟨ns,rt⟩ mn=true) (hc:-1≤cur)=>(show Calls Tryz.prog 65 #[.agg #[.int .i64 rt,.slice A ns.length c,.int .i64 cur,.int .u64 v,.int .u64 mn,.int .i64 load,.slice B ws.length d]] W fun e w'=>jU W (yH qq) e w' from by
  rw[HQQ.o];exact rkeys_ h hr hc))
 have HH:=Z (fun(W:World) (id:Int) (h:QIn S A c B d W ⟨⟨ns,rt⟩,cur,v,mn,load,ws⟩) (h0:0≤id) (h1:id<(ns.length:Int))=>(show Calls Tryz.prog 64 #[.agg #[.int .i64 rt,.slice A ns.length c,.int .i64 cur,.int .u64 v,.int .u64 mn,.int .i64 load,.slice B ws.length d],.int .i64 id] W fun e w'=>e=.returned (.bool (yV qq id))∧Below W.heap.size W w' from by
  rw[HQQ.o];exact rhere_ id h h0 h1))
 have HLN:=Z (fun(h1:yJ ⟨ns,rt⟩ mn=true) (hc:kH qq)=>(show(yH qq).length≤65 from by
  rw[HQQ.o]at hc⊢;exact zbW h1 hc))
 have HOI:=Z (fun i:Nat=>(show okI qq i=((yV qq (i:Int)==yF (ws.getD i 0))&&(yV qq (i:Int) || ws.getD i 0==0))from by rw[HQQ.o];rfl));replace E3:zA (∀i,i<ws.length→okI qq i=false→RQ=false):=by rw[HQQ.o];exact E3
 replace E4:zA (yJ ⟨ns,rt⟩ mn=true→OX=true→OY=true→(∀i,i<ws.length→okI qq i=true)→RQ=(sumA ws 0==load&&!((yH qq).any (farA mn)))):=by rw[HQQ.o];exact E4
 have HCO:=Z (fun h:(cur=-1∨0≤cur∧inA ⟨ns,rt⟩ cur=false)=>(show kH qq from by rw[HQQ.o];exact⟨h⟩));replace EX:zA (OX=(decide (ws.length=ns.length)&&(decide (-1≤cur)&&(decide (cur<(ns.length:Int))&&(if cur=-1 then v==0 else true))))):=EX;replace EY:zA (OY=if cur=-1 then true else !(inA ⟨ns,rt⟩ cur)):=EY;replace E1:zA (yJ ⟨ns,rt⟩ mn=false→RQ=false):=E1;show Calls Tryz.prog 21 #[.agg #[.int .i64 rt,.slice A ns.length c,.int .i64 cur,.int .u64 v,.int .u64 mn,.int .i64 load,.slice B ws.length d]] w _;go_enter Tryz.func21,Tryz.ntmps21;go_upto_region 1 with(fail);have HX:=Z (QB.new w rt A ns.length c cur v mn load B ws.length d);have HB:=Z (zB (Below.refl w.heap.size w) (.cells #[.int .i64 rt,.slice A ns.length c,.int .i64 cur,.int .u64 v,.int .u64 mn,.int .i64 load,.slice B ws.length d] 30));generalize w.alloc (.cells #[.int .i64 rt,.slice A ns.length c,.int .i64 cur,.int .u64 v,.int .u64 mn,.int .i64 load,.slice B ws.length d] 30)=W1 at HX HB⊢;have HQ1:=Z (HQ.o.below HB.o);obtain⟨a0,a1,a2,a3,a4,a5,a6⟩:=HX.o.al;go_upto_region 3 with(go_at_call 63;refine(zbE (t:=⟨ns,rt⟩) A c mn HQ1.o.trC HQ1.o.tl).mono ?_;rintro e w2 ⟨rfl,hb⟩;have HX2:=Z (HX.o.below hb);have HB2:=Z (zD HB.o hb);have HQ2:=Z (HQ1.o.below hb);clear hb);clear a0 a1 a2 a3 a4 a5 a6;obtain⟨a0,a1,a2,a3,a4,a5,a6⟩:=HX2.o.al;cases b5:yJ ⟨ns,rt⟩ mn with
 | false=>
  have HR:=Z (E1.o b5);clear b5;go_wp2;go_ret;exact⟨by rw[HR.o];rfl,HB2.o⟩
 | true=>
  have HB5:=Z b5;clear b5;go_cut [49] (fun s49 wx=>s49=.bool (!OX)∧wx=w2)
  case first=>
   by_cases b1:ws.length=ns.length
   case neg=>
    have b2:((ws.length:Int) != (ns.length:Int))=true:=bne_iff_ne.2 (by omega);have HE:=Z (EX.o.trans (by rw[decide_eq_false b1,Bool.false_and]));clear b1;go_wp2_with fail
    go_meet
    exact⟨by rw[HE.o];rfl,rfl⟩
   have b2:((ws.length:Int) != (ns.length:Int))=false:=bne_eq_false_iff_eq.2 (by omega);by_cases b3:cur < -1
   ·have HE:=Z (EX.o.trans (by rw[show decide (-1≤cur)=false from decide_eq_false (by omega),Bool.false_and,Bool.and_false]));have b3':decide (cur < -1)=true:=decide_eq_true b3;clear b1;go_wp2_with fail
    go_meet
    exact⟨by rw[HE.o];rfl,rfl⟩
   have b3':decide (cur < -1)=false:=decide_eq_false b3;by_cases b4:cur<(ns.length:Int)
   case neg=>
    have HE:=Z (EX.o.trans (by rw[decide_eq_false b4,Bool.false_and,Bool.and_false,Bool.and_false]));have b4':decide ((ns.length:Int)≤cur)=true:=decide_eq_true (by omega);have b4'':(ns.length:Int)≤cur:=by omega
    clear b1;go_wp2_with fail
    go_meet
    exact⟨by rw[HE.o];rfl,rfl⟩
   have b4':decide ((ns.length:Int)≤cur)=false:=decide_eq_false (by omega);have b4'':¬(ns.length:Int)≤cur:=by omega
   have HE:=Z (EX.o.trans (by rw[decide_eq_true b1,decide_eq_true (show -1≤cur by omega),decide_eq_true b4,Bool.true_and,Bool.true_and,Bool.true_and]));clear b1;by_cases d1:cur=-1
   ·have d2:(cur==-1)=true:=by simpa using d1
    replace HE:=Z (HE.o.trans (if_pos d1));clear d1;go_wp2_with fail
    go_meet
    exact⟨by rw[HE.o];rfl,rfl⟩
   have d2:(cur==-1)=false:=by simpa using d1
   replace HE:=Z (HE.o.trans (if_neg d1));clear d1;go_wp2_with fail
   go_meet
   exact⟨by rw[HE.o];rfl,rfl⟩
  obtain⟨rfl,hwc⟩:=hcut;obtain rfl:=hwc.symm;cases OX with
  | false=>
   have HR:=Z (E2.o (Bool.false_and _));go_wp2;go_ret;exact⟨by rw[HR.o];rfl,HB2.o⟩
  | true=>
   have HPX:=Z (show ws.length=ns.length∧-1≤cur∧cur<(ns.length:Int)from by
    have e:=EX.o.symm;rw[Bool.and_eq_true,Bool.and_eq_true,Bool.and_eq_true,decide_eq_true_iff,decide_eq_true_iff,decide_eq_true_iff]at e;exact⟨e.1,e.2.1,e.2.2.1⟩)
   clear EX;go_upto_region 5 with(fail);go_cut [62] (fun s62 wx=>s62=.bool (!OY)∧wx=w2)
   case first=>
    by_cases d1:cur=-1
    ·have d2:decide (0≤cur)=false:=decide_eq_false (by omega);have d3:¬0≤cur:=by omega
     have HO:=Z (EY.o.trans (if_pos d1));clear d1;go_wp2_with fail
     go_meet
     exact⟨by rw[HO.o];rfl,rfl⟩
    have h0:0≤cur:=by have:=HPX.o.2.1;omega
    have d2:decide (0≤cur)=true:=decide_eq_true h0;have b4'':=HPX.o.2.2;have HO:=Z (EY.o.trans (if_neg d1));obtain⟨ad,e0,n0,n1,n2,n3,n4,n5⟩:=kV HQ2.o.trC cur h0 b4'';clear n1 n2 n3 n4 n5;replace e0:A=some ad:=e0;subst e0;replace n0:w2.cell? (ad.add (cur.toNat*6))=some (.bool (inA ⟨ns,rt⟩ cur)):=n0;clear d1;generalize inA ⟨ns,rt⟩ cur=bi at n0 HO;go_wp2_with fail
    go_meet
    exact⟨by rw[HO.o,Bool.not_not],rfl⟩
   obtain⟨rfl,hwc⟩:=hcut;obtain rfl:=hwc.symm;cases OY with
   | false=>
    have HR:=Z (E2.o (Bool.and_false _));go_wp2;go_ret;exact⟨by rw[HR.o];rfl,HB2.o⟩
   | true=>
    have HCU:=Z (HCO.o (by
     have he:=EY.o;by_cases d1:cur=-1
     ·exact Or.inl d1
     rw[if_neg d1]at he;exact Or.inr ⟨by have:=HPX.o.2.1;omega,by simpa using he.symm⟩))
    replace E4:=Z (E4.o HB5.o (by first|rfl|trivial) (by first|rfl|trivial));clear E1 E2 EY HCO;go_wp2
    go_loopw [5,6] (fun s i wr=>SRl qq ws w2 s i wr) (fun s i wr=>ws.length-(intOf i).toNat)
    case atStart=>exact⟨0,Nat.zero_le _,rfl,rfl,fun j hj=>by omega,Below.refl _ _⟩
    case round=>
     obtain⟨k,hle,rfl,rfl,hok,hb⟩:=hrel.o;clear hrel a0 a1 a2 a3 a4 a5 a6;have HOK:=Z hok;have HX3:=Z (HX2.o.below hb);have HQ3:=Z (HQ2.o.below hb);have HB3:=Z (zD HB2.o hb);have HBW:=Z hb;clear hok hb;have hpx:=HPX.o.1;have hnl:ns.length≤1000000:=HQ3.o.tl;obtain⟨a0,a1,a2,a3,a4,a5,a6⟩:=HX3.o.al;by_cases hlt:k<ws.length;rotate_left
     ·obtain rfl:k=ws.length:=by omega
      have HE:=Z (E4.o HOK.o);have b1':¬((ws.length:Nat):Int)<(ns.length:Int):=by omega
      rw[List.take_length];generalize sumA ws 0=sm at HE⊢;have HLK:=Z (HLN.o HB5.o HCU.o);generalize yH qq=KL at HK HE HLK;have HFA:=Z (show ∀x,farA mn x=(decide (lagf mn x.1 < -1125899906842624) || decide (1125899906842624<lagf mn x.1))from fun x=>rfl);generalize farA mn=fa at HE HFA;clear hpx hnl;go_upto_region 16 with(go_at_call 65;refine(HK.o _ HQ3.o HB5.o HPX.o.2.1).mono ?_;rintro e w5 ⟨v1,rfl,hR,hb⟩;obtain⟨A5,c5,hv5,hlc5,hC5⟩:=Kd.yE hR;subst hv5;have HC5:=Z hC5;have HX5:=Z (HX3.o.below hb);have HB6:=Z (zD HB3.o hb);clear hR hb hC5 hlc5);clear a0 a1 a2 a3 a4 a5 a6;go_wp2
      go_loopw [9] (fun i wr=>FarL KL fa w5 i wr) (fun i wr=>KL.length-(intOf i).toNat)
      case atStart=>exact⟨0,Nat.zero_le _,rfl,fun j hj=>by omega,Below.refl _ _⟩
      case round=>
       obtain⟨i,hli,rfl,hno,hb⟩:=hrel.o;clear hrel;have HNO:=Z hno;have HB7:=Z (zD HB6.o hb);have HBI:=Z hb;have hkn:i<1000000:=by have:=HLK.o;omega
       have a4:=(HX5.o.below hb).c4;have HX7:=Z (HX5.o.below hb);clear hno;by_cases hlt:i<KL.length;rotate_left
       ·obtain rfl:i=KL.length:=by omega
        have HE2:=Z (HE.o.trans (by rw[any_no HNO.o,Bool.not_false,Bool.and_true]));have a5:=HX7.o.c5;go_wp2;go_ret;exact⟨by rw[HE2.o];rfl,HB7.o⟩
       have hn:(i:Int)<(KL.length:Int):=by omega
       obtain⟨ad,e1,y0,y1⟩:=Tk.C_at (Kd.zU HC5.o hb) i hlt;subst e1;have HLT:=Z hlt;have HAN:=Z (fun h:fa (gt KL i)=true=>(show KL.any fa=true from List.any_eq_true.2 ⟨_,gt_mem KL i hlt,h⟩));have HFX:=Z (HFA.o (gt KL i));have HST:=Z (fun h:fa (gt KL i)=false=>fun t (ht:t<i+1)=>(show fa (gt KL t)=false from by
        by_cases e:t=i
        ·subst e;exact h
        exact HNO.o t (by omega)))
       generalize gt KL i=y at y0 y1 HAN HFX HST;have HLG:=Z (fun(W:World) (hT:Emp W)=>zam y.1 mn W hT);generalize lagf mn y.1=lg at HFX HLG;clear hlt hb;go_upto_region 19 with(fail)
       go_still_tail 7,(by kernel_rfl)
       change wpList _ _ _ _ _ (World.drew _);have HT8:=Z (HT.o.below (Below.drew HB7.o));have HB7d:=Z (Below.drew HB7.o);have HBId:=Z (Below.drew HBI.o);clear y0 y1 a4;generalize wr.drew=wd at HT8 HB7d HBId⊢;go_upto_region 20 with(go_at_call 66;refine(HLG.o _ HT8.o).mono ?_;rintro e w8 ⟨rfl,hb⟩;have HB8:=Z (zD HB7d.o hb);have HB8I:=Z (zD HBId.o hb);clear hb);by_cases x1:lg < -1125899906842624
       ·have x2:decide (lg < -1125899906842624)=true:=decide_eq_true x1;have HR:=Z (HE.o.trans (by rw[HAN.o (HFX.o.trans (by rw[x2];rfl)),Bool.not_true,Bool.and_false]));go_wp2;go_ret;exact⟨by rw[HR.o];rfl,HB8.o⟩
       have x2:decide (lg < -1125899906842624)=false:=decide_eq_false x1;cases x4:decide (1125899906842624<lg)with
       | true=>
        have x3:1125899906842624<lg:=of_decide_eq_true x4;have HR:=Z (HE.o.trans (by rw[HAN.o (HFX.o.trans (by rw[x2,x4];rfl)),Bool.not_true,Bool.and_false]));go_wp2;go_ret;exact⟨by rw[HR.o];rfl,HB8.o⟩
       | false=>
        have x3:¬1125899906842624<lg:=of_decide_eq_false x4;replace HST:=Z (HST.o (HFX.o.trans (by rw[x2,x4];rfl)));go_wp2;refine⟨⟨i+1,by have:=HLT.o;omega,by simp,HST.o,HB8I.o⟩,?_⟩;show KL.length-((i:Int)+1).toNat<KL.length-(i:Int).toNat;have:=HLT.o;omega
     have hki:(k:Int)<(ns.length:Int):=by omega
     have hki2:(k:Int)<(ws.length:Int):=by omega
     obtain⟨ad,e1,x0⟩:=wK HQ3.o.wrC k hlt;replace e1:B=some ad:=e1;subst e1;have HST:=Z (sum_take ws k hlt);have HOX:=Z (HOI.o k);have HE3:=Z (E3.o k hlt);have HKL:=Z hlt;have hkn:k<1000000:=by omega
     replace x0:wr.cell? (ad.add k)=some (.int .i64 (ws.getD k 0)):=x0;generalize ws.getD k 0=x at x0 HST HOX;have HHK:=Z (fun(W:World) (h:QIn S A c (some ad) d W ⟨⟨ns,rt⟩,cur,v,mn,load,ws⟩)=>HH.o W (k:Int) h (Int.natCast_nonneg k) (by omega));generalize yV qq (k:Int)=bh at HHK HOX;generalize hsm:sumA (ws.take k) 0=sm at HST⊢;clear hlt hsm hpx hnl;go_upto_region 12 with(fail);clear x0;cases bh with
     | true=>
      by_cases x1:x<1
      ·have x2:decide (x<1)=true:=decide_eq_true x1;have HR:=Z (HE3.o (HOX.o.trans (by unfold yF;rw[decide_eq_false (show ¬1≤x by omega)];rfl)));go_wp2_with (go_at_call 64;refine(HHK.o _ HQ3.o).mono ?_;rintro e w4 ⟨rfl,hb⟩;replace HX3:=Z (HX3.o.below hb);replace HQ3:=Z (HQ3.o.below hb);replace HBW:=Z (zD HBW.o hb);replace HB3:=Z (zD HB3.o hb);clear hb;clear a0 a1 a2 a3 a4 a5 a6;obtain⟨a0,a1,a2,a3,a4,a5,a6⟩:=HX3.o.al);go_ret;exact⟨by rw[HR.o];rfl,HB3.o⟩
      have x2:decide (x<1)=false:=decide_eq_false x1;by_cases x3:88761<x
      ·have x4:decide (88761<x)=true:=decide_eq_true x3;have HR:=Z (HE3.o (HOX.o.trans (by unfold yF;rw[decide_eq_false (show ¬x≤88761 by omega),Bool.and_false];rfl)));go_wp2_with (go_at_call 64;refine(HHK.o _ HQ3.o).mono ?_;rintro e w4 ⟨rfl,hb⟩;replace HX3:=Z (HX3.o.below hb);replace HQ3:=Z (HQ3.o.below hb);replace HBW:=Z (zD HBW.o hb);replace HB3:=Z (zD HB3.o hb);clear hb;clear a0 a1 a2 a3 a4 a5 a6;obtain⟨a0,a1,a2,a3,a4,a5,a6⟩:=HX3.o.al);go_ret;exact⟨by rw[HR.o];rfl,HB3.o⟩
      have x4:decide (88761<x)=false:=decide_eq_false x3;have HOT2:=Z (HOX.o.trans (by unfold yF;rw[decide_eq_true (show 1≤x by omega),decide_eq_true (show x≤88761 by omega)];first|done|rfl));go_wp2_with (go_at_call 64;refine(HHK.o _ HQ3.o).mono ?_;rintro e w4 ⟨rfl,hb⟩;replace HX3:=Z (HX3.o.below hb);replace HQ3:=Z (HQ3.o.below hb);replace HBW:=Z (zD HBW.o hb);replace HB3:=Z (zD HB3.o hb);clear hb;clear a0 a1 a2 a3 a4 a5 a6;obtain⟨a0,a1,a2,a3,a4,a5,a6⟩:=HX3.o.al);refine⟨⟨k+1,by have:=HKL.o;omega,by simp,by rw[HST.o],fun j hj=>?_,HBW.o⟩,?_⟩
      ·by_cases e:j=k
       ·subst e;exact HOT2.o
       ·exact HOK.o j (by omega)
      ·show ws.length-((k:Int)+1).toNat<ws.length-(k:Int).toNat;have:=HKL.o;omega
     | false=>
      cases hx:x==0 with
      | false=>
       rw[hx,Bool.or_false,Bool.and_false]at HOX;have hx2:(x != 0)=true:=by unfold bne;rw[hx];rfl
       have HR:=Z (HE3.o HOX.o);clear hx;go_wp2_with (go_at_call 64;refine(HHK.o _ HQ3.o).mono ?_;rintro e w4 ⟨rfl,hb⟩;replace HX3:=Z (HX3.o.below hb);replace HQ3:=Z (HQ3.o.below hb);replace HBW:=Z (zD HBW.o hb);replace HB3:=Z (zD HB3.o hb);clear hb;clear a0 a1 a2 a3 a4 a5 a6;obtain⟨a0,a1,a2,a3,a4,a5,a6⟩:=HX3.o.al);go_ret;exact⟨by rw[HR.o];rfl,HB3.o⟩
      | true=>
       have hx2:(x != 0)=false:=by unfold bne;rw[hx];rfl
       have HOT2:=Z (HOX.o.trans (by rw[hx,show x=0 by simpa using hx];first|done|rfl));clear hx;go_wp2_with (go_at_call 64;refine(HHK.o _ HQ3.o).mono ?_;rintro e w4 ⟨rfl,hb⟩;replace HX3:=Z (HX3.o.below hb);replace HQ3:=Z (HQ3.o.below hb);replace HBW:=Z (zD HBW.o hb);replace HB3:=Z (zD HB3.o hb);clear hb;clear a0 a1 a2 a3 a4 a5 a6;obtain⟨a0,a1,a2,a3,a4,a5,a6⟩:=HX3.o.al);refine⟨⟨k+1,by have:=HKL.o;omega,by simp,by rw[HST.o],fun j hj=>?_,HBW.o⟩,?_⟩
       ·by_cases e:j=k
        ·subst e;exact HOT2.o
        ·exact HOK.o j (by omega)
       ·show ws.length-((k:Int)+1).toNat<ws.length-(k:Int).toNat;have:=HKL.o;omega
end Go.Proofs.YtnkhnnojdlgfjaaGreatDoor.Qw
end
