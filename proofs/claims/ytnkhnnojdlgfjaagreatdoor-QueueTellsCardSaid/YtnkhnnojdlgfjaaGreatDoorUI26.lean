/- Parts of the proof, joined: R1. -/
import Derived.Test.YtnkhnnojdlgfjaaGreatDoorUI21
import Derived.Test.YtnkhnnojdlgfjaaGreatDoorUI25
set_option linter.unusedVariables false
set_option linter.unusedSimpArgs false
set_option maxHeartbeats 32000000
set_option maxRecDepth 100000
namespace Go.Proofs.YtnkhnnojdlgfjaaGreatDoor.Qw
open RowKit Tr Tk Tm Qu PA PB PC
variable {S : Nat → Prop} {A B : Option Addr} {c d : Nat} {w w' : World} {q : Q}
section
variable {mn : Int} {l : List K} {k : K}
structure PutI (mn:Int) (l:List K) (k:K) (oo:List K) (dn:Bool) (i:Nat):Prop where mk::
 o:oo++(if dn=true then l.drop i else ins mn (l.drop i) k)=ins mn l k
 len:oo.length≤i+1
theorem PutI.start:PutI mn l k [] false 0:=⟨rfl,Nat.zero_le _⟩
theorem PutI.yes {o:List K}{i:Nat}(h:PutI mn l k o true i) (hi:i<l.length):PutI mn l k (o++[gt l i]) true (i+1):=⟨by
 have e:=h.o;simp only[if_true]at e⊢;rw[←e,List.append_assoc,qV l i hi,List.singleton_append,List.getElem_cons_drop],by
 have:=h.len;simp;omega⟩
theorem PutI.put {o:List K}{i:Nat}(h:PutI mn l k o false i) (hi:i<l.length) (hc:cvf mn k (gt l i)<0) (ho:o.length≤i):PutI mn l k (o++[k]++[gt l i]) true (i+1):=⟨by
 have e:=h.o;simp only[if_true,Bool.false_eq_true,if_false]at e⊢;rw[show l.drop i=gt l i::l.drop (i+1)by rw[qV l i hi,List.getElem_cons_drop],jJ,if_pos hc]at e;rw[←e];simp,by
 simp;omega⟩
theorem PutI.no {o:List K}{i:Nat}(h:PutI mn l k o false i) (hi:i<l.length) (hc:¬cvf mn k (gt l i)<0) (ho:o.length≤i):PutI mn l k (o++[gt l i]) false (i+1):=⟨by
 have e:=h.o;simp only[Bool.false_eq_true,if_false]at e⊢;rw[show l.drop i=gt l i::l.drop (i+1)by rw[qV l i hi,List.getElem_cons_drop],jJ,if_neg hc]at e;rw[←e];simp,by
 simp;omega⟩
theorem PutI.last {o:List K}{dn:Bool}(h:PutI mn l k o dn l.length):(if dn=true then o else o++[k])=ins mn l k:=by
 have e:=h.o;rw[List.drop_length,zaD]at e;rw[←e];cases dn<;>simp
structure PRel (w W1:World) (mn:Int) (l:List K) (k:K) (o d i:Value) (n:Nat) (lo:List K) (dn:Bool) (wr:World):Prop where mk::
 le:n≤l.length
 hi:i=.int .i64 (n:Int)
 hd:d=.bool dn
 ol:lo.length≤n+1
 on:dn=false→lo.length≤n
 inv:PutI mn l k lo dn n
 hR:kp.R 38 wr W1.heap.size (fun _=>True) o lo
 hb:Below W1.heap.size W1 wr
structure PRl (w W1:World) (mn:Int) (l:List K) (k:K) (oo d i:Value) (wr:World):Prop where mk::
 o:∃n lo dn,PRel w W1 mn l k oo d i n lo dn wr
end
theorem zal (mn:Int) (A0:Option Addr) (c0:Nat) (l:List K) (k:K) (w:World) (hr:kp.C w A0 l.length l) (hl:l.length≤1000000) :
  Calls Tryz.prog 140 #[.int .u64 mn,.slice A0 l.length c0,.agg #[.int .u64 k.1,.int .i64 k.2]] w fun e w'=>jU w (ins mn l k) e w':=by
 have HR:=Z hr;have HL:=Z hl;clear hr hl;obtain⟨k0,k1⟩:=k;go_enter Tryz.func140,Tryz.ntmps140;go_upto_region 1 with(fail);have HX:=Z (zQ w (.cells #[.int .u64 k0,.int .i64 k1] 38));have HB:=Z (zB (Below.refl w.heap.size w) (.cells #[.int .u64 k0,.int .i64 k1] 38));generalize w.alloc (.cells #[.int .u64 k0,.int .i64 k1] 38)=W1 at HX HB⊢;have HSZ:=Z HB.o.size;go_wp2
 go_loopw [7,8,9] (fun o d i wr=>PRl w W1 mn l (k0,k1) o d i wr) (fun o d i wr=>l.length-(intOf i).toNat)
 case atStart=>exact⟨0,[],false,Nat.zero_le _,rfl,rfl,Nat.zero_le _,fun _=>Nat.zero_le _,PutI.start,Kd.jT _ _ _ _ _,Below.refl _ _⟩
 case round=>
  obtain⟨i,lo,dn,hle,rfl,rfl,hol,hon,hinv,hR,hb⟩:=hrel.o;clear hrel;have HO:=Z hol;have HON:=Z hon;have HI:=Z hinv;have HRO:=Z hR;have HBW:=Z hb;have HB2:=Z (zD HB.o hb);have x0:=(show wr.cell? ⟨w.heap.size,0,none⟩=some (.int .u64 k0)from(zC (zH HX.o hb) 0).trans rfl);have x1:=(show wr.cell? ⟨w.heap.size,1,none⟩=some (.int .i64 k1)from(zC (zH HX.o hb) 1).trans rfl);have hkn:i<1000001:=by have:=HL.o;omega
  clear hol hon hinv hR hb;by_cases hlt:i<l.length;rotate_left
  ·obtain rfl:i=l.length:=by omega
   have HE:=Z HI.o.last;obtain⟨Ao,co,hvo,hlo,hCo⟩:=Kd.yE HRO.o;subst hvo;clear hlo hCo;cases dn with
   | true=>
    have HE2:=Z ((if_pos rfl).symm.trans HE.o);go_wp2;go_ret;exact⟨_,rfl,by rw[←HE2.o];exact Kd.qW HRO.o HSZ.o,HB2.o⟩
   | false=>
    have HE2:=Z ((if_neg (by simp)).symm.trans HE.o);have hbd:W1.heap.size≤wr.heap.size:=HBW.o.size;go_upto_region 13 with(at_builtin;refine Kd.kE kp (w0:=W1) W1.heap.size rfl (.tmp 42) (.tmp 44) 32 38 (.agg #[(.int .u64 0),(.int .i64 0)]) 16 rfl Tryz.underlying32 kJ rfl (show 0<kp.sz by show 0<2;omega) (by omega) _ lo (k0,k1) [.int .u64 k0,.int .i64 k1] (fun _=>True) (fun _=>False) rfl rfl (jD _ _ _ _) (fun _ hk=>hk.elim) (fun _ _=>trivial) HRO.o HBW.o hbd (by have:=HO.o;have:=HL.o;omega) ?_;intro v4 w4 hR4 hB4 hg4 hat4;have HR4:=Z hR4;have HB4:=Z hB4;clear hR4 hB4 hg4 hat4);go_wp2;go_ret;exact⟨_,rfl,by rw[←HE2.o];exact Kd.qW HR4.o HSZ.o,zD HB.o HB4.o⟩
  have hn:(i:Int)<(l.length:Int):=by omega
  obtain⟨ad,e1,y0,y1⟩:=Tk.C_at (Kd.zU HR.o HB2.o) i hlt;subst e1;have HC:=Z (And.intro x0 (And.intro x1 (And.intro y0 y1)));have HY:=Z (fun o (h:PutI mn l (k0,k1) o true i)=>h.yes hlt);have HP:=Z (fun o (h:PutI mn l (k0,k1) o false i) (hc:cvf mn (k0,k1) (gt l i)<0) ho=>h.put hlt hc ho);have HNO:=Z (fun o (h:PutI mn l (k0,k1) o false i) (hc:¬cvf mn (k0,k1) (gt l i)<0) ho=>h.no hlt hc ho);have HLT:=Z hlt;obtain⟨y,hy⟩:∃y,y=gt l i:=⟨_,rfl⟩;have HYE:=Z hy.symm;rw[←hy]at y0 y1 HC HY HP HNO;clear hy hlt;go_upto_region 6 with(fail)
  go_still_tail 6,(by kernel_rfl)
  change wpList _ _ _ _ _ (World.drew _);have HBd:=Z (Below.drew HBW.o);have HCd:=Z (show wr.drew.cell? ⟨w.heap.size,0,none⟩=_∧wr.drew.cell? ⟨w.heap.size,1,none⟩=_∧wr.drew.cell? (ad.add (i*2))=_∧wr.drew.cell? ⟨(ad.add (i*2)).block,(ad.add (i*2)).off+1,none⟩=_ from HC.o);have HRd:=Z (Kd.wC HRO.o (Below.drew (Below.refl _ _)));clear HC HBW HRO x0 x1 y0 y1 HB2;generalize wr.drew=w1 at HBd HCd HRd⊢;obtain⟨Ao,co,hvo,hlo,hCo⟩:=Kd.yE HRd.o;subst hvo;clear hlo hCo;go_upto_region 7 with(go_at_call 90;(with_reducible refine(zaP mn (k0,k1) y).mono ?_);rintro e w2 ⟨rfl,hb⟩;have HB3:=Z (zD HBd.o hb);have HR3:=Z (Kd.wC HRd.o hb);have HC3:=Z (And.intro (yC HCd.o.1 hb) (And.intro (yC HCd.o.2.1 hb) (And.intro (yC HCd.o.2.2.1 hb) (yC HCd.o.2.2.2 hb))));clear hb);cases dn with
  | true=>
   have y0:=HC3.o.2.2.1;have y1:=HC3.o.2.2.2;go_upto_region 5 with(at_builtin;refine Kd.kE kp (w0:=W1) W1.heap.size rfl (.tmp 33) (.tmp 38) 32 38 (.agg #[(.int .u64 0),(.int .i64 0)]) 16 rfl Tryz.underlying32 kJ rfl (show 0<kp.sz by show 0<2;omega) (by omega) _ lo y [.int .u64 y.1,.int .i64 y.2] (fun _=>True) (fun _=>False) rfl rfl (jD _ _ _ _) (fun _ hk=>hk.elim) (fun _ _=>trivial) HR3.o HB3.o (HB3.o.size) (by have:=HO.o;have:=HL.o;omega) ?_;intro v4 w4 hR4 hB4 hg4 hat4;have HR4:=Z hR4;have HB4:=Z hB4;clear hR4 hB4 hg4 hat4);go_wp2;refine⟨⟨i+1,lo++[y],true,by have:=HLT.o;omega,by simp,rfl,by have:=HO.o;simp;omega,fun h=>by simp at h,HY.o _ HI.o,HR4.o,HB4.o⟩,?_⟩;show l.length-((i:Int)+1).toNat<l.length-(i:Int).toNat;have:=HLT.o;omega
  | false=>
   have HON2:=Z (HON.o rfl);by_cases hcv:cvf mn (k0,k1) y<0;rotate_left
   ·have HV:=Z hcv;have HCV:=Z (show decide (cvf mn (k0,k1) y<0)=false from decide_eq_false hcv);clear hcv;rw[HCV.o];have y0:=HC3.o.2.2.1;have y1:=HC3.o.2.2.2;go_upto_region 5 with(at_builtin;refine Kd.kE kp (w0:=W1) W1.heap.size rfl (.tmp 33) (.tmp 38) 32 38 (.agg #[(.int .u64 0),(.int .i64 0)]) 16 rfl Tryz.underlying32 kJ rfl (show 0<kp.sz by show 0<2;omega) (by omega) _ lo y [.int .u64 y.1,.int .i64 y.2] (fun _=>True) (fun _=>False) rfl rfl (jD _ _ _ _) (fun _ hk=>hk.elim) (fun _ _=>trivial) HR3.o HB3.o (HB3.o.size) (by have:=HO.o;have:=HL.o;omega) ?_;intro v4 w4 hR4 hB4 hg4 hat4;have HR4:=Z hR4;have HB4:=Z hB4;clear hR4 hB4 hg4 hat4);go_wp2;refine⟨⟨i+1,lo++[y],false,by have:=HLT.o;omega,by simp,rfl,by have:=HO.o;simp;omega,fun _=>by have:=HON2.o;simp;omega,HNO.o _ HI.o (by first|exact HV.o|exact Int.not_lt.1 HV.o) HON2.o,HR4.o,HB4.o⟩,?_⟩;show l.length-((i:Int)+1).toNat<l.length-(i:Int).toNat;have:=HLT.o;omega
   have HV:=Z hcv;have HCV:=Z (show decide (cvf mn (k0,k1) y<0)=true from decide_eq_true hcv);clear hcv;rw[HCV.o];have x0:=HC3.o.1;have x1:=HC3.o.2.1;go_upto_region 9 with(at_builtin;refine Kd.kE kp (w0:=W1) W1.heap.size rfl (.tmp 29) (.tmp 31) 32 38 (.agg #[(.int .u64 0),(.int .i64 0)]) 16 rfl Tryz.underlying32 kJ rfl (show 0<kp.sz by show 0<2;omega) (by omega) _ lo (k0,k1) [.int .u64 k0,.int .i64 k1] (fun _=>True) (fun _=>False) rfl rfl (jD _ _ _ _) (fun _ hk=>hk.elim) (fun _ _=>trivial) HR3.o HB3.o (HB3.o.size) (by have:=HO.o;have:=HL.o;omega) ?_;intro v4 w4 hR4 hB4 hg4 hat4;have HR4:=Z hR4;have HB4:=Z hB4;clear hR4 hB4 hg4 hat4);clear HC3 x0 x1 HR3;obtain⟨Ap,cp,hvp,hlp,hCp⟩:=Kd.yE HR4.o;subst hvp;clear hlp hCp;obtain⟨ad',e',y0,y1⟩:=Tk.C_at (Kd.zU HR.o (zD HB.o HB4.o)) i HLT.o;obtain rfl:=Option.some.inj e';rw[HYE.o]at y0 y1;go_upto_region 5 with(at_builtin;refine Kd.kE kp (w0:=W1) W1.heap.size rfl (.tmp 33) (.tmp 38) 32 38 (.agg #[(.int .u64 0),(.int .i64 0)]) 16 rfl Tryz.underlying32 kJ rfl (show 0<kp.sz by show 0<2;omega) (by omega) _ (lo++[(k0,k1)]) y [.int .u64 y.1,.int .i64 y.2] (fun _=>True) (fun _=>False) rfl rfl (jD _ _ _ _) (fun _ hk=>hk.elim) (fun _ _=>trivial) HR4.o HB4.o (HB4.o.size) (by have:=HO.o;have:=HL.o;simp;omega) ?_;intro v5 w5 hR5 hB5 hg5 hat5;have HR5:=Z hR5;have HB5:=Z hB5;clear hR5 hB5 hg5 hat5);go_wp2;refine⟨⟨i+1,lo++[(k0,k1)]++[y],true,by have:=HLT.o;omega,by simp,rfl,by have:=HON2.o;simp;omega,fun h=>by simp at h,HP.o _ HI.o HV.o HON2.o,HR5.o,HB5.o⟩,?_⟩;show l.length-((i:Int)+1).toNat<l.length-(i:Int).toNat;have:=HLT.o;omega
def srtA (mn:Int) (l:List K):List K:=l.foldl (ins mn) []
theorem srt_step {mn:Int}(l:List K) (i:Nat) (h:i<l.length):srtA mn (l.take (i+1))=ins mn (srtA mn (l.take i)) (gt l i):=by
 unfold srtA;rw[List.take_succ_eq_append_getElem h,List.foldl_append,qV l i h]
 rfl
theorem srt_len {mn:Int}:∀(l o:List K),(l.foldl (ins mn) o).length=o.length+l.length
 | [],o=>rfl
 | x::l,o=>by
  show(l.foldl (ins mn) (ins mn o x)).length=_;rw[srt_len l,(kZ mn x o).length_eq,List.length_cons,List.length_cons];omega
def best (mn:Int) (b y:K):K:=if cvf mn y b<0 then y else b
def firstA (mn:Int):List K→K
 | []=>(0,0)
 | x::t=>t.foldl (best mn) x
theorem first_SS {mn:Int}:∀{t:List K}{x:K},(∀y∈t,cvf mn x y<0)→t.foldl (best mn) x=x
 | [],x,_=>rfl
 | y::t,x,h=>by
  show t.foldl (best mn) (best mn x y)=x;rw[show best mn x y=x from if_neg (fun e=>lt_asymm e (h y (by simp)))];exact first_SS (fun z hz=>h z (by simp[hz]))
structure SRel8 (w:World) (mn:Int) (l:List K) (o i:Value) (n:Nat) (wr:World):Prop where mk::
 le:n≤l.length
 hi:i=.int .i64 (n:Int)
 hR:kp.R 38 wr w.heap.size (fun _=>True) o (srtA mn (l.take n))
 hb:Below w.heap.size w wr
structure SRl8 (w:World) (mn:Int) (l:List K) (oo i:Value) (wr:World):Prop where mk::
 o:∃n,SRel8 w mn l oo i n wr
theorem rsort_ (mn:Int) (A0:Option Addr) (c0:Nat) (l:List K) (w:World) (hr:kp.C w A0 l.length l) (hl:l.length≤1000000) :
  Calls Tryz.prog 111 #[.int .u64 mn,.slice A0 l.length c0] w fun e w'=>jU w (srtA mn l) e w':=by
 have HR:=Z hr;have HL:=Z hl;have HB0:=Z (Below.refl w.heap.size w);clear hr hl;go_enter Tryz.func111,Tryz.ntmps111;go_wp2
 go_loopw [5,6] (fun o i wr=>SRl8 w mn l o i wr) (fun o i wr=>l.length-(intOf i).toNat)
 case atStart=>exact⟨0,Nat.zero_le _,rfl,Kd.jT _ _ _ _ _,HB0.o⟩
 case round=>
  obtain⟨i,hle,rfl,hR,hb⟩:=hrel.o;clear hrel;obtain⟨Ao,co,hvo,hlo,hCo⟩:=Kd.yE hR;subst hvo;have HCO:=Z hCo;have HRO:=Z hR;have HB:=Z hb;have HSZ:=Z hb.size;have HLN:=Z (show(srtA mn (l.take i)).length≤1000000 by
   unfold srtA;rw[srt_len,List.length_take];have:=HL.o;simp;omega)
  have hkn:i<1000001:=by have:=HL.o;omega
  clear hR hb hlo hCo;by_cases hlt:i<l.length;rotate_left
  ·obtain rfl:i=l.length:=by omega
   rw[List.take_length]at HRO HCO⊢;go_wp2;go_ret;exact⟨_,rfl,HRO.o,HB.o⟩
  have hn:(i:Int)<(l.length:Int):=by omega
  obtain⟨ad,e1,y0,y1⟩:=Tk.C_at (Kd.zU HR.o HB.o) i hlt;subst e1;have HS:=Z (srt_step (mn:=mn) l i hlt);have HLT:=Z hlt;generalize gt l i=y at y0 y1 HS;generalize srtA mn (l.take i)=so at HCO HLN HS HRO;clear hlt;go_wp2_with (go_at_call 140;refine(zal mn Ao co so y _ HCO.o HLN.o).mono ?_;rintro e w2 ⟨v2,rfl,hR2,hb2⟩;have HR2:=Z hR2;have HB2:=Z (zD HB.o hb2);clear hR2 hb2);refine⟨⟨i+1,by have:=HLT.o;omega,by simp,by rw[HS.o];exact Kd.qW HR2.o HSZ.o,HB2.o⟩,?_⟩;show l.length-((i:Int)+1).toNat<l.length-(i:Int).toNat;have:=HLT.o;omega
structure FRel8 (w:World) (mn:Int) (x:K) (l:List K) (i:Value) (n:Nat) (b:K) (wr:World):Prop where mk::
 lo:1≤n
 le:n≤l.length+1
 hi:i=.int .i64 (n:Int)
 hx:(l.take (n-1)).foldl (best mn) x=b
 h1:wr.heap[w.heap.size]?=some (.cells #[.int .u64 0,.int .i64 0] 38 (0,0))
 h2:wr.heap[w.heap.size+1]?=some (.cells #[.int .u64 b.1,.int .i64 b.2] 38 (0,0))
 hb:Below w.heap.size w wr
structure FRl8 (w:World) (mn:Int) (x:K) (l:List K) (i:Value) (wr:World):Prop where mk::
 o:∃n b,FRel8 w mn x l i n b wr
theorem rfirst_ (mn:Int) (A0:Option Addr) (c0:Nat) (l:List K) (w:World) (hr:kp.C w A0 l.length l) (hl:l.length≤1000000) :
  Calls Tryz.prog 132 #[.int .u64 mn,.slice A0 l.length c0] w fun e w'=>e=.returned (.tuple #[.agg #[.int .u64 (firstA mn l).1,.int .i64 (firstA mn l).2],.bool (decide (0<l.length))])∧Below w.heap.size w w':=by
 have HR:=Z hr;have HL:=Z hl;have HB1:=Z (zB (Below.refl w.heap.size w) (.cells #[.int .u64 0,.int .i64 0] 38));have HZ:=Z (zQ w (.cells #[.int .u64 0,.int .i64 0] 38));clear hr hl;go_enter Tryz.func132,Tryz.ntmps132;cases l with
 | nil=>
  go_upto_region 1 with(fail);generalize w.alloc (.cells #[.int .u64 0,.int .i64 0] 38)=W1 at HB1 HZ⊢;have f0:=zK HZ.o 0;have f1:=zK HZ.o 1;have c3:=(show W1.cell? ⟨w.heap.size,0,none⟩=some (.int .u64 0)from(zC HZ.o 0).trans rfl);have c4:=(show W1.cell? ⟨w.heap.size,1,none⟩=some (.int .i64 0)from(zC HZ.o 1).trans rfl);go_wp2;refine bodyPost_ret (Tm.zO (cs:=#[.int .u64 0,.int .i64 0]) rfl _ _ w.heap.size 38 (0,0) _ rfl (set2 HZ.o rfl _ _) Tryz.underlying38 rfl (by kernel_rfl)) rfl ?_;exact⟨rfl,Below.setCell (Below.setCell HB1.o (p:=⟨w.heap.size,0,none⟩) (by simp) _) (p:=⟨w.heap.size,1,none⟩) (by simp) _⟩
 | cons x l=>
  obtain⟨N,hN⟩:∃N,N=(x::l).length:=⟨_,rfl⟩;have HN:=Z hN;rw[←hN]at HL⊢;clear hN;obtain⟨ad,e1,y0,y1⟩:=Tk.C_at (Kd.zU HR.o HB1.o) 0 (by simp);subst e1;have ex:gt (x::l) 0=x:=rfl;rw[ex]at y0 y1;simp only[Nat.zero_mul,Addr.add_zero']at y0 y1;have hn0:(0:Int)<(N:Int):=by have:=HN.o;simp at this;omega
  have hn1:((N:Int)==0)=false:=by simp;omega
  go_upto_region 4 with(fail);have HB3:=Z (zB HB1.o (.cells #[.int .u64 x.1,.int .i64 x.2] 38));have HZ3:=Z (zH HZ.o (zB (Below.refl _ _) (.cells #[.int .u64 x.1,.int .i64 x.2] 38)));have HX3:=Z (zQ (w.alloc (.cells #[.int .u64 0,.int .i64 0] 38)) (.cells #[.int .u64 x.1,.int .i64 x.2] 38));simp only[World.size_alloc]at HX3;clear y0 y1 HB1 HZ ex hn0 hn1;generalize(w.alloc (.cells #[.int .u64 0,.int .i64 0] 38)).alloc (.cells #[.int .u64 x.1,.int .i64 x.2] 38)=W3 at HX3 HZ3 HB3⊢;go_wp2
  go_loopw [7] (fun i wr=>FRl8 w mn x l i wr) (fun i wr=>l.length+2-(intOf i).toNat)
  case atStart=>exact⟨1,x,Nat.le_refl _,by omega,rfl,rfl,HZ3.o,HX3.o,HB3.o⟩
  case round=>
   obtain⟨n,b,hlo,hle,rfl,hx,h1,h2,hb⟩:=hrel.o;clear hrel HX3 HZ3 HB3;have HXB:=Z hx;have H1:=Z h1;have H2:=Z h2;have HB:=Z hb;have b0:=(show wr.cell? ⟨w.heap.size+1,0,none⟩=some (.int .u64 b.1)from(zC h2 0).trans rfl);have b1:=(show wr.cell? ⟨w.heap.size+1,1,none⟩=some (.int .i64 b.2)from(zC h2 1).trans rfl);have hkn:n<1000001:=by have:=HL.o;have:=HN.o;simp at this;omega
   clear hx h1 h2 hb;by_cases hlt:n<N;rotate_left
   ·have HXE:=Z (show firstA mn (x::l)=b from by
     have e:n=l.length+1:=by have:=HN.o;simp at this;omega
     have hx:=HXB.o;rw[e,Nat.add_sub_cancel,List.take_length]at hx;exact hx)
    have hn:¬(n:Int)<(N:Int):=by omega
    have f0:=zK H1.o 0;have f1:=zK H1.o 1;have c3:=(show wr.cell? ⟨w.heap.size,0,none⟩=some (.int .u64 0)from(zC H1.o 0).trans rfl);have c4:=(show wr.cell? ⟨w.heap.size,1,none⟩=some (.int .i64 0)from(zC H1.o 1).trans rfl);clear hlt hle hlo;go_wp2;refine bodyPost_ret (Tm.zO (cs:=#[.int .u64 b.1,.int .i64 b.2]) rfl _ _ w.heap.size 38 (0,0) _ rfl (set2 H1.o rfl _ _) Tryz.underlying38 rfl (by kernel_rfl)) rfl ?_;refine⟨?_,Below.setCell (Below.setCell HB.o (p:=⟨w.heap.size,0,none⟩) (by simp) _) (p:=⟨w.heap.size,1,none⟩) (by simp) _⟩;rw[HXE.o,decide_eq_true (show 0<N by have:=HN.o;simp at this;omega)]
    rfl
   have hn:(n:Int)<(N:Int):=by omega
   obtain⟨ad',e1,y0,y1⟩:=Tk.C_at (Kd.zU HR.o HB.o) n (by rw[←HN.o];exact hlt);obtain rfl:=Option.some.inj e1;have HLT:=Z (And.intro hlo (show n<l.length+1 by have:=HN.o;simp at this;omega));have HST:=Z (show(l.take n).foldl (best mn) x=best mn b (gt (x::l) n)from by
    obtain⟨k,rfl⟩:∃k,n=k+1:=⟨n-1,by omega⟩;have hk:k<l.length:=by have:=HLT.o.2;omega
    have hx:=HXB.o;rw[Nat.add_sub_cancel]at hx;rw[List.take_succ_eq_append_getElem hk,List.foldl_append,hx,show gt (x::l) (k+1)=gt l k from rfl,qV l k hk]
    rfl)
   generalize gt (x::l) n=y at y0 y1 HST;have HC:=Z (And.intro y0 y1);clear hlt e1 hlo hle;go_upto_region 7 with(fail)
   go_still_tail 6,(by kernel_rfl)
   change wpList _ _ _ _ _ (World.drew _);have HBd:=Z (Below.drew HB.o);have H1d:=Z (show wr.drew.heap[w.heap.size]?=_ from H1.o);have H2d:=Z (show wr.drew.heap[w.heap.size+1]?=_ from H2.o);have HCd:=Z (show wr.drew.cell? (ad.add (n*2))=_∧wr.drew.cell? ⟨(ad.add (n*2)).block,(ad.add (n*2)).off+1,none⟩=_ from HC.o);clear HC HB H1 H2 b0 b1 y0 y1;generalize wr.drew=w1 at HBd H1d H2d HCd⊢;by_cases hcv:cvf mn y b<0;rotate_left
   ·have HCV:=Z (show decide (cvf mn y b<0)=false from decide_eq_false hcv);have HBE:=Z (HST.o.trans (if_neg hcv));clear hcv HST;go_upto_region 6 with(go_at_call 90;(with_reducible refine(zaP mn y b).mono ?_);rintro e w2 ⟨rfl,hb⟩;rw[HCV.o];have HB2:=Z (zD HBd.o hb);have H12:=Z (zH H1d.o hb);have H22:=Z (zH H2d.o hb);clear hb);go_wp2;refine⟨⟨n+1,b,by omega,by have:=HLT.o.2;omega,by simp,HBE.o,H12.o,H22.o,HB2.o⟩,?_⟩;show l.length+2-((n:Int)+1).toNat<l.length+2-(n:Int).toNat;have:=HLT.o.2;omega
   have HCV:=Z (show decide (cvf mn y b<0)=true from decide_eq_true hcv);have HBE:=Z (HST.o.trans (if_pos hcv));clear hcv HST;go_upto_region 8 with(go_at_call 90;(with_reducible refine(zaP mn y b).mono ?_);rintro e w2 ⟨rfl,hb⟩;rw[HCV.o];have HB2:=Z (zD HBd.o hb);have H12:=Z (zH H1d.o hb);have H22:=Z (zH H2d.o hb);have HC2:=Z (And.intro (yC HCd.o.1 hb) (yC HCd.o.2 hb));clear hb);have f0:=zK H22.o 0;have f1:=zK H22.o 1;have z0:=(show w2.cell? ⟨w.heap.size+1,0,none⟩=some (.int .u64 b.1)from(zC H22.o 0).trans rfl);have z1:=(show w2.cell? ⟨w.heap.size+1,1,none⟩=some (.int .i64 b.2)from(zC H22.o 1).trans rfl);have y0:=HC2.o.1;have y1:=HC2.o.2;go_wp2;refine⟨⟨n+1,y,by omega,by have:=HLT.o.2;omega,by simp,HBE.o,kC (kC H12.o (p:=⟨w.heap.size+1,0,none⟩) (by simp) _) (p:=⟨w.heap.size+1,1,none⟩) (by simp) _,set2 H22.o rfl _ _,Below.setCell (Below.setCell HB2.o (p:=⟨w.heap.size+1,0,none⟩) (by simp) _) (p:=⟨w.heap.size+1,1,none⟩) (by simp) _⟩,?_⟩;show l.length+2-((n:Int)+1).toNat<l.length+2-(n:Int).toNat;have:=HLT.o.2;omega
end Go.Proofs.YtnkhnnojdlgfjaaGreatDoor.Qw
