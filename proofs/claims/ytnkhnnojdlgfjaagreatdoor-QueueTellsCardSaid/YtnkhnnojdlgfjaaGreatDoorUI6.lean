/- Parts of the proof, joined: Tm3, Tm5. -/
import Derived.Test.YtnkhnnojdlgfjaaGreatDoorUI5
set_option linter.unusedVariables false
set_option linter.unusedSimpArgs false
set_option maxHeartbeats 32000000
set_option maxRecDepth 100000
section
namespace Go.Proofs.YtnkhnnojdlgfjaaGreatDoor.Tm
open RowKit Tr PA PB PC
structure Ok (t:St):Prop where
 ns:∀z:Nat,(gn t z).l<t.ns.length∧(gn t z).r<t.ns.length∧(gn t z).u<t.ns.length
 rt:t.rt<t.ns.length
section
variable {t : St}
theorem Ok.kid (h:Ok t) (x:Int) (s:Bool):kidA t x s<t.ns.length:=by
 unfold kidA;cases s
 ·exact(h.ns x.toNat).1
 ·exact(h.ns x.toNat).2.1
theorem Ok.up (h:Ok t) (x:Int):upA t x<t.ns.length:=(h.ns x.toNat).2.2
theorem Ok.sn (h:Ok t) (x:Nat) (n:Nd) (hx:x<t.ns.length) (h1:n.l<t.ns.length∧n.r<t.ns.length∧n.u<t.ns.length):Ok (sn t x n):=by
 refine⟨fun z=>?_,by rw[xQ];exact h.rt⟩;rw[xQ,wM _ _ _ _ hx];split
 ·exact h1
 ·exact h.ns z
theorem Ok.zT (h:Ok t) (is:Bool) (x:Int) (hx:x<t.ns.length):Ok (zG t is x):=by
 unfold zG;split
 ·exact h.sn _ _ (by omega) (h.ns _)
 ·exact h
theorem Ok.xM (h:Ok t) (x:Int) (s:Bool) (y:Int) (hx:x<t.ns.length) (hy:y<t.ns.length):Ok (xM t x s y):=by
 unfold Tr.xM;split
 ·exact⟨h.ns,hy⟩
 ·refine h.sn _ _ (by omega) ?_;unfold vD;cases s
  ·exact⟨hy,(h.ns _).2.1,(h.ns _).2.2⟩
  ·exact⟨(h.ns _).1,hy,(h.ns _).2.2⟩
theorem Ok.hang (h:Ok t) (x:Int) (s:Bool) (y:Int) (hx:x<t.ns.length) (hy:y<t.ns.length):Ok (zM t x s y):=by
 have k:=h.xM x s y hx hy;have hl:=qR t x s y;unfold zM jC;split
 ·exact k.sn _ _ (by rw[hl];omega) ⟨(k.ns _).1,(k.ns _).2.1,by rw[hl];exact hx⟩
 ·exact k
theorem Ok.turn (h:Ok t) (x:Int) (s:Bool) (hx:x<t.ns.length):Ok (yM t x s):=by
 unfold yM;have k1:=h.hang x (!s) (kidA t (kidA t x (!s)) s) hx (h.kid _ _);have k2:=k1.hang (gn t x.toNat).u (onA t x) (kidA t x (!s)) (by rw[zX];exact(h.ns _).2.2) (by rw[zX];exact h.kid _ _);exact k2.hang _ _ _ (by rw[zX,zX];exact h.kid _ _) (by rw[zX,zX];exact hx)
end
theorem xD (t:St) (x:Int) (s:Bool):(yM t x s).ns.length=t.ns.length:=by
 unfold yM;rw[zX,zX,zX]
section
variable {A : Option Addr} {c : Nat} {w w1 : World} {g b : Nat} {t : St}
theorem xA (h:Wk A c w g b t) (is:Bool) (x:Int) (h0:0<t.ns.length) (hx:x<t.ns.length) :
  Calls Tryz.prog 82 #[.pointer (some ⟨g,0,none⟩),.bool is,.slice (some ⟨w.heap.size,0,none⟩) 1 1] (w.alloc (.cells #[.int .i64 x] 3)) fun e w'=>e=.returned (.tuple #[])∧Wk A c w' g b (zG t is x)∧Gs g b w w':=by
 have h1:=h.ltg;have h2:=h.ltb h0;refine(paint_ (h.alloc (.cells #[.int .i64 x] 3)) is w.heap.size 1 [x] (by omega) (by omega) (by simp) (fun k hk=>?_) (fun y hy=>?_)).mono ?_
 ·rw[zC (zQ w (.cells #[.int .i64 x] 3))];obtain rfl:k=0:=by simpa using hk
  rfl
 ·rw[List.mem_singleton.1 hy];exact hx
 ·rintro e w' ⟨rfl,hW,hG⟩;exact⟨rfl,hW,((Gs.refl g b w).alloc _).trans hG⟩
theorem qD (h:Wk A c w g b t) (is:Bool) (x:Int) (h0:0<t.ns.length) (hx:x<t.ns.length) :
  Calls Tryz.prog 82 #[.pointer (some ⟨g,0,none⟩),.bool is,.slice (some ⟨w.heap.size,0,none⟩) 1 1] (w.alloc (.cells #[.int .i64 x] 3)).drew fun e w'=>e=.returned (.tuple #[])∧Wk A c w' g b (zG t is x)∧Gs g b w w':=by
 have h1:=h.ltg;have h2:=h.ltb h0;refine(paint_ (h.alloc (.cells #[.int .i64 x] 3)).drew is w.heap.size 1 [x] (by omega) (by omega) (by simp) (fun k hk=>?_) (fun y hy=>?_)).mono ?_
 ·show(w.alloc (.cells #[.int .i64 x] 3)).cell? _=_;rw[zC (zQ w (.cells #[.int .i64 x] 3))];obtain rfl:k=0:=by simpa using hk
  rfl
 ·rw[List.mem_singleton.1 hy];exact hx
 ·rintro e w' ⟨rfl,hW,hG⟩;exact⟨rfl,hW,(((Gs.refl g b w).alloc _).drew).trans hG⟩
theorem jB (h:Wk A c w g b t) (is:Bool) (x y:Int) (h0:0<t.ns.length) (hx:x<t.ns.length) (hy:y<t.ns.length) :
  Calls Tryz.prog 82 #[.pointer (some ⟨g,0,none⟩),.bool is,.slice (some ⟨w.heap.size,0,none⟩) 2 2] (w.alloc (.cells #[.int .i64 x,.int .i64 y] 3)) fun e w'=>e=.returned (.tuple #[])∧Wk A c w' g b (zG (zG t is x) is y)∧Gs g b w w':=by
 have h1:=h.ltg;have h2:=h.ltb h0;refine(paint_ (h.alloc (.cells #[.int .i64 x,.int .i64 y] 3)) is w.heap.size 2 [x,y] (by omega) (by omega) (by simp) (fun k hk=>?_) (fun z hz=>?_)).mono ?_
 ·rw[zC (zQ w (.cells #[.int .i64 x,.int .i64 y] 3))];have hk:k<2:=hk
  match k,hk with
  | 0,_=>rfl
  | 1,_=>rfl
 ·rcases List.mem_cons.1 hz with rfl|hz
  ·exact hx
  ·rw[List.mem_singleton.1 hz];exact hy
 ·rintro e w' ⟨rfl,hW,hG⟩;exact⟨rfl,hW,((Gs.refl g b w).alloc _).trans hG⟩
end
noncomputable def least (P:Nat→Prop):Nat:=open Classical in if h:∃k,P k∧∀j,P j→k≤j then Classical.choose h else 0
theorem least_ex {P:Nat→Prop}(h:∃k,P k):∃k,P k∧∀j,P j→k≤j:=by
 obtain⟨k,hk⟩:=h
 induction k using Nat.strongRecOn with
 | ind k ih=>
  by_cases hj:∃j,j<k∧P j
  ·obtain⟨j,h1,h2⟩:=hj;exact ih j h1 h2
  exact⟨k,hk,fun j h=>by
   by_cases e:k≤j
   ·exact e
   exact absurd ⟨j,by omega,h⟩ hj⟩
theorem yU {P:Nat→Prop}(h:∃k,P k):P (least P)∧∀j,P j→least P≤j:=by
 have h2:=least_ex h;unfold least;rw[dif_pos h2];exact Classical.choose_spec h2
section
variable {A : Option Addr} {c : Nat} {w w1 : World} {g b : Nat} {t : St}
theorem wG {x:Int}(h:redA t x=true):0≤x:=by
 unfold redA at h;rw[Bool.and_eq_true]at h;exact of_decide_eq_true h.1
theorem yD (h:Wk A c w g b t) (x:Int) (hx:x<t.ns.length) (v:Bool) (hv:redA t x=v) :
  Calls Tryz.prog 79 #[.pointer (some ⟨g,0,none⟩),.int .i64 x] w fun e w'=>e=.returned (.bool v)∧w'=w:=hv ▸ red_ h x hx
theorem up_v (h:Wk A c w g b t) (x:Int) (h0:0≤x) (hx:x<t.ns.length) (v:Int) (hv:upA t x=v) :
  Calls Tryz.prog 80 #[.pointer (some ⟨g,0,none⟩),.int .i64 x] w fun e w'=>e=.returned (.int .i64 v)∧w'=w:=hv ▸ up_ h x h0 hx
theorem on_v (h:Wk A c w g b t) (ho:Ok t) (x:Int) (h0:0≤x) (hx:x<t.ns.length) (v:Int) (hv:sd (onA t x)=v) :
  Calls Tryz.prog 76 #[.pointer (some ⟨g,0,none⟩),.int .i64 x] w fun e w'=>e=.returned (.int .i64 v)∧w'=w:=hv ▸ on_ h x h0 hx (ho.up x)
theorem qF (h:Wk A c w g b t) (x:Int) (h0:0≤x) (hx:x<t.ns.length) (s:Bool) (z:Int) (hz:sd s=z) (v:Int) (hv:kidA t x s=v) :
  Calls Tryz.prog 88 #[.pointer (some ⟨g,0,none⟩),.int .i64 x,.int .i64 z] w fun e w'=>e=.returned (.int .i64 v)∧w'=w:=by
 subst hz;exact hv ▸ kid_ h x h0 hx s
theorem qB (h:Wk A c w g b t) (ho:Ok t) (x:Int) (h0:0≤x) (hx:x<t.ns.length) (s:Bool) (hk0:0≤kidA t x (!s)) (z:Int) (hz:sd s=z) :
  Calls Tryz.prog 122 #[.pointer (some ⟨g,0,none⟩),.int .i64 x,.int .i64 z] w fun e w'=>e=.returned (.tuple #[])∧Wk A c w' g b (yM t x s)∧Gs g b w w':=by
 subst hz;exact turn_ h x s h0 hx (ho.up x) hk0 (ho.kid _ _) (ho.kid _ _)
theorem hang_z (h:Wk A c w g b t) (x y:Int) (s:Bool) (hx:x<t.ns.length) (hy:y<t.ns.length) (z:Int) (hz:sd s=z) :
  Calls Tryz.prog 77 #[.pointer (some ⟨g,0,none⟩),.int .i64 x,.int .i64 z,.int .i64 y] w fun e w'=>e=.returned (.tuple #[])∧Wk A c w' g b (zM t x s y)∧Gs g b w w':=by
 subst hz;exact zaN h x y s hx hy
end
structure MRel (A:Option Addr) (c g b:Nat) (w:World) (n:Nat) (t':St) (vx vp:Value) (wr:World) (k:Nat):Prop where mk::
 o:∃(T:St) (x:Int),vx=.int .i64 x∧vp=.int .i64 (upA T x)∧Wk A c wr g b T∧Ok T∧0≤x∧x<T.ns.length∧T.ns.length=n∧xZ k T x=some t'∧Gs g b w wr
structure MRl (A:Option Addr) (c g b:Nat) (w:World) (n:Nat) (t':St) (vx vp:Value) (wr:World):Prop where mk::
 o:∃k,MRel A c g b w n t' vx vp wr k
variable {A : Option Addr} {c : Nat} {w w1 : World} {g b : Nat} {t : St}
theorem mend_ (h:Wk A c w g b t) (ho:Ok t) (x:Int) (h0:0≤x) (hx:x<t.ns.length) (k0:Nat) (t':St) (hm:xZ k0 t x=some t') :
  Calls Tryz.prog 89 #[.pointer (some ⟨g,0,none⟩),.int .i64 x] w fun e w'=>e=.returned (.tuple #[])∧Wk A c w' g b t'∧Gs g b w w':=by
 have H:=Z h;have HO:=Z ho;have HM:=Z hm;have HX:=Z hx;have H0:=Z h0;clear h ho hm hx h0;go_enter Tryz.func89,Tryz.ntmps89;go_upto_region 1 with(go_at_call 80;refine(up_ H.o x H0.o HX.o).mono ?_;rintro e w' ⟨rfl,rfl⟩)
 go_loopw [1,4] (fun vx vp wr=>MRl A c g b w' t.ns.length t' vx vp wr) (fun vx vp wr=>least (MRel A c g b w' t.ns.length t' vx vp wr))
 case atStart=>exact⟨k0,t,x,rfl,rfl,H.o,HO.o,H0.o,HX.o,rfl,HM.o,Gs.refl _ _ _⟩
 case round=>
  clear H HO HM HX H0;have HR:=yU hrel.o;obtain⟨hR1,hR2⟩:=HR;have HL:=Z hR2;generalize hlk:least _=lk at hR1 HL⊢;obtain⟨T,y,rfl,rfl,hW,hO,hy0,hy,hn,hmd,hG⟩:=hR1.o;obtain⟨m,rfl⟩:∃m,lk=m+1:=by
   cases lk with
   | zero=>simp[xZ]at hmd
   | succ m=>exact⟨m,rfl⟩
  clear hR2 hrel hR1 HL;rw[xZ]at hmd;obtain⟨p,hpe⟩:∃p,p=upA T y:=⟨_,rfl⟩;have HP:=Z (show p<(T.ns.length:Int)by rw[hpe];exact hO.up y);have HPE:=Z hpe.symm;rw[←hpe]at hmd hlk⊢;clear hpe;have W0:=Z hW;have O0:=Z hO;have G0:=Z hG;have HY:=Z hy;have HY0:=Z hy0;have HN:=Z hn;clear hW hO hG hy hy0 hn;cases hr:redA T p with
  | false=>
   have HR:=Z hr;rw[hr,if_neg (by simp)]at hmd;have HMD:=Z (Option.some.inj hmd);have hc1:=W0.o.c1;clear hr hmd;go_wp2_with (go_at_call 79;refine(yD W0.o p HP.o false HR.o).mono ?_;rintro e wq ⟨rfl,rfl⟩)
   go_region_with (go_at_call 82;refine(qD W0.o false T.rt (by have:=HY.o;have:=HY0.o;omega) O0.o.rt).mono ?_;rintro e wr ⟨rfl,hWq,hGq⟩;have W1:=Z hWq;have G1:=Z (G0.o.trans hGq);clear hWq hGq)
   go_end0
   exact⟨rfl,by rw[←HMD.o];exact W1.o,G1.o⟩
  | true=>
  have P0:=Z (wG hr);have HR:=Z hr;rw[hr,if_pos rfl]at hmd;obtain⟨gg,hge⟩:∃q,q=upA T p:=⟨_,rfl⟩;rw[←hge]at hmd;have HGN:=Z (show gg<(T.ns.length:Int)by rw[hge];exact O0.o.up p);have HGE:=Z hge.symm;clear hge hr;by_cases hg:0≤gg;rotate_left
  ·rw[if_neg hg]at hmd;cases hmd
  have GG0:=Z hg;rw[if_pos hg]at hmd;clear hg;cases hs:onA T p with
  | false=>
   have HS:zA (sd (onA T p)=0):=⟨by rw[hs];rfl⟩;obtain⟨u,hue⟩:∃u,u=kidA T gg true:=⟨_,rfl⟩;rw[hs]at hmd;simp only[Bool.not_false]at hmd;rw[←hue]at hmd;have HUE:=Z hue.symm;have HUN:=Z (show u<(T.ns.length:Int)by rw[hue];exact O0.o.kid _ _);clear hue;cases hru:redA T u with
   | true=>
    have HRU:=Z hru;rw[hru,if_pos rfl]at hmd;clear hs hru;have HMD:=Z hmd;clear hmd;go_upto_region 7 with(first
     | (go_at_call_of 79 (Value.int IntKind.i64 p);refine(yD W0.o p HP.o true HR.o).mono ?_;rintro e wq ⟨rfl,rfl⟩)
     | (go_at_call 80;refine(up_v W0.o p P0.o HP.o gg HGE.o).mono ?_;rintro e wq ⟨rfl,rfl⟩)
     | (go_at_call_of 76 (Value.int IntKind.i64 p);refine(on_v W0.o O0.o p P0.o HP.o 0 HS.o).mono ?_;rintro e wq ⟨rfl,rfl⟩)
     | (go_at_call 88;refine(qF W0.o gg GG0.o HGN.o true 1 rfl u HUE.o).mono ?_;rintro e wq ⟨rfl,rfl⟩)
     | (go_at_call_of 79 (Value.int IntKind.i64 u);refine(yD W0.o u HUN.o true HRU.o).mono ?_;rintro e wq ⟨rfl,rfl⟩)
     | (go_at_call 82;refine(jB W0.o false p u (by have:=P0.o;have:=HP.o;omega) HP.o HUN.o).mono ?_;rintro e wq ⟨rfl,hWq,hGq⟩;have W1:=Z hWq;have G1:=Z (G0.o.trans hGq);clear hWq hGq))
    go_upto_region 8 with(go_at_call 82;refine(xA W1.o true gg (by rw[zF,zF];have:=P0.o;have:=HP.o;omega) (by rw[zF,zF];exact HGN.o)).mono ?_;rintro e wq ⟨rfl,hWq,hGq⟩;have W2:=Z hWq;have G2:=Z (G1.o.trans hGq);clear hWq hGq);have O2:=Z (((O0.o.zT false p HP.o).zT false u (by rw[zF];exact HUN.o)).zT true gg (by rw[zF,zF];exact HGN.o));have L2:=Z (show(zG (zG (zG T false p) false u) true gg).ns.length=T.ns.length by rw[zF,zF,zF]);generalize zG (zG (zG T false p) false u) true gg=T2 at W2 O2 L2 HMD;go_wp2_with (go_at_call 80;refine(up_v W2.o gg GG0.o (by rw[L2.o];exact HGN.o) _ rfl).mono ?_;rintro e wq ⟨rfl,rfl⟩);have hq:MRel A c g b w' t.ns.length t' (Value.int IntKind.i64 gg) (Value.int IntKind.i64 (upA T2 gg)) wq m:=⟨T2,gg,rfl,rfl,W2.o,O2.o,GG0.o,by rw[L2.o];exact HGN.o,by rw[L2.o];exact HN.o,HMD.o,G2.o⟩;refine⟨⟨m,hq⟩,?_⟩;have h3:=(yU ⟨m,hq⟩).2 m hq;exact Nat.lt_of_le_of_lt h3 (by rw[hlk];omega)
   | false=>
    have HRU:=Z hru;rw[hru,if_neg (by simp)]at hmd;clear hs hru;cases ho1:onA T y with
    | false=>
     have HO1:=Z ho1;rw[ho1,if_pos rfl]at hmd;clear ho1;obtain⟨T3,hT3⟩:∃T3,T3=zG (zG T false p) true gg:=⟨_,rfl⟩;rw[←hT3,vO]at hmd;have L3:=Z (show T3.ns.length=T.ns.length by rw[hT3,zF,zF]);have HT3:=Z hT3;have O3:=Z (show Ok T3 by rw[hT3];exact(O0.o.zT false p (by exact HP.o)).zT true gg (by rw[zF];exact HGN.o));clear hT3;by_cases hkg:0≤kidA T3 gg (!true);rotate_left
     ·rw[if_neg hkg]at hmd;cases hmd
     rw[if_pos hkg]at hmd;have HKG:=Z hkg;have O4:=Z (O3.o.turn gg true (by rw[L3.o];exact HGN.o));have L4:=Z (xD T3 gg true);have HMD:=Z hmd;clear hkg hmd;go_upto_region 13 with(first
     | (go_at_call_of 79 (Value.int IntKind.i64 p);refine(yD W0.o p HP.o true HR.o).mono ?_;rintro e wq ⟨rfl,rfl⟩)
     | (go_at_call 80;refine(up_v W0.o p P0.o HP.o gg HGE.o).mono ?_;rintro e wq ⟨rfl,rfl⟩)
     | (go_at_call_of 76 (Value.int IntKind.i64 p);refine(on_v W0.o O0.o p P0.o HP.o 0 HS.o).mono ?_;rintro e wq ⟨rfl,rfl⟩)
     | (go_at_call 88;refine(qF W0.o gg GG0.o HGN.o true 1 rfl u HUE.o).mono ?_;rintro e wq ⟨rfl,rfl⟩)
     | (go_at_call_of 79 (Value.int IntKind.i64 u);refine(yD W0.o u HUN.o false HRU.o).mono ?_;rintro e wq ⟨rfl,rfl⟩)
     | (go_at_call_of 76 (Value.int IntKind.i64 y);refine(on_v W0.o O0.o y HY0.o HY.o 0 (by rw[HO1.o];rfl)).mono ?_;rintro e wq ⟨rfl,rfl⟩)
      | (go_at_call 82;refine(xA W0.o false p (by have:=P0.o;have:=HP.o;omega) (by exact HP.o)).mono ?_;rintro e wq ⟨rfl,hWq,hGq⟩;have W2:=Z hWq;have G2:=Z (G0.o.trans hGq);clear hWq hGq))
     go_upto_region 14 with(go_at_call 82;refine(xA W2.o true gg (by have:=L3.o;rw[HT3.o,zF]at this;have:=P0.o;have:=HP.o;omega) (by have:=L3.o;rw[HT3.o,zF]at this;rw[this];exact HGN.o)).mono ?_;rintro e wq ⟨rfl,hWq,hGq⟩;rw[←HT3.o]at hWq;have W3:=Z hWq;have G3:=Z (G2.o.trans hGq);clear hWq hGq);go_upto_region 2 with(go_at_call 122;refine(qB W3.o O3.o gg GG0.o (by rw[L3.o];exact HGN.o) true HKG.o 1 rfl).mono ?_;rintro e wq ⟨rfl,hWq,hGq⟩;have W4:=Z hWq;have G4:=Z (G3.o.trans hGq);clear hWq hGq);generalize yM T3 gg true=T4 at W4 O4 L4 HMD;have HX4:=Z (show y<(T4.ns.length:Int)by rw[L4.o,L3.o];exact HY.o);go_wp2_with (go_at_call 80;refine(up_v W4.o y HY0.o HX4.o _ rfl).mono ?_;rintro e wq ⟨rfl,rfl⟩);have hq:MRel A c g b w' t.ns.length t' (Value.int IntKind.i64 y) (Value.int IntKind.i64 (upA T4 y)) wq m:=⟨T4,y,rfl,rfl,W4.o,O4.o,HY0.o,HX4.o,by rw[L4.o,L3.o];exact HN.o,HMD.o,G4.o⟩;refine⟨⟨m,hq⟩,?_⟩;have h3:=(yU ⟨m,hq⟩).2 m hq;exact Nat.lt_of_le_of_lt h3 (by rw[hlk];omega)
    | true=>
     have HO1:=Z ho1;rw[ho1,if_neg (by simp)]at hmd;clear ho1;by_cases hkp:kidA T p true=y;rotate_left
     ·rw[if_neg hkp]at hmd;cases hmd
     rw[if_pos hkp]at hmd;have HKP:=Z hkp;clear hkp;have O1:=Z (O0.o.turn p false HP.o);have L1:=Z (xD T p false);obtain⟨T1,hT1⟩:∃T1,T1=yM T p false:=⟨_,rfl⟩;rw[←hT1]at hmd O1 L1;have HT1:=Z hT1;clear hT1;obtain⟨T3,hT3⟩:∃T3,T3=zG (zG T1 false y) true gg:=⟨_,rfl⟩;rw[←hT3,vO]at hmd;have L3:=Z (show T3.ns.length=T.ns.length by rw[hT3,zF,zF,L1.o]);have HT3:=Z hT3;have O3:=Z (show Ok T3 by rw[hT3];exact(O1.o.zT false y (by rw[L1.o];exact HY.o)).zT true gg (by rw[zF,L1.o];exact HGN.o));clear hT3;by_cases hkg:0≤kidA T3 gg (!true);rotate_left
     ·rw[if_neg hkg]at hmd;cases hmd
     rw[if_pos hkg]at hmd;have HKG:=Z hkg;have O4:=Z (O3.o.turn gg true (by rw[L3.o];exact HGN.o));have L4:=Z (xD T3 gg true);have HMD:=Z hmd;clear hkg hmd;go_upto_region 13 with(first
     | (go_at_call_of 79 (Value.int IntKind.i64 p);refine(yD W0.o p HP.o true HR.o).mono ?_;rintro e wq ⟨rfl,rfl⟩)
     | (go_at_call 80;refine(up_v W0.o p P0.o HP.o gg HGE.o).mono ?_;rintro e wq ⟨rfl,rfl⟩)
     | (go_at_call_of 76 (Value.int IntKind.i64 p);refine(on_v W0.o O0.o p P0.o HP.o 0 HS.o).mono ?_;rintro e wq ⟨rfl,rfl⟩)
     | (go_at_call 88;refine(qF W0.o gg GG0.o HGN.o true 1 rfl u HUE.o).mono ?_;rintro e wq ⟨rfl,rfl⟩)
     | (go_at_call_of 79 (Value.int IntKind.i64 u);refine(yD W0.o u HUN.o false HRU.o).mono ?_;rintro e wq ⟨rfl,rfl⟩)
     | (go_at_call_of 76 (Value.int IntKind.i64 y);refine(on_v W0.o O0.o y HY0.o HY.o 1 (by rw[HO1.o];rfl)).mono ?_;rintro e wq ⟨rfl,rfl⟩)
      | (go_at_call 122;refine(qB W0.o O0.o p P0.o HP.o false (by rw[show(!false)=true from rfl,HKP.o];exact HY0.o) 0 rfl).mono ?_;rintro e wq ⟨rfl,hWq,hGq⟩;rw[←HT1.o]at hWq;have W1:=Z hWq;have G1:=Z (G0.o.trans hGq);clear hWq hGq)
      | (go_at_call 82;refine(xA W1.o false y (by have:=P0.o;have:=HP.o;have:=L1.o;omega) (by rw[L1.o];exact HY.o)).mono ?_;rintro e wq ⟨rfl,hWq,hGq⟩;have W2:=Z hWq;have G2:=Z (G1.o.trans hGq);clear hWq hGq))
     go_upto_region 14 with(go_at_call 82;refine(xA W2.o true gg (by have:=L3.o;rw[HT3.o,zF]at this;have:=P0.o;have:=HP.o;omega) (by have:=L3.o;rw[HT3.o,zF]at this;rw[this];exact HGN.o)).mono ?_;rintro e wq ⟨rfl,hWq,hGq⟩;rw[←HT3.o]at hWq;have W3:=Z hWq;have G3:=Z (G2.o.trans hGq);clear hWq hGq);go_upto_region 2 with(go_at_call 122;refine(qB W3.o O3.o gg GG0.o (by rw[L3.o];exact HGN.o) true HKG.o 1 rfl).mono ?_;rintro e wq ⟨rfl,hWq,hGq⟩;have W4:=Z hWq;have G4:=Z (G3.o.trans hGq);clear hWq hGq);generalize yM T3 gg true=T4 at W4 O4 L4 HMD;have HX4:=Z (show p<(T4.ns.length:Int)by rw[L4.o,L3.o];exact HP.o);go_wp2_with (go_at_call 80;refine(up_v W4.o p P0.o HX4.o _ rfl).mono ?_;rintro e wq ⟨rfl,rfl⟩);have hq:MRel A c g b w' t.ns.length t' (Value.int IntKind.i64 p) (Value.int IntKind.i64 (upA T4 p)) wq m:=⟨T4,p,rfl,rfl,W4.o,O4.o,P0.o,HX4.o,by rw[L4.o,L3.o];exact HN.o,HMD.o,G4.o⟩;refine⟨⟨m,hq⟩,?_⟩;have h3:=(yU ⟨m,hq⟩).2 m hq;exact Nat.lt_of_le_of_lt h3 (by rw[hlk];omega)
  | true=>
   have HS:zA (sd (onA T p)=1):=⟨by rw[hs];rfl⟩;obtain⟨u,hue⟩:∃u,u=kidA T gg false:=⟨_,rfl⟩;rw[hs]at hmd;simp only[Bool.not_true]at hmd;rw[←hue]at hmd;have HUE:=Z hue.symm;have HUN:=Z (show u<(T.ns.length:Int)by rw[hue];exact O0.o.kid _ _);clear hue;cases hru:redA T u with
   | true=>
    have HRU:=Z hru;rw[hru,if_pos rfl]at hmd;clear hs hru;have HMD:=Z hmd;clear hmd;go_upto_region 7 with(first
     | (go_at_call_of 79 (Value.int IntKind.i64 p);refine(yD W0.o p HP.o true HR.o).mono ?_;rintro e wq ⟨rfl,rfl⟩)
     | (go_at_call 80;refine(up_v W0.o p P0.o HP.o gg HGE.o).mono ?_;rintro e wq ⟨rfl,rfl⟩)
     | (go_at_call_of 76 (Value.int IntKind.i64 p);refine(on_v W0.o O0.o p P0.o HP.o 1 HS.o).mono ?_;rintro e wq ⟨rfl,rfl⟩)
     | (go_at_call 88;refine(qF W0.o gg GG0.o HGN.o false 0 rfl u HUE.o).mono ?_;rintro e wq ⟨rfl,rfl⟩)
     | (go_at_call_of 79 (Value.int IntKind.i64 u);refine(yD W0.o u HUN.o true HRU.o).mono ?_;rintro e wq ⟨rfl,rfl⟩)
     | (go_at_call 82;refine(jB W0.o false p u (by have:=P0.o;have:=HP.o;omega) HP.o HUN.o).mono ?_;rintro e wq ⟨rfl,hWq,hGq⟩;have W1:=Z hWq;have G1:=Z (G0.o.trans hGq);clear hWq hGq))
    go_upto_region 8 with(go_at_call 82;refine(xA W1.o true gg (by rw[zF,zF];have:=P0.o;have:=HP.o;omega) (by rw[zF,zF];exact HGN.o)).mono ?_;rintro e wq ⟨rfl,hWq,hGq⟩;have W2:=Z hWq;have G2:=Z (G1.o.trans hGq);clear hWq hGq);have O2:=Z (((O0.o.zT false p HP.o).zT false u (by rw[zF];exact HUN.o)).zT true gg (by rw[zF,zF];exact HGN.o));have L2:=Z (show(zG (zG (zG T false p) false u) true gg).ns.length=T.ns.length by rw[zF,zF,zF]);generalize zG (zG (zG T false p) false u) true gg=T2 at W2 O2 L2 HMD;go_wp2_with (go_at_call 80;refine(up_v W2.o gg GG0.o (by rw[L2.o];exact HGN.o) _ rfl).mono ?_;rintro e wq ⟨rfl,rfl⟩);have hq:MRel A c g b w' t.ns.length t' (Value.int IntKind.i64 gg) (Value.int IntKind.i64 (upA T2 gg)) wq m:=⟨T2,gg,rfl,rfl,W2.o,O2.o,GG0.o,by rw[L2.o];exact HGN.o,by rw[L2.o];exact HN.o,HMD.o,G2.o⟩;refine⟨⟨m,hq⟩,?_⟩;have h3:=(yU ⟨m,hq⟩).2 m hq;exact Nat.lt_of_le_of_lt h3 (by rw[hlk];omega)
   | false=>
    have HRU:=Z hru;rw[hru,if_neg (by simp)]at hmd;clear hs hru;cases ho1:onA T y with
    | true=>
     have HO1:=Z ho1;rw[ho1,if_pos rfl]at hmd;clear ho1;obtain⟨T3,hT3⟩:∃T3,T3=zG (zG T false p) true gg:=⟨_,rfl⟩;rw[←hT3,vO]at hmd;have L3:=Z (show T3.ns.length=T.ns.length by rw[hT3,zF,zF]);have HT3:=Z hT3;have O3:=Z (show Ok T3 by rw[hT3];exact(O0.o.zT false p (by exact HP.o)).zT true gg (by rw[zF];exact HGN.o));clear hT3;by_cases hkg:0≤kidA T3 gg (!false);rotate_left
     ·rw[if_neg hkg]at hmd;cases hmd
     rw[if_pos hkg]at hmd;have HKG:=Z hkg;have O4:=Z (O3.o.turn gg false (by rw[L3.o];exact HGN.o));have L4:=Z (xD T3 gg false);have HMD:=Z hmd;clear hkg hmd;go_upto_region 13 with(first
     | (go_at_call_of 79 (Value.int IntKind.i64 p);refine(yD W0.o p HP.o true HR.o).mono ?_;rintro e wq ⟨rfl,rfl⟩)
     | (go_at_call 80;refine(up_v W0.o p P0.o HP.o gg HGE.o).mono ?_;rintro e wq ⟨rfl,rfl⟩)
     | (go_at_call_of 76 (Value.int IntKind.i64 p);refine(on_v W0.o O0.o p P0.o HP.o 1 HS.o).mono ?_;rintro e wq ⟨rfl,rfl⟩)
     | (go_at_call 88;refine(qF W0.o gg GG0.o HGN.o false 0 rfl u HUE.o).mono ?_;rintro e wq ⟨rfl,rfl⟩)
     | (go_at_call_of 79 (Value.int IntKind.i64 u);refine(yD W0.o u HUN.o false HRU.o).mono ?_;rintro e wq ⟨rfl,rfl⟩)
     | (go_at_call_of 76 (Value.int IntKind.i64 y);refine(on_v W0.o O0.o y HY0.o HY.o 1 (by rw[HO1.o];rfl)).mono ?_;rintro e wq ⟨rfl,rfl⟩)
      | (go_at_call 82;refine(xA W0.o false p (by have:=P0.o;have:=HP.o;omega) (by exact HP.o)).mono ?_;rintro e wq ⟨rfl,hWq,hGq⟩;have W2:=Z hWq;have G2:=Z (G0.o.trans hGq);clear hWq hGq))
     go_upto_region 14 with(go_at_call 82;refine(xA W2.o true gg (by have:=L3.o;rw[HT3.o,zF]at this;have:=P0.o;have:=HP.o;omega) (by have:=L3.o;rw[HT3.o,zF]at this;rw[this];exact HGN.o)).mono ?_;rintro e wq ⟨rfl,hWq,hGq⟩;rw[←HT3.o]at hWq;have W3:=Z hWq;have G3:=Z (G2.o.trans hGq);clear hWq hGq);go_upto_region 2 with(go_at_call 122;refine(qB W3.o O3.o gg GG0.o (by rw[L3.o];exact HGN.o) false HKG.o 0 rfl).mono ?_;rintro e wq ⟨rfl,hWq,hGq⟩;have W4:=Z hWq;have G4:=Z (G3.o.trans hGq);clear hWq hGq);generalize yM T3 gg false=T4 at W4 O4 L4 HMD;have HX4:=Z (show y<(T4.ns.length:Int)by rw[L4.o,L3.o];exact HY.o);go_wp2_with (go_at_call 80;refine(up_v W4.o y HY0.o HX4.o _ rfl).mono ?_;rintro e wq ⟨rfl,rfl⟩);have hq:MRel A c g b w' t.ns.length t' (Value.int IntKind.i64 y) (Value.int IntKind.i64 (upA T4 y)) wq m:=⟨T4,y,rfl,rfl,W4.o,O4.o,HY0.o,HX4.o,by rw[L4.o,L3.o];exact HN.o,HMD.o,G4.o⟩;refine⟨⟨m,hq⟩,?_⟩;have h3:=(yU ⟨m,hq⟩).2 m hq;exact Nat.lt_of_le_of_lt h3 (by rw[hlk];omega)
    | false=>
     have HO1:=Z ho1;rw[ho1,if_neg (by simp)]at hmd;clear ho1;by_cases hkp:kidA T p false=y;rotate_left
     ·rw[if_neg hkp]at hmd;cases hmd
     rw[if_pos hkp]at hmd;have HKP:=Z hkp;clear hkp;have O1:=Z (O0.o.turn p true HP.o);have L1:=Z (xD T p true);obtain⟨T1,hT1⟩:∃T1,T1=yM T p true:=⟨_,rfl⟩;rw[←hT1]at hmd O1 L1;have HT1:=Z hT1;clear hT1;obtain⟨T3,hT3⟩:∃T3,T3=zG (zG T1 false y) true gg:=⟨_,rfl⟩;rw[←hT3,vO]at hmd;have L3:=Z (show T3.ns.length=T.ns.length by rw[hT3,zF,zF,L1.o]);have HT3:=Z hT3;have O3:=Z (show Ok T3 by rw[hT3];exact(O1.o.zT false y (by rw[L1.o];exact HY.o)).zT true gg (by rw[zF,L1.o];exact HGN.o));clear hT3;by_cases hkg:0≤kidA T3 gg (!false);rotate_left
     ·rw[if_neg hkg]at hmd;cases hmd
     rw[if_pos hkg]at hmd;have HKG:=Z hkg;have O4:=Z (O3.o.turn gg false (by rw[L3.o];exact HGN.o));have L4:=Z (xD T3 gg false);have HMD:=Z hmd;clear hkg hmd;go_upto_region 13 with(first
     | (go_at_call_of 79 (Value.int IntKind.i64 p);refine(yD W0.o p HP.o true HR.o).mono ?_;rintro e wq ⟨rfl,rfl⟩)
     | (go_at_call 80;refine(up_v W0.o p P0.o HP.o gg HGE.o).mono ?_;rintro e wq ⟨rfl,rfl⟩)
     | (go_at_call_of 76 (Value.int IntKind.i64 p);refine(on_v W0.o O0.o p P0.o HP.o 1 HS.o).mono ?_;rintro e wq ⟨rfl,rfl⟩)
     | (go_at_call 88;refine(qF W0.o gg GG0.o HGN.o false 0 rfl u HUE.o).mono ?_;rintro e wq ⟨rfl,rfl⟩)
     | (go_at_call_of 79 (Value.int IntKind.i64 u);refine(yD W0.o u HUN.o false HRU.o).mono ?_;rintro e wq ⟨rfl,rfl⟩)
     | (go_at_call_of 76 (Value.int IntKind.i64 y);refine(on_v W0.o O0.o y HY0.o HY.o 0 (by rw[HO1.o];rfl)).mono ?_;rintro e wq ⟨rfl,rfl⟩)
      | (go_at_call 122;refine(qB W0.o O0.o p P0.o HP.o true (by rw[show(!true)=false from rfl,HKP.o];exact HY0.o) 1 rfl).mono ?_;rintro e wq ⟨rfl,hWq,hGq⟩;rw[←HT1.o]at hWq;have W1:=Z hWq;have G1:=Z (G0.o.trans hGq);clear hWq hGq)
      | (go_at_call 82;refine(xA W1.o false y (by have:=P0.o;have:=HP.o;have:=L1.o;omega) (by rw[L1.o];exact HY.o)).mono ?_;rintro e wq ⟨rfl,hWq,hGq⟩;have W2:=Z hWq;have G2:=Z (G1.o.trans hGq);clear hWq hGq))
     go_upto_region 14 with(go_at_call 82;refine(xA W2.o true gg (by have:=L3.o;rw[HT3.o,zF]at this;have:=P0.o;have:=HP.o;omega) (by have:=L3.o;rw[HT3.o,zF]at this;rw[this];exact HGN.o)).mono ?_;rintro e wq ⟨rfl,hWq,hGq⟩;rw[←HT3.o]at hWq;have W3:=Z hWq;have G3:=Z (G2.o.trans hGq);clear hWq hGq);go_upto_region 2 with(go_at_call 122;refine(qB W3.o O3.o gg GG0.o (by rw[L3.o];exact HGN.o) false HKG.o 0 rfl).mono ?_;rintro e wq ⟨rfl,hWq,hGq⟩;have W4:=Z hWq;have G4:=Z (G3.o.trans hGq);clear hWq hGq);generalize yM T3 gg false=T4 at W4 O4 L4 HMD;have HX4:=Z (show p<(T4.ns.length:Int)by rw[L4.o,L3.o];exact HP.o);go_wp2_with (go_at_call 80;refine(up_v W4.o p P0.o HX4.o _ rfl).mono ?_;rintro e wq ⟨rfl,rfl⟩);have hq:MRel A c g b w' t.ns.length t' (Value.int IntKind.i64 p) (Value.int IntKind.i64 (upA T4 p)) wq m:=⟨T4,p,rfl,rfl,W4.o,O4.o,P0.o,HX4.o,by rw[L4.o,L3.o];exact HN.o,HMD.o,G4.o⟩;refine⟨⟨m,hq⟩,?_⟩;have h3:=(yU ⟨m,hq⟩).2 m hq;exact Nat.lt_of_le_of_lt h3 (by rw[hlk];omega)
end Go.Proofs.YtnkhnnojdlgfjaaGreatDoor.Tm
end
section
namespace Go.Proofs.YtnkhnnojdlgfjaaGreatDoor.Tm
open RowKit Tr PA PB PC
def blA:T→Int × Bool
 | .E=>(0,true)
 | .B c l _ r=>if (blA l).2=false then (0,false)else if (blA r).2=false then (0,false)else if (blA l).1≠(blA r).1 then (0,false)else if c=true∧(l.red=true∨r.red=true)then (0,false)else if c=true then ((blA l).1,true)else ((blA l).1+1,true)
theorem zaC:∀a:T,0≤(blA a).1∧(blA a).1≤a.size
 | .E=>⟨Int.le_refl _,Int.le_refl _⟩
 | .B c l x r=>by
  have h1:=zaC l;have h2:=zaC r;have hs:((T.B c l x r).size:Int)=(l.size:Int)+r.size+1:=by show((l.size+r.size+1:Nat):Int)=_;omega
  unfold blA;rw[hs];split
  ·simp;omega
  ·split
   ·simp;omega
   ·split
    ·simp;omega
    ·split
     ·simp;omega
     ·split
      ·simp;omega
      ·simp;omega
def hgt:T→Int
 | .E=>0
 | .B _ l _ r=>1+max (hgt l) (hgt r)
variable {A : Option Addr} {c : Nat} {w w1 : World} {g b : Nat} {t : St}
theorem wX {t:St}{a:T}(ha:Lay t a none):a.rt<(t.ns.length:Int):=by
 have h:=jX ha;omega
theorem redLay {t:St}{a:T}{u:Option Int}(h:Lay t a u):redA t a.rt=a.red:=jP h
theorem blacks_:∀(a:T) (w:World) (u:Option Int),Wk A c w g b t→Lay t a u→a.size≤1000000→
  Calls Tryz.prog 113 #[.pointer (some ⟨g,0,none⟩),.int .i64 a.rt] w fun e w'=>e=.returned (.tuple #[.int .i64 (blA a).1,.bool (blA a).2])∧∃n,w'=w.drewN n:=by
 intro a
 induction a with
 | E=>
  intro w u _ _ _;change Calls Tryz.prog 113 #[.pointer (some ⟨g,0,none⟩),.int .i64 (-1)] w _;go_enter Tryz.func113,Tryz.ntmps113;go_wp2
  go_ret2
  exact⟨rfl,0,rfl⟩
 | B cl l x r ihl ihr=>
  intro w u h hL hs;have hs2:l.size+r.size+1≤1000000:=hs;have HRX:=Z (show redA t (x:Int)=cl from jP hL);obtain⟨h1,h2,h3,h4,h5,h6,h7,h8⟩:=hL;have b1:=zaC l;have b2:=zaC r;have hx:(x:Int)<(t.ns.length:Int):=by omega
  have c1:w.cell? ⟨b,x*6+3,none⟩=some (.int .i64 l.rt):=by
   have:=h.fl (x:Int) (by omega) hx;unfold kidA at this;rw[Int.toNat_natCast]at this;rw[this];exact congrArg (fun z=>some (Value.int .i64 z)) h4
  have c2:w.cell? ⟨b,x*6+4,none⟩=some (.int .i64 r.rt):=by
   have:=h.fr (x:Int) (by omega) hx;unfold kidA at this;rw[Int.toNat_natCast]at this;rw[this];exact congrArg (fun z=>some (Value.int .i64 z)) h5
  have H:=Z h;have HX:=Z hx;have HRL:=Z (redLay h7);have HRR:=Z (redLay h8);have HLN:=Z (wX h7.loose);have HRN:=Z (wX h8.loose);have HE:=Z (show blA (T.B cl l x r)=if (blA l).2=false then (0,false)else if (blA r).2=false then (0,false)else if (blA l).1≠(blA r).1 then (0,false)else if cl=true∧(l.red=true∨r.red=true)then (0,false)else if cl=true then ((blA l).1,true)else ((blA l).1+1,true)from rfl);have IL:=Z (fun w hw=>ihl w _ hw h7 (by omega));have IR:=Z (fun w hw=>ihr w _ hw h8 (by omega));clear h ihl ihr h1 h2 h3 h4 h5 h6 h7 h8 hx;rw[HE.o];clear HE;generalize blA l=pl at b1 IL⊢;generalize blA r=pr at b2 IR⊢;obtain⟨n1,o1⟩:=pl;obtain⟨n2,o2⟩:=pr;generalize l.red=rl at HRL⊢;generalize r.red=rr at HRR⊢;simp only at b1 b2 IL IR⊢;change Calls Tryz.prog 113 #[.pointer (some ⟨g,0,none⟩),.int .i64 (x:Int)] w _;have walk:∀(res:Int × Bool),res=(if o1=false then (0,false)else if o2=false then (0,false)else if n1≠n2 then (0,false)else if cl=true∧(rl=true∨rr=true)then (0,false)else if cl=true then (n1,true)else (n1+1,true))→Calls Tryz.prog 113 #[.pointer (some ⟨g,0,none⟩),.int .i64 (x:Int)] w fun e w'=>e=.returned (.tuple #[.int .i64 res.1,.bool res.2])∧∃n,w'=w.drewN n:=by
   intro res hres;have HRES:=Z hres;clear hres;go_enter Tryz.func113,Tryz.ntmps113;go_wp2
   go_quiet (first
    | (go_at_call 78;exact Calls.quiet_of_same (left_ (by first|exact H.o|exact H.o.drewN _) (x:Int) (by omega) HX.o))
    | (go_at_call 81;exact Calls.quiet_of_same (zaQ (by first|exact H.o|exact H.o.drewN _) (x:Int) (by omega) HX.o)))
   go_upto_region 5 with(go_at_call_of 113 (Value.int IntKind.i64 l.rt);refine(IL.o _ (H.o.drewN _)).mono ?_;rintro e wq ⟨rfl,m1,rfl⟩);go_upto_region 6 with(go_at_call_of 113 (Value.int IntKind.i64 r.rt);refine(IR.o _ (H.o.drewN _)).mono ?_;rintro e wq ⟨rfl,m2,rfl⟩);have HW:=Z (show ∃n,w.drewN (nq+m1+m2)=w.drewN n from⟨_,rfl⟩);have H2:=Z (H.o.drewN (nq+m1+m2));generalize w.drewN (nq+m1+m2)=w3 at HW H2⊢;have fin:∀(n:Int) (o:Bool),n=res.1→o=res.2→(Ending.returned (.tuple #[.int .i64 n,.bool o])=Ending.returned (.tuple #[.int .i64 res.1,.bool res.2])∧∃n,w3=w.drewN n):=fun n o e1 e2=>by rw[e1,e2];exact⟨rfl,HW.o⟩
   have FIN:=Z fin;clear fin;cases o1 with
   | false=>
    have HR2:=Z (show res=(0,false)by rw[HRES.o];rfl);go_wp2_with (fail)
    go_ret2
    exact FIN.o _ _ (by rw[HR2.o]) (by rw[HR2.o])
   | true=>
    cases o2 with
    | false=>
     have HR2:=Z (show res=(0,false)by rw[HRES.o];rfl);go_wp2_with (fail)
     go_ret2
     exact FIN.o _ _ (by rw[HR2.o]) (by rw[HR2.o])
    | true=>
     by_cases hne:n1=n2;rotate_left
     ·have HR2:=Z (show res=(0,false)by rw[HRES.o,if_neg (by simp),if_neg (by simp),if_pos hne]);have hb:(n1==n2)=false:=by simpa using hne
      have hb2:(n1 != n2)=true:=by simpa using hne
      go_wp2_with (fail)
      go_ret2
      exact FIN.o _ _ (by rw[HR2.o]) (by rw[HR2.o])
     subst hne;have HR3:=Z (show res=if cl=true∧(rl=true∨rr=true)then (0,false)else if cl=true then (n1,true)else (n1+1,true)by rw[HRES.o,if_neg (by simp),if_neg (by simp),if_neg (by simp)]);clear HRES;cases cl with
     | false=>
      have HR2:=Z (show res=(n1+1,true)by rw[HR3.o];rfl);go_wp2_with (go_at_call 79;refine(yD H2.o (x:Int) HX.o false HRX.o).mono ?_;rintro e wq ⟨rfl,rfl⟩)
      go_ret2
      exact FIN.o _ _ (by rw[HR2.o]) (by rw[HR2.o])
     | true=>
      cases rl with
      | true=>
       have HR2:=Z (show res=(0,false)by rw[HR3.o];rfl);go_wp2_with (go_at_call 79;first|(with_reducible refine(yD H2.o (x:Int) HX.o true HRX.o).mono ?_;rintro e wq ⟨rfl,rfl⟩)|(with_reducible refine(yD H2.o l.rt HLN.o true HRL.o).mono ?_;rintro e wq ⟨rfl,rfl⟩))
       go_ret2
       exact FIN.o _ _ (by rw[HR2.o]) (by rw[HR2.o])
      | false=>
       cases rr with
       | true=>
        have HR2:=Z (show res=(0,false)by rw[HR3.o];rfl);go_wp2_with (go_at_call 79;first|(with_reducible refine(yD H2.o (x:Int) HX.o true HRX.o).mono ?_;rintro e wq ⟨rfl,rfl⟩)|(with_reducible refine(yD H2.o l.rt HLN.o false HRL.o).mono ?_;rintro e wq ⟨rfl,rfl⟩)|(with_reducible refine(yD H2.o r.rt HRN.o true HRR.o).mono ?_;rintro e wq ⟨rfl,rfl⟩))
        go_ret2
        exact FIN.o _ _ (by rw[HR2.o]) (by rw[HR2.o])
       | false=>
        have HR2:=Z (show res=(n1,true)by rw[HR3.o];rfl);go_wp2_with (go_at_call 79;first|(with_reducible refine(yD H2.o (x:Int) HX.o true HRX.o).mono ?_;rintro e wq ⟨rfl,rfl⟩)|(with_reducible refine(yD H2.o l.rt HLN.o false HRL.o).mono ?_;rintro e wq ⟨rfl,rfl⟩)|(with_reducible refine(yD H2.o r.rt HRN.o false HRR.o).mono ?_;rintro e wq ⟨rfl,rfl⟩))
        go_ret2
        exact FIN.o _ _ (by rw[HR2.o]) (by rw[HR2.o])
  exact walk _ rfl
end Go.Proofs.YtnkhnnojdlgfjaaGreatDoor.Tm
end
