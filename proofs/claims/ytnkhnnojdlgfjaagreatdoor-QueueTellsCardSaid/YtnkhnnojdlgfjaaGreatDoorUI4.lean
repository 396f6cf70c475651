/- Parts of the proof, joined: Tr. -/
set_option linter.unusedVariables false
set_option linter.unusedSimpArgs false
namespace Go.Proofs.YtnkhnnojdlgfjaaGreatDoor.Tr
structure Nd where
 inn:Bool
 red:Bool
 v:Int
 l:Int
 r:Int
 u:Int
def emp:Nd:=⟨false,false,0,-1,-1,-1⟩
structure St where
 ns:List Nd
 rt:Int
def gn (t:St) (x:Nat):Nd:=t.ns.getD x emp
def sn (t:St) (x:Nat) (n:Nd):St:=⟨t.ns.set x n,t.rt⟩
theorem xQ (t:St) (x:Nat) (n:Nd):(sn t x n).ns.length=t.ns.length:=by simp[sn]
theorem wM (t:St) (x:Nat) (n:Nd) (y:Nat) (h:x<t.ns.length):gn (sn t x n) y=if y=x then n else gn t y:=by
 unfold gn sn;rw[List.getD_eq_getElem?_getD,List.getD_eq_getElem?_getD,List.getElem?_set];by_cases e:y=x
 ·subst e;simp[h]
 rw[if_neg (fun h=>e h.symm),if_neg e]
def kidA (t:St) (x:Int) (s:Bool):Int:=if s then (gn t x.toNat).r else (gn t x.toNat).l
def vD (n:Nd) (s:Bool) (y:Int):Nd:=if s then { n with r:=y }else { n with l:=y }
def xM (t:St) (x:Int) (s:Bool) (y:Int):St:=if x<0 then ⟨t.ns,y⟩else sn t x.toNat (vD (gn t x.toNat) s y)
def jC (t:St) (x:Int) (y:Int):St:=if 0≤y then sn t y.toNat { gn t y.toNat with u:=x }else t
def zM (t:St) (x:Int) (s:Bool) (y:Int):St:=jC (xM t x s y) x y
def onA (t:St) (x:Int):Bool:=decide (0≤(gn t x.toNat).u∧kidA t (gn t x.toNat).u true=x)
def yM (t:St) (x:Int) (s:Bool):St:=
 zM (zM (zM t x (!s) (kidA t (kidA t x (!s)) s)) (gn t x.toNat).u (onA t x) (kidA t x (!s))) (kidA t x (!s)) s x
inductive T where
 | E
 | B (c:Bool) (l:T) (x:Nat) (r:T)
namespace T
def rt:T→Int
 | E=>-1
 | B _ _ x _=>x
def ids:T→List Nat
 | E=>[]
 | B _ l x r=>l.ids++x::r.ids
def red:T→Bool
 | E=>false
 | B c _ _ _=>c
end T
open T
def Lay (t:St):T→Option Int→Prop
 | E,_=>True
 | B c l x r,u=>x<t.ns.length∧(gn t x).inn=true∧(gn t x).red=c∧(gn t x).l=l.rt∧(gn t x).r=r.rt∧(∀p,u=some p→(gn t x).u=p)∧Lay t l (some x)∧Lay t r (some x)
theorem Lay.congr {t t':St}(hl:t'.ns.length=t.ns.length):∀{a:T}{u:Option Int},(∀x∈a.ids,gn t' x=gn t x)→Lay t a u→Lay t' a u
 | E,_,_,_=>trivial
 | B c l x r,u,h,⟨h1,h2,h3,h4,h5,h6,h7,h8⟩=>by
  have hx:=h x (by simp[T.ids]);refine⟨by rw[hl];exact h1,by rw[hx];exact h2,by rw[hx];exact h3,by rw[hx];exact h4,by rw[hx];exact h5,by rw[hx];exact h6,?_,?_⟩
  ·exact Lay.congr hl (fun y hy=>h y (by simp[T.ids,hy])) h7
  ·exact Lay.congr hl (fun y hy=>h y (by simp[T.ids,hy])) h8
theorem Lay.loose {t:St}:∀{a:T}{u:Option Int},Lay t a u→Lay t a none
 | E,_,_=>trivial
 | B c l x r,u,⟨h1,h2,h3,h4,h5,h6,h7,h8⟩=>⟨h1,h2,h3,h4,h5,(fun p h=>by cases h),h7,h8⟩
theorem Lay.lt {t:St}:∀{a:T}{u:Option Int},Lay t a u→∀x∈a.ids,x<t.ns.length
 | E,_,_,x,hx=>by cases hx
 | B c l y r,u,⟨h1,h2,h3,h4,h5,h6,h7,h8⟩,x,hx=>by
  rcases List.mem_append.1 hx with hx|hx
  ·exact h7.lt x hx
  ·rcases List.mem_cons.1 hx with rfl|hx
   ·exact h1
   ·exact h8.lt x hx
theorem zbO (a:T):a.rt=-1∧a=E∨∃c l x r,a=B c l x r∧a.rt=x:=by
 cases a with
 | E=>exact Or.inl ⟨rfl,rfl⟩
 | B c l x r=>exact Or.inr ⟨c,l,x,r,rfl,rfl⟩
structure F where
 c:Bool
 x:Nat
 s:Bool
 o:T
def upC:List F→Int
 | []=>-1
 | f::_=>f.x
def yN:List F→Bool
 | []=>false
 | f::_=>f.s
def idsC:List F→List Nat
 | []=>[]
 | f::C=>f.x::(f.o.ids++idsC C)
def yL (f:F) (a:T):T:=if f.s then B f.c f.o f.x a else B f.c a f.x f.o
def plug:List F→T→T
 | [],a=>a
 | f::C,a=>plug C (yL f a)
def LayC (t:St):List F→Option Int→Prop
 | [],k=>∀y,k=some y→t.rt=y
 | f::C,k=>f.x<t.ns.length∧(gn t f.x).inn=true∧(gn t f.x).red=f.c∧(∀y,k=some y→kidA t f.x f.s=y)∧kidA t f.x (!f.s)=f.o.rt∧(gn t f.x).u=upC C∧Lay t f.o (some f.x)∧LayC t C (some f.x)
theorem LayC.congr {t t':St}(hl:t'.ns.length=t.ns.length) (hr:t'.rt=t.rt):∀{C:List F}{k:Option Int},(∀x∈idsC C,gn t' x=gn t x)→LayC t C k→LayC t' C k
 | [],k,_,h=>fun y hy=>by rw[hr];exact h y hy
 | f::C,k,h,⟨h1,h2,h3,h4,h5,h6,h7,h8⟩=>by
  have hx:=h f.x (by simp[idsC]);have hk:∀s,kidA t' f.x s=kidA t f.x s:=fun s=>by unfold kidA;rw[Int.toNat_natCast,hx]
  refine⟨by rw[hl];exact h1,by rw[hx];exact h2,by rw[hx];exact h3,by rw[hk];exact h4,by rw[hk];exact h5,by rw[hx];exact h6,?_,?_⟩
  ·exact Lay.congr hl (fun y hy=>h y (by simp[idsC,hy])) h7
  ·exact LayC.congr hl hr (fun y hy=>h y (by simp[idsC,hy])) h8
theorem kU (f:F) (a:T):(yL f a).rt=f.x:=by unfold yL;split<;>rfl
theorem vU (f:F) (a:T):(yL f a).ids.Perm (a.ids++f.x::f.o.ids):=by
 unfold yL;split
 ·show(f.o.ids++f.x::a.ids).Perm _;refine List.perm_append_comm.trans ?_;show(f.x::a.ids++f.o.ids).Perm (a.ids++f.x::f.o.ids);exact List.perm_middle.symm
 ·exact List.Perm.refl _
theorem kD:∀(C:List F) (a:T),(plug C a).ids.Perm (a.ids++idsC C)
 | [],a=>by rw[idsC,List.append_nil];exact List.Perm.refl _
 | f::C,a=>by
  refine(kD C (yL f a)).trans ?_;refine((vU f a).append_right _).trans ?_;rw[List.append_assoc];exact List.Perm.refl _
theorem xJ {t:St}{f:F}{a:T}{u:Int}:Lay t (yL f a) (some u)↔f.x<t.ns.length∧(gn t f.x).inn=true∧(gn t f.x).red=f.c∧kidA t f.x f.s=a.rt∧kidA t f.x (!f.s)=f.o.rt∧(gn t f.x).u=u∧Lay t f.o (some f.x)∧Lay t a (some f.x):=by
 unfold yL kidA;rw[Int.toNat_natCast];cases hs:f.s with
 | false=>
  constructor
  ·intro ⟨h1,h2,h3,h4,h5,h6,h7,h8⟩;exact⟨h1,h2,h3,h4,h5,h6 _ rfl,h8,h7⟩
  ·intro ⟨h1,h2,h3,h4,h5,h6,h7,h8⟩;exact⟨h1,h2,h3,h4,h5,fun p hp=>by rw[←Option.some.inj hp];exact h6,h8,h7⟩
 | true=>
  constructor
  ·intro ⟨h1,h2,h3,h4,h5,h6,h7,h8⟩;exact⟨h1,h2,h3,h5,h4,h6 _ rfl,h7,h8⟩
  ·intro ⟨h1,h2,h3,h4,h5,h6,h7,h8⟩;exact⟨h1,h2,h3,h5,h4,fun p hp=>by rw[←Option.some.inj hp];exact h6,h7,h8⟩
theorem wP {t:St}:∀{C:List F}{a:T},(Lay t (plug C a) (some (-1))∧t.rt=(plug C a).rt)↔(LayC t C (some a.rt)∧Lay t a (some (upC C)))
 | [],a=>by
  constructor
  ·intro ⟨h1,h2⟩;exact⟨fun y hy=>by rw[←Option.some.inj hy];exact h2,h1⟩
  ·intro ⟨h1,h2⟩;exact⟨h2,h1 _ rfl⟩
 | f::C,a=>by
  show(Lay t (plug C (yL f a)) (some (-1))∧t.rt=(plug C (yL f a)).rt)↔_;rw[wP (C:=C) (a:=yL f a),xJ,kU];constructor
  ·intro ⟨h0,h1,h2,h3,h4,h5,h6,h7,h8⟩;exact⟨⟨h1,h2,h3,fun y hy=>by rw[←Option.some.inj hy];exact h4,h5,h6,h7,h0⟩,h8⟩
  ·intro ⟨⟨h1,h2,h3,h4,h5,h6,h7,h0⟩,h8⟩;exact⟨h0,h1,h2,h3,h4 _ rfl,h5,h6,h7,h8⟩
theorem qR (t:St) (x:Int) (s:Bool) (y:Int):(xM t x s y).ns.length=t.ns.length:=by unfold xM;split<;>simp[sn]
theorem zX (t:St) (x:Int) (s:Bool) (y:Int):(zM t x s y).ns.length=t.ns.length:=by
 unfold zM jC;split
 ·rw[xQ,qR]
 ·exact qR _ _ _ _
theorem hang_rt (t:St) (x:Int) (s:Bool) (y:Int):(zM t x s y).rt=if x<0 then y else t.rt:=by
 unfold zM jC xM;split<;>split<;>rfl
theorem jK {t:St}{x:Int}(s:Bool) (y:Int) (hx:0≤x→x.toNat<t.ns.length) (z:Nat):gn (xM t x s y) z=if 0≤x∧z=x.toNat then vD (gn t z) s y else gn t z:=by
 unfold xM;by_cases h:x<0
 ·rw[if_pos h,if_neg (by omega)]
  rfl
 rw[if_neg h,wM _ _ _ _ (hx (by omega))];by_cases e:z=x.toNat
 ·rw[if_pos e,if_pos ⟨by omega,e⟩,e]
 rw[if_neg e,if_neg (fun h=>e h.2)]
theorem kS {t:St}{x:Int}(s:Bool) {y:Int}(hx:0≤x→x.toNat<t.ns.length) (hy:0≤y→y.toNat<t.ns.length) (z:Nat) :
  gn (zM t x s y) z=if 0≤y∧z=y.toNat then { gn (xM t x s y) z with u:=x }else gn (xM t x s y) z:=by
 unfold zM jC;by_cases h:0≤y;rotate_left
 ·rw[if_neg h,if_neg (fun h2=>h h2.1)]
 rw[if_pos h,wM _ _ _ _ (by rw[qR];exact hy h)];by_cases e:z=y.toNat
 ·rw[if_pos e,if_pos ⟨h,e⟩,e]
 rw[if_neg e,if_neg (fun h=>e h.2)]
theorem hang1_v {t:St}{x:Int}(s:Bool) (y:Int) (hx:0≤x→x.toNat<t.ns.length) (z:Nat):(gn (xM t x s y) z).v=(gn t z).v:=by
 rw[jK s y hx];split
 ·unfold vD;split<;>rfl
 ·rfl
theorem hang_v {t:St}{x:Int}(s:Bool) {y:Int}(hx:0≤x→x.toNat<t.ns.length) (hy:0≤y→y.toNat<t.ns.length) (z:Nat):(gn (zM t x s y) z).v=(gn t z).v:=by
 rw[kS s hx hy];split
 ·exact hang1_v s y hx z
 ·exact hang1_v s y hx z
theorem LayC.lt {t:St}:∀{C:List F}{k:Option Int},LayC t C k→∀x∈idsC C,x<t.ns.length
 | [],_,_,x,hx=>by cases hx
 | f::C,k,⟨h1,h2,h3,h4,h5,h6,h7,h8⟩,x,hx=>by
  rcases List.mem_cons.1 hx with rfl|hx
  ·exact h1
  ·rcases List.mem_append.1 hx with hx|hx
   ·exact h7.lt x hx
   ·exact h8.lt x hx
theorem jX {t:St}{a:T}(ha:Lay t a none):0≤a.rt→a.rt.toNat<t.ns.length:=fun h=>by
 cases a with
 | E=>exact absurd h (by show ¬(0:Int)≤-1;omega)
 | B c l x r=>exact ha.1
theorem vQ {t:St}{C:List F}{k:Option Int}(h:LayC t C k):0≤upC C→(upC C).toNat<t.ns.length:=fun h0=>by
 cases C with
 | nil=>exact absurd h0 (by show ¬(0:Int)≤-1;omega)
 | cons f C=>exact h.1
theorem kR {t:St}{C:List F}{k:Option Int}{y:Int}{s:Bool}(hC:LayC t C k) (hy:0≤y→y.toNat<t.ns.length) (z:Nat) (h1:(z:Int)≠upC C) (h2:(z:Int)≠y):gn (zM t (upC C) s y) z=gn t z:=by
 rw[kS s (vQ hC) hy,if_neg (fun h=>h2 (by omega)),jK _ _ (vQ hC),if_neg (fun h=>h1 (by omega))]
theorem hang_keep {t:St}{C:List F}{k:Option Int}{a:T}{s:Bool}(hC:LayC t C k) (ha:Lay t a none) (z:Nat) (h1:(z:Int)≠upC C) (h2:(z:Int)≠a.rt):gn (zM t (upC C) s a.rt) z=gn t z:=kR hC (jX ha) z h1 h2
theorem zau {C:List F}(z:Nat) (hz:(z:Int)=upC C):z∈idsC C:=by
 cases C with
 | nil=>exact absurd hz (by show ¬(z:Int)=-1;omega)
 | cons f C=>
  have e:(z:Int)=(f.x:Int):=hz;have e2:z=f.x:=by omega
  subst e2;simp[idsC]
theorem hang_layC {t:St}{C:List F}{y:Int}(hC:LayC t C none) (hy:0≤y→y.toNat<t.ns.length) (hd:∀z:Nat,(z:Int)=y→z∉idsC C) (hn:(idsC C).Nodup):LayC (zM t (upC C) (yN C) y) C (some y):=by
 have hlen:=zX t (upC C) (yN C) y;have hkeep:∀z:Nat,(z:Int)≠upC C→(z:Int)≠y→gn (zM t (upC C) (yN C) y) z=gn t z:=fun z h1 h2=>kR hC hy z h1 h2
 have hgu:=fun z=>kS (yN C) (vQ hC) hy z
 have hg1:=fun z=>jK (yN C) y (vQ hC) z
 cases C with
 | nil=>
  intro y hy;rw[←Option.some.inj hy,hang_rt,if_pos (by show(-1:Int)<0;omega)]
 | cons f C=>
  obtain⟨h1,h2,h3,h4,h5,h6,h7,h8⟩:=hC;have hn1:=List.nodup_cons.1 hn;have hfx:gn (zM t (upC (f::C)) (yN (f::C)) y) f.x=vD (gn t f.x) f.s y:=by
   rw[hgu,if_neg (fun h=>hd f.x (by omega) (by simp[idsC])),hg1,if_pos ⟨by show(0:Int)≤(f.x:Int);omega,by show f.x=((f.x:Int)).toNat;omega⟩]
   rfl
  have hin:(vD (gn t f.x) f.s y).inn=(gn t f.x).inn∧(vD (gn t f.x) f.s y).red=(gn t f.x).red∧(vD (gn t f.x) f.s y).u=(gn t f.x).u:=by unfold vD;split<;>exact⟨rfl,rfl,rfl⟩
  refine⟨by rw[hlen];exact h1,by rw[hfx,hin.1];exact h2,by rw[hfx,hin.2.1];exact h3,fun y hy=>?_,?_,by rw[hfx,hin.2.2];exact h6,?_,?_⟩
  ·rw[←Option.some.inj hy];unfold kidA;rw[Int.toNat_natCast,hfx];unfold vD;cases f.s<;>rfl
  ·rw[←h5];unfold kidA;rw[Int.toNat_natCast,hfx];unfold vD;cases f.s<;>rfl
  ·refine Lay.congr hlen (fun z hz=>hkeep z ?_ ?_) h7
   ·intro e;have e2:(z:Int)=(f.x:Int):=e;have e3:z=f.x:=by omega
    subst e3;exact hn1.1 (List.mem_append_left _ hz)
   ·intro e;exact hd z e (by simp[idsC,hz])
  ·refine LayC.congr hlen (by rw[hang_rt,if_neg (by show ¬(f.x:Int)<0;omega)]) (fun z hz=>hkeep z ?_ ?_) h8
   ·intro e;have e2:(z:Int)=(f.x:Int):=e;have e3:z=f.x:=by omega
    subst e3;exact hn1.1 (List.mem_append_right _ hz)
   ·intro e;exact hd z e (by simp[idsC,hz])
theorem wQ {t:St}{C:List F}{a:T}(hC:LayC t C none) (ha:Lay t a none) (hd:∀x∈a.ids,x∉idsC C) (hn:(idsC C).Nodup) (hna:a.ids.Nodup) :
  LayC (zM t (upC C) (yN C) a.rt) C (some a.rt)∧Lay (zM t (upC C) (yN C) a.rt) a (some (upC C)):=by
 have hrt:∀z:Nat,(z:Int)=a.rt→z∈a.ids:=fun z hz=>by
  cases a with
  | E=>exact absurd hz (by show ¬(z:Int)=-1;omega)
  | B c l x r=>
   have:z=x:=by have:(z:Int)=(x:Int):=hz;omega
   subst this;simp[T.ids]
 have hup:∀z:Nat,(z:Int)=upC C→z∈idsC C:=fun z hz=>zau z hz
 have hlen:=zX t (upC C) (yN C) a.rt;have hkeep:∀z:Nat,(z:Int)≠upC C→(z:Int)≠a.rt→gn (zM t (upC C) (yN C) a.rt) z=gn t z:=fun z h1 h2=>hang_keep hC ha z h1 h2
 have hgu:=fun z=>kS (yN C) (vQ hC) (jX ha) z
 have hg1:=fun z=>jK (yN C) a.rt (vQ hC) z
 constructor
 ·exact hang_layC hC (jX ha) (fun z hz=>hd z (hrt z hz)) hn
 ·cases a with
  | E=>trivial
  | B c l x r=>
   obtain⟨h1,h2,h3,h4,h5,h6,h7,h8⟩:=ha;have hxu:(x:Int)≠upC C:=fun e=>hd x (by simp[T.ids]) (hup x e)
   have hx:gn (zM t (upC C) (yN C) (B c l x r).rt) x={ gn t x with u:=upC C }:=by
    rw[hgu,if_pos ⟨by show(0:Int)≤(x:Int);omega,by show x=((x:Int)).toNat;omega⟩,hg1,if_neg (fun h=>hxu (by omega))]
   have hna2:(l.ids++x::r.ids).Nodup:=hna;rw[List.nodup_append]at hna2;have hsub:∀z,z∈l.ids∨z∈r.ids→gn (zM t (upC C) (yN C) (B c l x r).rt) z=gn t z:=fun z hz=>by
    have hzi:z∈(B c l x r).ids:=by rcases hz with hz|hz<;>simp[T.ids,hz]
    refine hkeep z (fun e=>hd z hzi (hup z e)) (fun e=>?_);have e2:z=x:=by have:(z:Int)=(x:Int):=e;omega
    subst e2;rcases hz with hz|hz
    ·exact hna2.2.2 z hz z List.mem_cons_self rfl
    ·exact(List.nodup_cons.1 hna2.2.1).1 hz
   refine⟨by rw[hlen];exact h1,by rw[hx];exact h2,by rw[hx];exact h3,by rw[hx];exact h4,by rw[hx];exact h5,fun p hp=>by rw[hx,←Option.some.inj hp],?_,?_⟩
   ·exact Lay.congr hlen (fun z hz=>hsub z (Or.inl hz)) h7
   ·exact Lay.congr hlen (fun z hz=>hsub z (Or.inr hz)) h8
def nd (s:Bool) (c:Bool) (x:Nat) (p q:T):T:=yL ⟨c,x,s,q⟩ p
theorem LayC.loose {t:St}:∀{C:List F}{k:Option Int},LayC t C k→LayC t C none
 | [],_,_=>fun y hy=>by cases hy
 | f::C,k,⟨h1,h2,h3,h4,h5,h6,h7,h8⟩=>⟨h1,h2,h3,(fun y hy=>by cases hy),h5,h6,h7,h8⟩
theorem hang_ctx {t:St}{C:List F}{f:F}(hC:LayC t C none) (h1:f.x<t.ns.length) (h2:(gn t f.x).inn=true) (h3:(gn t f.x).red=f.c) (h5:kidA t f.x (!f.s)=f.o.rt) (h7:Lay t f.o (some f.x)) (hn:(idsC (f::C)).Nodup) :
  LayC (zM t (upC C) (yN C) f.x) (f::C) none:=by
 have hn1:=List.nodup_cons.1 hn;have hn2:=(List.nodup_append.1 hn1.2);have hlen:=zX t (upC C) (yN C) f.x;have hy:0≤(f.x:Int)→((f.x:Int)).toNat<t.ns.length:=fun _=>h1
 have hxC:f.x∉idsC C:=fun h=>hn1.1 (List.mem_append_right _ h)
 have hc:=hang_layC (y:=(f.x:Int)) hC hy (fun z hz=>by
  have e:z=f.x:=by omega
  subst e;exact hxC) hn2.2.1
 have hx:gn (zM t (upC C) (yN C) f.x) f.x={ gn t f.x with u:=upC C }:=by
  rw[kS (yN C) (vQ hC) hy,if_pos ⟨by omega,by omega⟩,jK _ _ (vQ hC),if_neg (fun h=>hxC (zau f.x (by omega)))]
 refine⟨by rw[hlen];exact h1,by rw[hx];exact h2,by rw[hx];exact h3,(fun y hy=>by cases hy),?_,by rw[hx],?_,hc⟩
 ·rw[←h5];unfold kidA;rw[Int.toNat_natCast,hx]
 ·refine Lay.congr hlen (fun z hz=>kR hC hy z (fun e=>?_) (fun e=>?_)) h7
  ·exact hn2.2.2 z hz z (zau z e) rfl
  ·have e3:z=f.x:=by omega
   subst e3;exact hn1.1 (List.mem_append_left _ hz)
theorem zbF {t:St}{C:List F}{x:Nat}(hC:LayC t C (some (x:Int))) (hx:(gn t x).u=upC C) (hd:x∉idsC C):onA t x=yN C:=by
 unfold onA;rw[Int.toNat_natCast,hx];cases C with
 | nil=>exact decide_eq_false (fun h=>by have:=h.1;exact absurd this (by show ¬(0:Int)≤-1;omega))
 | cons f C=>
  obtain⟨h1,h2,h3,h4,h5,h6,h7,h8⟩:=hC;show decide (0≤(f.x:Int)∧kidA t f.x true=x)=f.s;cases hs:f.s with
  | true=>rw[hs]at h4;exact decide_eq_true ⟨by omega,h4 _ rfl⟩
  | false=>
   rw[hs]at h5;refine decide_eq_false (fun h=>hd ?_);have e:f.o.rt=(x:Int):=by rw[←h5];exact h.2
   rcases zbO f.o with⟨e2,_⟩|⟨c,l,z,r,e2,e3⟩
   ·omega
   ·have e4:x=z:=by omega
    subst e4;simp[idsC,e2,T.ids]
theorem jS (s c:Bool) (x:Nat) (p q:T):(nd s c x p q).rt=x:=kU _ _
theorem vF (s c:Bool) (x:Nat) (p q:T):(nd s c x p q).ids.Perm (p.ids++x::q.ids):=vU _ _
theorem xW {a:T}(z:Nat) (hz:(z:Int)=a.rt):z∈a.ids:=by
 cases a with
 | E=>exact absurd hz (by show ¬(z:Int)=-1;omega)
 | B c l x r=>
  have e:(z:Int)=(x:Int):=hz;have e2:z=x:=by omega
  subst e2;simp[T.ids]
theorem zaR {t:St}{C:List F}{s cx cy:Bool}{x y:Nat}{b d e:T}(hC:LayC t C (some (x:Int))) (hL:Lay t (nd (!s) cx x (nd s cy y b d) e) (some (upC C))) (hN:(b.ids++(y::(d.ids++(x::(e.ids++idsC C))))).Nodup) :
  LayC (yM t x s) C (some (y:Int))∧Lay (yM t x s) (nd s cy y (nd (!s) cx x b e) d) (some (upC C))∧(yM t x s).ns.length=t.ns.length∧∀z,(gn (yM t x s) z).v=(gn t z).v∧(z∉b.ids++(y::(d.ids++(x::(e.ids++idsC C))))→gn (yM t x s) z=gn t z):=by
 obtain⟨nb,n1,db⟩:=List.nodup_append.1 hN;obtain⟨yn,n2⟩:=List.nodup_cons.1 n1;obtain⟨ndd,n3,dd⟩:=List.nodup_append.1 n2;obtain⟨xn,n4⟩:=List.nodup_cons.1 n3;obtain⟨ne,nC,de⟩:=List.nodup_append.1 n4;obtain⟨x1,x2,x3,x4,x5,x6,x7,hY⟩:=xJ.1 hL;obtain⟨y1,y2,y3,y4,y5,y6,y7,y8⟩:=xJ.1 hY;simp only at x1 x2 x3 x4 x5 x6 x7 y1 y2 y3 y4 y5 y6 y7 y8;rw[jS]at x4;rw[Bool.not_not]at x5;have hyx:y≠x:=fun e=>yn (by rw[e];simp)
 have hbx:∀z∈b.ids,z≠x:=fun z hz=>db z hz x (by simp)
 have hby:∀z∈b.ids,z≠y:=fun z hz=>db z hz y (by simp)
 have hdx:∀z∈d.ids,z≠x:=fun z hz=>dd z hz x (by simp)
 have hdb:∀z∈d.ids,z∉b.ids:=fun z hz h=>db z h z (by simp[hz]) rfl
 have hyb:y∉b.ids:=fun h=>db y h y (by simp) rfl
 have hyC:y∉idsC C:=fun h=>yn (by simp[h])
 have hxC:x∉idsC C:=fun h=>xn (by simp[h])
 -- the first
 have hC1:LayC t (⟨cx,x,!s,e⟩::C) none:=⟨x1,x2,x3,(fun y hy=>by cases hy),by simp only[Bool.not_not];exact x5,x6,x7,hC⟩;have hon:=zbF hC x6 hxC;obtain⟨k1,k2⟩:=wQ hC1 y8.loose (fun z hz h=>by
  rcases List.mem_cons.1 h with h|h
  ·exact hbx z hz h
  ·exact db z hz z (by simp[h]) rfl) n3 nb
 have keep1:∀z:Nat,z≠x→z∉b.ids→gn (zM t (x:Int) (!s) b.rt) z=gn t z:=fun z h1 h2=>hang_keep (s:=!s) hC1 y8.loose z (fun e=>h1 (by have e2:(z:Int)=(x:Int):=e;omega)) (fun e=>h2 (xW z e))
 have len1:=zX t (x:Int) (!s) b.rt;have v1:∀z,(gn (zM t (x:Int) (!s) b.rt) z).v=(gn t z).v:=fun z=>hang_v (t:=t) (x:=(x:Int)) (!s) (fun _=>x1) (jX y8.loose) z
 change LayC (zM t (x:Int) (!s) b.rt) _ _ at k1;change Lay (zM t (x:Int) (!s) b.rt) _ _ at k2;have htu:yM t x s=zM (zM (zM t (x:Int) (!s) b.rt) (upC C) (yN C) (y:Int)) (y:Int) s (x:Int):=by
  unfold yM;rw[x4,y4,Int.toNat_natCast,x6,hon]
 rw[htu];generalize zM t (x:Int) (!s) b.rt=t1 at k1 k2 keep1 len1 v1⊢;have gy:=keep1 y hyx hyb;have kx:=(xJ (t:=t1) (f:=⟨cx,x,!s,e⟩) (a:=b) (u:=upC C)).2 (show x<t1.ns.length∧(gn t1 x).inn=true∧(gn t1 x).red=cx∧kidA t1 x (!s)=b.rt∧kidA t1 x (!(!s))=e.rt∧(gn t1 x).u=upC C∧Lay t1 e (some (x:Int))∧Lay t1 b (some (x:Int))from⟨k1.1,k1.2.1,k1.2.2.1,k1.2.2.2.1 _ rfl,k1.2.2.2.2.1,k1.2.2.2.2.2.1,k1.2.2.2.2.2.2.1,k2⟩)
 -- the second
 have hC2:LayC t1 C none:=k1.2.2.2.2.2.2.2.loose;have nY:(idsC (⟨cy,y,s,d⟩::C)).Nodup:=List.nodup_cons.2 ⟨fun h=>by
  rcases List.mem_append.1 h with h|h
  ·exact yn (by simp[h])
  ·exact hyC h,List.nodup_append.2 ⟨ndd,nC,fun a ha z hz=>dd a ha z (by simp[hz])⟩⟩
 have k3:=hang_ctx (f:=⟨cy,y,s,d⟩) hC2 (by rw[len1];exact y1) (by rw[gy];exact y2) (by rw[gy];exact y3) (by
  show kidA t1 (y:Int) (!s)=d.rt;rw[←y5];unfold kidA;rw[Int.toNat_natCast,gy]) (Lay.congr len1 (fun z hz=>keep1 z (hdx z hz) (hdb z hz)) y7) nY
 have keep2:∀z:Nat,z∉idsC C→z≠y→gn (zM t1 (upC C) (yN C) (y:Int)) z=gn t1 z:=fun z h1 h2=>kR hC2 (fun _=>by rw[len1];exact y1) z (fun e=>h1 (zau z e)) (fun e=>h2 (by omega))
 have len2:=zX t1 (upC C) (yN C) (y:Int);have v2:∀z,(gn (zM t1 (upC C) (yN C) (y:Int)) z).v=(gn t1 z).v:=fun z=>hang_v (yN C) (vQ hC2) (fun _=>by rw[len1];exact y1) z
 change LayC (zM t1 (upC C) (yN C) (y:Int)) _ _ at k3;generalize zM t1 (upC C) (yN C) (y:Int)=t2 at k3 keep2 len2 v2⊢;have hmem:∀z∈(nd (!s) cx x b e).ids,z∈b.ids∨z=x∨z∈e.ids:=fun z hz=>by
  rcases List.mem_append.1 ((vF _ _ _ _ _).mem_iff.1 hz)with h|h
  ·exact Or.inl h
  ·rcases List.mem_cons.1 h with h|h
   ·exact Or.inr (Or.inl h)
   ·exact Or.inr (Or.inr h)
 have hnC:∀z∈(nd (!s) cx x b e).ids,z∉idsC C:=fun z hz h=>by
  rcases hmem z hz with h1|h1|h1
  ·exact db z h1 z (by simp[h]) rfl
  ·subst h1;exact hxC h
  ·exact de z h1 z h rfl
 have hny:∀z∈(nd (!s) cx x b e).ids,z≠y:=fun z hz h=>by
  subst h;rcases hmem z hz with h1|h1|h1
  ·exact hyb h1
  ·exact hyx h1
  ·exact yn (by simp[h1])
 have hnd:∀z∈(nd (!s) cx x b e).ids,z∉d.ids:=fun z hz h=>by
  rcases hmem z hz with h1|h1|h1
  ·exact hdb z h h1
  ·exact hdx z h h1
  ·exact dd z h z (by simp[h1]) rfl
 have kx2:=Lay.congr len2 (fun z hz=>keep2 z (hnC z hz) (hny z hz)) kx
 -- the third
 obtain⟨k4,k5⟩:=wQ k3 kx2.loose (fun z hz h=>by
  rcases List.mem_cons.1 h with h|h
  ·exact hny z hz h
  ·rcases List.mem_append.1 h with h|h
   ·exact hnd z hz h
   ·exact hnC z hz h) nY ((vF _ _ _ _ _).nodup_iff.2 (List.nodup_append.2 ⟨nb,List.nodup_cons.2 ⟨fun h=>xn (by simp[h]),ne⟩,fun a ha z hz=>db a ha z (by
    rcases List.mem_cons.1 hz with h|h
    ·simp[h]
    ·simp[h])⟩))
 have len3:=zX t2 (y:Int) s (x:Int);have hy2:0≤(y:Int)→((y:Int)).toNat<t2.ns.length:=fun _=>by rw[len2,len1];exact y1
 have hx2:0≤(x:Int)→((x:Int)).toNat<t2.ns.length:=fun _=>by rw[len2,len1];exact x1
 have v3:∀z,(gn (zM t2 (y:Int) s (x:Int)) z).v=(gn t2 z).v:=fun z=>hang_v s hy2 hx2 z
 have keep3:∀z:Nat,z≠y→z≠x→gn (zM t2 (y:Int) s (x:Int)) z=gn t2 z:=fun z h1 h2=>by
  rw[kS s hy2 hx2,if_neg (fun h=>h2 (by omega)),jK _ _ hy2,if_neg (fun h=>h1 (by omega))]
 have er:(yL ⟨cx,x,!s,e⟩ b).rt=(x:Int):=kU _ _;change LayC (zM t2 (y:Int) s (yL ⟨cx,x,!s,e⟩ b).rt) _ _ at k4;change Lay (zM t2 (y:Int) s (yL ⟨cx,x,!s,e⟩ b).rt) _ _ at k5;rw[er]at k4 k5;generalize zM t2 (y:Int) s (x:Int)=t3 at k4 k5 len3 v3 keep3⊢;refine⟨k4.2.2.2.2.2.2.2,xJ.2 ⟨k4.1,k4.2.1,k4.2.2.1,?_,k4.2.2.2.2.1,k4.2.2.2.2.2.1,k4.2.2.2.2.2.2.1,k5⟩,by rw[len3,len2,len1],fun z=>⟨by rw[v3,v2,v1],fun hz=>?_⟩⟩
 ·show kidA t3 (y:Int) s=(nd (!s) cx x b e).rt;rw[jS];exact k4.2.2.2.1 _ (congrArg some (jS _ _ _ _ _))
 ·simp only[List.mem_append,List.mem_cons,not_or]at hz;rw[keep3 z hz.2.1 hz.2.2.2.1,keep2 z hz.2.2.2.2.2 hz.2.1,keep1 z hz.2.2.2.1 hz.1]
def zG (t:St) (b:Bool) (x:Int):St:=if 0≤x then sn t x.toNat { gn t x.toNat with red:=b }else t
theorem zF (t:St) (b:Bool) (x:Int):(zG t b x).ns.length=t.ns.length:=by
 unfold zG;split
 ·exact xQ _ _ _
 ·rfl
theorem paint_rt (t:St) (b:Bool) (x:Int):(zG t b x).rt=t.rt:=by
 unfold zG;split<;>rfl
theorem zaS {t:St}(b:Bool) {x:Int}(hx:0≤x→x.toNat<t.ns.length) (z:Nat):gn (zG t b x) z=if (z:Int)=x then { gn t z with red:=b }else gn t z:=by
 unfold zG;by_cases h:0≤x;rotate_left
 ·rw[if_neg h,if_neg (by omega)]
 rw[if_pos h,wM _ _ _ _ (hx h)];by_cases e:(z:Int)=x;rotate_left
 ·rw[if_neg e,if_neg (by omega)]
 rw[if_pos e,if_pos (by omega),show x.toNat=z by omega]
theorem kP {t:St}(b:Bool) {x:Int}(hx:0≤x→x.toNat<t.ns.length) (z:Nat) (h:(z:Int)≠x):gn (zG t b x) z=gn t z:=by rw[zaS b hx,if_neg h]
def T.zT (b:Bool):T→T
 | E=>E
 | B _ l x r=>B b l x r
theorem zae (b:Bool) (a:T):(a.zT b).rt=a.rt:=by cases a<;>rfl
theorem xY (b:Bool) (a:T):(a.zT b).ids=a.ids:=by cases a<;>rfl
theorem wU {t:St}(b:Bool) {a:T}{u:Option Int}(ha:Lay t a u) (hn:a.ids.Nodup):Lay (zG t b a.rt) (a.zT b) u:=by
 cases a with
 | E=>trivial
 | B c l x r=>
  have hx:0≤(x:Int)→((x:Int)).toNat<t.ns.length:=fun _=>ha.1
  obtain⟨h1,h2,h3,h4,h5,h6,h7,h8⟩:=ha;have hn2:(l.ids++x::r.ids).Nodup:=hn;obtain⟨n1,n2,n3⟩:=List.nodup_append.1 hn2;have e:gn (zG t b (x:Int)) x={ gn t x with red:=b }:=by rw[zaS b hx,if_pos rfl]
  have k:∀z,z∈l.ids∨z∈r.ids→gn (zG t b (x:Int)) z=gn t z:=fun z hz=>kP b hx z (fun h=>by
   have e2:z=x:=by omega
   subst e2;rcases hz with hz|hz
   ·exact n3 z hz z List.mem_cons_self rfl
   ·exact(List.nodup_cons.1 n2).1 hz)
  show Lay (zG t b (x:Int)) (B b l x r) u;exact⟨by rw[zF];exact h1,by rw[e];exact h2,by rw[e],by rw[e];exact h4,by rw[e];exact h5,fun p hp=>by rw[e];exact h6 p hp,Lay.congr (zF _ _ _) (fun z hz=>k z (Or.inl hz)) h7,Lay.congr (zF _ _ _) (fun z hz=>k z (Or.inr hz)) h8⟩
theorem xE {t:St}(b:Bool) {x:Int}{a:T}{u:Option Int}(hx:0≤x→x.toNat<t.ns.length) (ha:Lay t a u) (h:∀z∈a.ids,(z:Int)≠x):Lay (zG t b x) a u:=
 Lay.congr (zF _ _ _) (fun z hz=>kP b hx z (h z hz)) ha
theorem kF {t:St}(b:Bool) {x:Int}{C:List F}{k:Option Int}(hx:0≤x→x.toNat<t.ns.length) (hC:LayC t C k) (h:∀z∈idsC C,(z:Int)≠x):LayC (zG t b x) C k:=
 LayC.congr (zF _ _ _) (paint_rt _ _ _) (fun z hz=>kP b hx z (h z hz)) hC
theorem jV {t:St}(b:Bool) {f:F}{C:List F}{k:Option Int}(hC:LayC t (f::C) k) (hn:(idsC (f::C)).Nodup):LayC (zG t b f.x) ({ f with c:=b }::C) k:=by
 have hx:0≤(f.x:Int)→((f.x:Int)).toNat<t.ns.length:=fun _=>hC.1
 obtain⟨h1,h2,h3,h4,h5,h6,h7,h8⟩:=hC;have hn1:=(List.nodup_cons.1 hn).1;have e:gn (zG t b (f.x:Int)) f.x={ gn t f.x with red:=b }:=by rw[zaS b hx,if_pos rfl]
 have ek:∀s,kidA (zG t b (f.x:Int)) (f.x:Int) s=kidA t (f.x:Int) s:=fun s=>by unfold kidA;rw[Int.toNat_natCast,e]
 refine⟨by rw[zF];exact h1,by rw[e];exact h2,by rw[e],fun y hy=>by rw[ek];exact h4 y hy,by rw[ek];exact h5,by rw[e];exact h6,?_,?_⟩
 ·refine xE b hx h7 (fun z hz h=>hn1 ?_);have e2:z=f.x:=by omega
  subst e2;exact List.mem_append_left _ hz
 ·refine kF b hx h8 (fun z hz h=>hn1 ?_);have e2:z=f.x:=by omega
  subst e2;exact List.mem_append_right _ hz
def RB:T→Nat→Prop
 | E,n=>n=0
 | B c l _ r,n=>(c=true→l.red=false∧r.red=false)∧∃m,RB l m∧RB r m∧n=if c then m else m+1
def wF:List F→Bool
 | []=>false
 | f::_=>f.c
def CB:List F→Nat→Prop
 | [],_=>True
 | f::C,n=>RB f.o n∧(f.c=true→f.o.red=false∧C≠[]∧wF C=false)∧CB C (if f.c then n else n+1)
theorem qP {f:F}{a:T}{n:Nat}:RB (yL f a) n↔(f.c=true→a.red=false∧f.o.red=false)∧∃m,RB a m∧RB f.o m∧n=if f.c then m else m+1:=by
 unfold yL;cases f.s with
 | false=>exact Iff.rfl
 | true=>
  constructor
  ·intro ⟨h1,m,h2,h3,h4⟩;exact⟨fun c=>⟨(h1 c).2,(h1 c).1⟩,m,h3,h2,h4⟩
  ·intro ⟨h1,m,h2,h3,h4⟩;exact⟨fun c=>⟨(h1 c).2,(h1 c).1⟩,m,h3,h2,h4⟩
theorem jM (f:F) (a:T):(yL f a).red=f.c:=by unfold yL;split<;>rfl
theorem zbL:∀{C:List F}{a:T}{n:Nat},CB C n→RB a n→(wF C=true→a.red=false)→∃m,RB (plug C a) m
 | [],a,n,_,h,_=>⟨n,h⟩
 | f::C,a,n,⟨h1,h2,h3⟩,h,hr=>zbL (C:=C) (a:=yL f a) h3 (qP.2 ⟨fun c=>⟨hr c,(h2 c).1⟩,n,h,h1,rfl⟩) (fun c=>by
  rw[jM];cases hc:f.c with
  | false=>rfl
  | true=>rw[(h2 hc).2.2]at c;cases c)
theorem zbZ:∀{C:List F}{a:T}{m:Nat},RB (plug C a) m→(plug C a).red=false→∃n,CB C n∧RB a n∧(wF C=true→a.red=false)∧(C=[]→a.red=false)
 | [],a,m,h,hr=>⟨m,trivial,h,(fun c=>by cases c),fun _=>hr⟩
 | f::C,a,m,h,hr=>by
  obtain⟨n,h1,h2,h3,h4⟩:=zbZ (C:=C) (a:=yL f a) h hr;obtain⟨k1,k,k2,k3,k4⟩:=qP.1 h2;rw[jM]at h3 h4;refine⟨k,⟨k3,fun c=>⟨(k1 c).2,fun e=>?_,?_⟩,by rw[←k4];exact h1⟩,k2,fun c=>(k1 c).1,fun e=>by cases e⟩
  ·rw[h4 e]at c;cases c
  ·cases ht:wF C with
   | false=>rfl
   | true=>rw[h3 ht]at c;cases c
def jA:List F→List Nat
 | []=>[]
 | f::C=>jA C++if f.s then f.o.ids++[f.x]else []
def xX:List F→List Nat
 | []=>[]
 | f::C=>(if f.s then []else f.x::f.o.ids)++xX C
theorem yT:∀(C:List F) (a:T),(plug C a).ids=jA C++(a.ids++xX C)
 | [],a=>by simp[plug,jA,xX]
 | f::C,a=>by
  show(plug C (yL f a)).ids=_;rw[yT C (yL f a)];show _=(jA C++if f.s then f.o.ids++[f.x]else [])++(a.ids++((if f.s then []else f.x::f.o.ids)++xX C));unfold yL;cases f.s<;>simp[T.ids]
structure xL (t t':St) (S:Nat→Prop):Prop where
 len:t'.ns.length=t.ns.length
 at_:∀z,(gn t' z).v=(gn t z).v∧(¬S z→gn t' z=gn t z)
theorem xL.refl (t:St) (S:Nat→Prop):xL t t S:=⟨rfl,fun z=>⟨rfl,fun _=>rfl⟩⟩
theorem xL.trans {t t' t'':St}{S:Nat→Prop}(h:xL t t' S) (k:xL t' t'' S):xL t t'' S:=
 ⟨k.len.trans h.len,fun z=>⟨(k.at_ z).1.trans (h.at_ z).1,fun hz=>((k.at_ z).2 hz).trans ((h.at_ z).2 hz)⟩⟩
theorem xL.mono {t t':St}{S S':Nat→Prop}(h:xL t t' S) (k:∀z,S z→S' z):xL t t' S':=
 ⟨h.len,fun z=>⟨(h.at_ z).1,fun hz=>(h.at_ z).2 (fun e=>hz (k z e))⟩⟩
theorem y9 {t:St}{S:Nat→Prop}(b:Bool) {x:Int}(hx:0≤x→x.toNat<t.ns.length) (h:∀z:Nat,(z:Int)=x→S z):xL t (zG t b x) S:=by
 refine⟨zF _ _ _,fun z=>⟨?_,fun hz=>kP b hx z (fun e=>hz (h z e))⟩⟩;rw[zaS b hx];split<;>rfl
def redA (t:St) (x:Int):Bool:=decide (0≤x)&&(gn t x.toNat).red
def upA (t:St) (x:Int):Int:=(gn t x.toNat).u
def vO (t:St) (x:Int) (s:Bool) (f:St→Option St):Option St:=if 0≤kidA t x (!s)then f (yM t x s)else none
def xZ:Nat→St→Int→Option St
 | 0,_,_=>none
 | k+1,t,x=>
  if redA t (upA t x)=true then
   (if 0≤upA t (upA t x)then
    (if redA t (kidA t (upA t (upA t x)) (!onA t (upA t x)))=true then
     xZ k (zG (zG (zG t false (upA t x)) false (kidA t (upA t (upA t x)) (!onA t (upA t x)))) true (upA t (upA t x))) (upA t (upA t x))
    else if onA t x=onA t (upA t x)then
     vO (zG (zG t false (upA t x)) true (upA t (upA t x))) (upA t (upA t x)) (!onA t (upA t x)) fun t'=>xZ k t' x
    else if kidA t (upA t x) (!onA t (upA t x))=x then
     vO (zG (zG (yM t (upA t x) (onA t (upA t x))) false x) true (upA t (upA t x))) (upA t (upA t x)) (!onA t (upA t x)) fun t'=>xZ k t' (upA t x)
    else none)
   else none)
  else some (zG t false t.rt)
theorem jP {t:St}{a:T}{u:Option Int}(h:Lay t a u):redA t a.rt=a.red:=by
 cases a with
 | E=>rfl
 | B c l x r=>
  unfold redA;rw[show(B c l x r).rt=(x:Int)from rfl,Int.toNat_natCast,h.2.2.1,decide_eq_true (show 0≤(x:Int)by omega)]
  rfl
theorem red_layC {t:St}{C:List F}{k:Option Int}(h:LayC t C k):redA t (upC C)=wF C:=by
 cases C with
 | nil=>rfl
 | cons f C=>
  unfold redA;rw[show upC (f::C)=(f.x:Int)from rfl,Int.toNat_natCast,h.2.2.1,decide_eq_true (show 0≤(f.x:Int)by omega)]
  rfl
theorem up_lay {t:St}{a:T}{u:Int}(h:Lay t a (some u)) (ha:a≠E):upA t a.rt=u:=by
 cases a with
 | E=>exact absurd rfl ha
 | B c l x r=>exact h.2.2.2.2.2.1 u rfl
theorem RB_paint {a:T}{n:Nat}(h:RB a n):∃m,RB (a.zT false) m:=by
 cases a with
 | E=>exact⟨0,rfl⟩
 | B c l x r=>
  obtain⟨_,m,h1,h2,_⟩:=h;exact⟨m+1,(fun e=>by cases e),m,h1,h2,rfl⟩
theorem wT (a:T):(a.zT false).red=false:=by cases a<;>rfl
structure vS (t t':St) (L:List Nat) (S:Nat→Prop):Prop where
 ex:∃a,Lay t' a (some (-1))∧t'.rt=a.rt∧a.ids=L∧(∃m,RB a m)∧a.red=false
 keeps:xL t t' S
theorem mend_exit {t:St}{C:List F}{a:T}{n:Nat}(hC:LayC t C (some a.rt)) (ha:Lay t a (some (upC C))) (hn:(a.ids++idsC C).Nodup) (he:a≠E) (hr:RB a n) (hc:CB C n) (ht:wF C=false) :
  ∃t',(∀k,0<k→xZ k t a.rt=some t')∧vS t t' (plug C a).ids (fun z=>z∈a.ids++idsC C):=by
 obtain⟨h1,h2⟩:=wP.2 ⟨hC,ha⟩;have hp:=kD C a;have hnp:=hp.nodup_iff.2 hn;obtain⟨m,hm⟩:=zbL hc hr (fun c=>by rw[ht]at c;cases c);refine⟨zG t false t.rt,fun k hk=>?_,⟨(plug C a).zT false,?_,?_,xY _ _,RB_paint hm,wT _⟩,y9 _ (fun h=>?_) (fun z hz=>hp.mem_iff.1 (xW z (by rw[hz,h2])))⟩
 ·obtain⟨k,rfl⟩:∃m,k=m+1:=⟨k-1,by omega⟩;rw[xZ,up_lay ha he,red_layC hC,ht,if_neg (by simp)]
 ·rw[h2];exact wU false h1 hnp
 ·rw[paint_rt,zae,h2]
 ·rw[h2]at h⊢;exact jX h1.loose h
theorem zcK (s c:Bool) (x:Nat) (p q:T):nd s c x p q=nd (!s) c x q p:=by
 unfold nd yL;cases s<;>rfl
theorem mend_in {t:St}{C:List F}{f g:F}{a:T}{n:Nat}(hC:LayC t (f::g::C) (some a.rt)) (ha:Lay t a (some (f.x:Int))) (hn:(a.ids++idsC (f::g::C)).Nodup) (he:a≠E) (hs:f.s=g.s) (hr:RB a n) (hfr:f.o.red=false) (hgr:g.o.red=false) (hfo:RB f.o n) (hgo:RB g.o n) (hc:CB C (n+1)) :
  ∃t',0≤kidA (zG (zG t false (f.x:Int)) true (g.x:Int)) (g.x:Int) (!(!g.s))∧(∀k,0<k→xZ k (yM (zG (zG t false (f.x:Int)) true (g.x:Int)) (g.x:Int) (!g.s)) a.rt=some t')∧vS t t' (plug (f::g::C) a).ids (fun z=>z∈a.ids++idsC (f::g::C)):=by
 obtain⟨na,n1,da⟩:=List.nodup_append.1 hn;have n1':(f.x::(f.o.ids++(g.x::(g.o.ids++idsC C)))).Nodup:=n1;obtain⟨fx,n2⟩:=List.nodup_cons.1 n1';obtain⟨nf,n3,df⟩:=List.nodup_append.1 n2;obtain⟨gx,n4⟩:=List.nodup_cons.1 n3;have hfg:(f.x:Int)≠(g.x:Int):=fun e=>by
  have e2:f.x=g.x:=by omega
  exact fx (by rw[e2];simp)
 have hfl:0≤(f.x:Int)→((f.x:Int)).toNat<t.ns.length:=fun _=>hC.1
 have hgl:0≤(g.x:Int)→((g.x:Int)).toNat<(zG t false (f.x:Int)).ns.length:=fun _=>by rw[zF];exact hC.2.2.2.2.2.2.2.1
 have p1:=jV false hC n1;have q1:=xE false hfl ha (fun z hz h=>da z hz f.x (by simp[idsC]) (by omega));have k1:xL t (zG t false (f.x:Int)) (fun z=>z∈a.ids++idsC (f::g::C)):=y9 _ hfl (fun z hz=>by
  have e2:z=f.x:=by omega
  subst e2;simp[idsC])
 have k2:xL (zG t false (f.x:Int)) (zG (zG t false (f.x:Int)) true (g.x:Int)) (fun z=>z∈a.ids++idsC (f::g::C)):=y9 _ hgl (fun z hz=>by
  have e2:z=g.x:=by omega
  subst e2;simp[idsC])
 have k12:=k1.trans k2;generalize zG t false (f.x:Int)=t1 at p1 q1 hgl k1 k2 k12⊢;have b1:Lay t1 (yL { f with c:=false } a) (some (g.x:Int)):=xJ.2 ⟨p1.1,p1.2.1,p1.2.2.1,p1.2.2.2.1 _ rfl,p1.2.2.2.2.1,p1.2.2.2.2.2.1,p1.2.2.2.2.2.2.1,q1⟩;have c1:LayC t1 (g::C) (some (f.x:Int)):=p1.2.2.2.2.2.2.2;have hbm:∀z∈(yL { f with c:=false } a).ids,z∈a.ids∨z=f.x∨z∈f.o.ids:=fun z hz=>by
  rcases List.mem_append.1 ((vU _ _).mem_iff.1 hz)with h|h
  ·exact Or.inl h
  ·rcases List.mem_cons.1 h with h|h
   ·exact Or.inr (Or.inl h)
   ·exact Or.inr (Or.inr h)
 have p2:=jV true c1 n3;have q2:=xE true hgl b1 (fun z hz h=>by
  have e2:z=g.x:=by omega
  subst e2;rcases hbm _ hz with h|h|h
  ·exact da _ h g.x (by simp[idsC]) rfl
  ·exact hfg (by omega)
  ·exact df _ h g.x (by simp) rfl)
 generalize zG t1 true (g.x:Int)=t2 at p2 q2 k2 k12⊢;have b2:Lay t2 (nd (!(!g.s)) true g.x (nd (!g.s) false f.x f.o a) g.o) (some (upC C)):=by
  rw[Bool.not_not,zcK (!g.s),Bool.not_not,←hs];rw[←hs]at p2;exact xJ.2 ⟨p2.1,p2.2.1,p2.2.2.1,by rw[jS];exact p2.2.2.2.1 _ rfl,p2.2.2.2.2.1,p2.2.2.2.2.2.1,p2.2.2.2.2.2.2.1,q2⟩
 have c2:LayC t2 C (some (g.x:Int)):=p2.2.2.2.2.2.2.2;have hkg:0≤kidA t2 (g.x:Int) (!(!g.s)):=by
  have h:=(xJ.1 b2).2.2.2.1;simp only at h;rw[h,jS];omega
 have hN:(f.o.ids++(f.x::(a.ids++(g.x::(g.o.ids++idsC C))))).Nodup:=by
  refine(List.Perm.nodup_iff ?_).1 hn;show(a.ids++(f.x::(f.o.ids++(g.x::(g.o.ids++idsC C))))).Perm _;refine List.perm_middle.trans ?_;refine(List.Perm.trans ?_ List.perm_middle.symm);refine List.Perm.cons _ ?_;rw[←List.append_assoc,←List.append_assoc];exact List.perm_append_comm.append_right _
 obtain⟨r1,r2,r3,r4⟩:=zaR c2 b2 hN;have k3:xL t2 (yM t2 (g.x:Int) (!g.s)) (fun z=>z∈a.ids++idsC (f::g::C)):=⟨r3,fun z=>⟨(r4 z).1,fun hz=>(r4 z).2 (fun h=>hz (by
  simp only[List.mem_append,List.mem_cons,idsC]at h⊢;rcases h with h|h|h|h|h|h<;>simp[h]))⟩⟩
 have k123:=k12.trans k3;generalize yM t2 (g.x:Int) (!g.s)=t3 at r1 r2 k123⊢;rw[Bool.not_not,zcK (!g.s),Bool.not_not]at r2;obtain⟨s1,s2,s3,s4,s5,s6,s7,s8⟩:=xJ.1 r2;have hC3:LayC t3 (⟨false,f.x,g.s,nd g.s true g.x f.o g.o⟩::C) (some a.rt):=⟨s1,s2,s3,(fun y hy=>by rw[←Option.some.inj hy];exact s4),s5,s6,s7,r1⟩;have hp:(a.ids++idsC (⟨false,f.x,g.s,nd g.s true g.x f.o g.o⟩::C)).Perm (a.ids++idsC (f::g::C)):=by
  refine List.Perm.append_left _ (List.Perm.cons _ ?_);show((nd g.s true g.x f.o g.o).ids++idsC C).Perm (f.o.ids++(g.x::(g.o.ids++idsC C)));refine((vF _ _ _ _ _).append_right _).trans ?_;rw[List.append_assoc];exact List.Perm.refl _
 obtain⟨t',m1,m2⟩:=mend_exit hC3 s8 (hp.nodup_iff.2 hn) he hr ⟨qP.2 ⟨fun _=>⟨hfr,hgr⟩,n,hfo,hgo,rfl⟩,(fun c=>by cases c),hc⟩ rfl;refine⟨t',hkg,m1,⟨?_,k123.trans (m2.keeps.mono (fun z hz=>hp.mem_iff.1 hz))⟩⟩;obtain⟨A,e1,e2,e3,e4⟩:=m2.ex;refine⟨A,e1,e2,?_,e4⟩;rw[e3,yT,yT];unfold nd yL;simp only[jA,xX,hs];cases g.s<;>simp[T.ids]
theorem RB_black {a:T}{n:Nat}(h:RB a n) (hr:a.red=true):RB (a.zT false) (n+1):=by
 cases a with
 | E=>cases hr
 | B c l x r=>
  obtain⟨_,m,h1,h2,h3⟩:=h;have hc:c=true:=hr;rw[if_pos hc]at h3;subst h3;exact⟨(fun e=>by cases e),n,h1,h2,rfl⟩
theorem zaF {t:St}(b:Bool) {g:F}{C:List F}{k:Option Int}(hC:LayC t (g::C) k) (hn:(idsC (g::C)).Nodup):LayC (zG t b g.o.rt) ({ g with o:=g.o.zT b }::C) k:=by
 obtain⟨h1,h2,h3,h4,h5,h6,h7,h8⟩:=hC;have hn1:=List.nodup_cons.1 hn;obtain⟨n1,n2,n3⟩:=List.nodup_append.1 hn1.2;have hl:=jX h7.loose;have hg:gn (zG t b g.o.rt) g.x=gn t g.x:=kP b hl g.x (fun e=>hn1.1 (List.mem_append_left _ (xW _ e)));have ek:∀s,kidA (zG t b g.o.rt) (g.x:Int) s=kidA t (g.x:Int) s:=fun s=>by unfold kidA;rw[Int.toNat_natCast,hg]
 refine⟨by rw[zF];exact h1,by rw[hg];exact h2,by rw[hg];exact h3,fun y hy=>by rw[ek];exact h4 y hy,by rw[ek,h5];exact(zae _ _).symm,by rw[hg];exact h6,wU b h7 n1,?_⟩;exact kF b hl h8 (fun z hz e=>n3 z (xW z e) z hz rfl)
theorem as_nd (s:Bool) {a:T}(h:a.red=true):∃x p q,a=nd s true x p q:=by
 cases a with
 | E=>cases h
 | B c l x r=>
  obtain rfl:c=true:=h;cases s with
  | false=>exact⟨x,l,r,rfl⟩
  | true=>exact⟨x,r,l,rfl⟩
theorem mend_lay:∀(N:Nat) {t:St}{C:List F}{a:T}{n:Nat},C.length≤N→LayC t C (some a.rt)→Lay t a (some (upC C))→(a.ids++idsC C).Nodup→a.red=true→RB a n→CB C n→
  ∃t',(∀k,N<k→xZ k t a.rt=some t')∧vS t t' (plug C a).ids (fun z=>z∈a.ids++idsC C):=by
 intro N
 induction N using Nat.strongRecOn with
 | ind N ih=>
  intro t C a n hlen hC ha hn hred hr hc;have he:a≠E:=fun e=>by rw[e]at hred;cases hred
  cases ht:wF C with
  | false=>
   obtain⟨t',h1,h2⟩:=mend_exit hC ha hn he hr hc ht;exact⟨t',fun k hk=>h1 k (by omega),h2⟩
  | true=>
   match C,hlen,hC,ha,hn,hc,ht with
   | f::C',hlen,hC,ha,hn,hc,ht=>
    have hfc:f.c=true:=ht;obtain⟨hfo,hf2,hc2⟩:=hc;obtain⟨hfr,hne,htp⟩:=hf2 hfc;rw[if_pos hfc]at hc2
    match C',hlen,hC,ha,hn,hc2,hne,htp with
    | g::C2,hlen,hC,ha,hn,hc2,hne,htp=>
     have hgc:g.c=false:=htp;obtain⟨hgo,_,hc3⟩:=hc2;rw[if_neg (by rw[hgc];simp)]at hc3;obtain⟨na,n1,da⟩:=List.nodup_append.1 hn;have n1':(f.x::(f.o.ids++(g.x::(g.o.ids++idsC C2)))).Nodup:=n1;obtain⟨fx,n2⟩:=List.nodup_cons.1 n1';obtain⟨nf,n3,df⟩:=List.nodup_append.1 n2;obtain⟨gx,n4⟩:=List.nodup_cons.1 n3;obtain⟨ng,nC,dg⟩:=List.nodup_append.1 n4;have u1:upA t a.rt=(f.x:Int):=up_lay ha he;have u2:upA t (f.x:Int)=(g.x:Int):=hC.2.2.2.2.2.1;have hC':LayC t (g::C2) (some (f.x:Int)):=hC.2.2.2.2.2.2.2;have o2:onA t (f.x:Int)=g.s:=zbF hC' hC.2.2.2.2.2.1 (fun h=>fx (List.mem_append_right _ h));have o1:onA t a.rt=f.s:=by
      rcases zbO a with⟨_,e⟩|⟨c,l,x,r,e,e2⟩
      ·exact absurd e he
      ·rw[e2]at hC⊢;have hu:(gn t x).u=upC (f::g::C2):=by
        rw[e]at ha;exact ha.2.2.2.2.2.1 _ rfl
       exact zbF hC hu (fun h=>da x (by rw[e];simp[T.ids]) x h rfl)
     have kg:kidA t (g.x:Int) (!g.s)=g.o.rt:=hC'.2.2.2.2.1;have rg:redA t g.o.rt=g.o.red:=jP hC'.2.2.2.2.2.2.1;have rf:redA t (f.x:Int)=true:=by
      have:=red_layC hC;rw[show wF (f::g::C2)=true from hfc]at this;exact this
     have hunf:∀k,xZ (k+1) t a.rt=if g.o.red=true then xZ k (zG (zG (zG t false (f.x:Int)) false g.o.rt) true (g.x:Int)) (g.x:Int)
       else if f.s=g.s then vO (zG (zG t false (f.x:Int)) true (g.x:Int)) (g.x:Int) (!g.s) fun t'=>xZ k t' a.rt
       else if kidA t (f.x:Int) (!g.s)=a.rt then vO (zG (zG (yM t (f.x:Int) g.s) false a.rt) true (g.x:Int)) (g.x:Int) (!g.s) fun t'=>xZ k t' (f.x:Int)
       else none:=fun k=>by
      rw[xZ,u1,rf,if_pos rfl,u2,if_pos (by omega),o2,kg,rg,o1]
     have hfl:0≤(f.x:Int)→((f.x:Int)).toNat<t.ns.length:=fun _=>hC.1
     cases hgr:g.o.red with
     | true=>
      have p1:=jV false hC n1;have q1:=xE false hfl ha (fun z hz h=>da z hz f.x (by simp[idsC]) (by omega));have k1:xL t (zG t false (f.x:Int)) (fun z=>z∈a.ids++idsC (f::g::C2)):=y9 _ hfl (fun z hz=>by
       have e2:z=f.x:=by omega
       subst e2;simp[idsC])
      have hunf1:=fun k=>(hunf k).trans (if_pos hgr)
      generalize zG t false (f.x:Int)=t1 at p1 q1 k1 hunf1;have b1:Lay t1 (yL { f with c:=false } a) (some (g.x:Int)):=xJ.2 ⟨p1.1,p1.2.1,p1.2.2.1,p1.2.2.2.1 _ rfl,p1.2.2.2.2.1,p1.2.2.2.2.2.1,p1.2.2.2.2.2.2.1,q1⟩;have c1:LayC t1 (g::C2) (some (f.x:Int)):=p1.2.2.2.2.2.2.2;have hbm:∀z∈(yL { f with c:=false } a).ids,z∈a.ids∨z=f.x∨z∈f.o.ids:=fun z hz=>by
       rcases List.mem_append.1 ((vU _ _).mem_iff.1 hz)with h|h
       ·exact Or.inl h
       ·rcases List.mem_cons.1 h with h|h
        ·exact Or.inr (Or.inl h)
        ·exact Or.inr (Or.inr h)
      have hbg:∀z∈(yL { f with c:=false } a).ids,z∉g.x::g.o.ids:=fun z hz hm=>by
       have hm2:z∈g.x::(g.o.ids++idsC C2):=by
        rcases List.mem_cons.1 hm with h|h<;>simp[h]
       rcases hbm z hz with h|h|h
       ·exact da z h z (List.mem_cons_of_mem _ (List.mem_append_right _ hm2)) rfl
       ·subst h;exact fx (List.mem_append_right _ hm2)
       ·exact df z h z hm2 rfl
      have hol:=jX (Lay.loose c1.2.2.2.2.2.2.1);have p2:=zaF false c1 n3;have q2:=xE false hol b1 (fun z hz h=>hbg z hz (List.mem_cons_of_mem _ (xW z h)));have k2:xL t1 (zG t1 false g.o.rt) (fun z=>z∈a.ids++idsC (f::g::C2)):=y9 _ hol (fun z hz=>by
       have:=xW z hz;simp[idsC,this])
      generalize zG t1 false g.o.rt=t2 at p2 q2 k2 hunf1;have hgl:0≤(g.x:Int)→((g.x:Int)).toNat<t2.ns.length:=fun _=>p2.1
      have n3':(idsC ({ g with o:=g.o.zT false }::C2)).Nodup:=by
       show(g.x::((g.o.zT false).ids++idsC C2)).Nodup;rw[xY];exact n3
      have p3:=jV true p2 n3';have q3:=xE true hgl q2 (fun z hz h=>by
       have e2:z=g.x:=by omega
       subst e2;exact hbg _ hz List.mem_cons_self)
      have k3:xL t2 (zG t2 true (g.x:Int)) (fun z=>z∈a.ids++idsC (f::g::C2)):=y9 _ hgl (fun z hz=>by
       have e2:z=g.x:=by omega
       subst e2;simp[idsC])
      change LayC (zG t2 true (g.x:Int)) _ _ at p3;generalize zG t2 true (g.x:Int)=t3 at p3 q3 k3 hunf1;have hL:Lay t3 (yL ⟨true,g.x,g.s,g.o.zT false⟩ (yL { f with c:=false } a)) (some (upC C2)):=xJ.2 ⟨p3.1,p3.2.1,p3.2.2.1,by rw[kU];exact p3.2.2.2.1 _ rfl,p3.2.2.2.2.1,p3.2.2.2.2.2.1,p3.2.2.2.2.2.2.1,q3⟩;have hL2:LayC t3 C2 (some (yL ⟨true,g.x,g.s,g.o.zT false⟩ (yL { f with c:=false } a)).rt):=by
       rw[kU];exact p3.2.2.2.2.2.2.2
      have hp:((yL ⟨true,g.x,g.s,g.o.zT false⟩ (yL { f with c:=false } a)).ids++idsC C2).Perm (a.ids++idsC (f::g::C2)):=by
       refine((vU _ _).append_right _).trans ?_;show(((yL { f with c:=false } a).ids++g.x::(g.o.zT false).ids)++idsC C2).Perm _;rw[xY];refine(((vU _ _).append_right _).append_right _).trans ?_;show(((a.ids++f.x::f.o.ids)++g.x::g.o.ids)++idsC C2).Perm (a.ids++(f.x::(f.o.ids++(g.x::(g.o.ids++idsC C2)))));simp
      obtain⟨t',m1,m2⟩:=ih (N-1) (by simp at hlen;omega) (C:=C2) (n:=n+1) (by simp at hlen;omega) hL2 hL (hp.nodup_iff.2 hn) (by rw[jM]) (qP.2 ⟨fun _=>⟨by rw[jM],wT _⟩,n+1,qP.2 ⟨(fun c=>by cases c),n,hr,hfo,rfl⟩,RB_black hgo hgr,rfl⟩) hc3;refine⟨t',fun k hk=>?_,⟨?_,((k1.trans k2).trans k3).trans (m2.keeps.mono (fun z hz=>hp.mem_iff.1 hz))⟩⟩
      ·obtain⟨k,rfl⟩:∃m,k=m+1:=⟨k-1,by omega⟩;rw[hunf1];have:=m1 k (by simp at hlen;omega)
       rwa [kU]at this
      ·obtain⟨A,e1,e2,e3,e4⟩:=m2.ex;refine⟨A,e1,e2,?_,e4⟩;rw[e3,yT,yT];unfold yL;simp only[jA,xX];cases g.s<;>cases f.s<;>simp[T.ids,xY]
     | false=>
      by_cases hs:f.s=g.s
      ·obtain⟨t',m0,m1,m2⟩:=mend_in hC ha hn he hs hr hfr hgr hfo hgo hc3;refine⟨t',fun k hk=>?_,m2⟩;obtain⟨k,rfl⟩:∃m,k=m+1:=⟨k-1,by omega⟩;rw[hunf,if_neg (by rw[hgr];simp),if_pos hs,vO,if_pos m0];exact m1 k (by simp at hlen;omega)
      have hs2:f.s=!g.s:=by
       cases h1:f.s<;>cases h2:g.s<;>simp_all
      obtain⟨x,p,q,rfl⟩:=as_nd g.s hred;obtain⟨r1,m,r2,r3,r4⟩:=qP.1 hr;obtain⟨pr,qr⟩:=r1 rfl;rw[if_pos rfl]at r4;subst r4;have hLf:Lay t (nd (!g.s) true f.x (nd g.s true x p q) f.o) (some (upC (g::C2))):=xJ.2 ⟨hC.1,hC.2.1,by rw[hC.2.2.1];exact hfc,by show kidA t (f.x:Int) (!g.s)=_;rw[←hs2];exact hC.2.2.2.1 _ rfl,by show kidA t (f.x:Int) (!(!g.s))=_;rw[←hs2];exact hC.2.2.2.2.1,hC.2.2.2.2.2.1,hC.2.2.2.2.2.2.1,ha⟩;have hpn:(nd g.s true x p q).ids.Perm (p.ids++x::q.ids):=vF _ _ _ _ _;have hN:(p.ids++(x::(q.ids++(f.x::(f.o.ids++idsC (g::C2)))))).Nodup:=by
       have h1:=(hpn.append_right (idsC (f::g::C2))).nodup_iff.1 hn;rw[List.append_assoc]at h1;exact h1
      obtain⟨v1,v2,v3,v4⟩:=zaR hC' hLf hN;have kk:xL t (yM t (f.x:Int) g.s) (fun z=>z∈(nd g.s true x p q).ids++idsC (f::g::C2)):=⟨v3,fun z=>⟨(v4 z).1,fun hz=>(v4 z).2 (fun h=>hz (by
       have h2:z∈(p.ids++x::q.ids)++idsC (f::g::C2):=by
        rw[List.append_assoc];exact h
       rcases List.mem_append.1 h2 with h3|h3
       ·exact List.mem_append_left _ (hpn.mem_iff.2 h3)
       ·exact List.mem_append_right _ h3))⟩⟩
      have hkx:kidA t (f.x:Int) (!g.s)=(nd g.s true x p q).rt:=by rw[←hs2];exact hC.2.2.2.1 _ rfl
      have hunf2:∀k,xZ (k+1) t (nd g.s true x p q).rt=vO (zG (zG (yM t (f.x:Int) g.s) false (x:Int)) true (g.x:Int)) (g.x:Int) (!g.s) fun t'=>xZ k t' (f.x:Int):=fun k=>by
       rw[hunf,if_neg (by rw[hgr];simp),if_neg hs,if_pos hkx,jS]
      generalize yM t (f.x:Int) g.s=t1 at v1 v2 kk hunf2;obtain⟨w1,w2,w3,w4,w5,w6,w7,w8⟩:=xJ.1 v2;have hC4:LayC t1 (⟨true,x,g.s,q⟩::g::C2) (some (nd (!g.s) true f.x p f.o).rt):=⟨w1,w2,w3,(fun y hy=>by rw[←Option.some.inj hy];exact w4),w5,w6,w7,v1⟩;have hp4:((nd (!g.s) true f.x p f.o).ids++idsC (⟨true,x,g.s,q⟩::g::C2)).Perm ((nd g.s true x p q).ids++idsC (f::g::C2)):=by
       refine((vF _ _ _ _ _).append_right _).trans (List.Perm.trans ?_ (hpn.append_right _).symm);show((p.ids++f.x::f.o.ids)++(x::(q.ids++idsC (g::C2)))).Perm ((p.ids++x::q.ids)++(f.x::(f.o.ids++idsC (g::C2))));rw[List.append_assoc,List.append_assoc];refine List.Perm.append_left _ ?_;show((f.x::f.o.ids)++((x::q.ids)++idsC (g::C2))).Perm ((x::q.ids)++((f.x::f.o.ids)++idsC (g::C2)));rw[←List.append_assoc,←List.append_assoc];exact List.perm_append_comm.append_right _
      obtain⟨t',m0,m1,m2⟩:=mend_in (f:=⟨true,x,g.s,q⟩) (a:=nd (!g.s) true f.x p f.o) hC4 w8 (hp4.nodup_iff.2 hn) (fun e=>by have h1:=jS (!g.s) true f.x p f.o;rw[e]at h1;exact absurd h1 (by show ¬(-1:Int)=(f.x:Int);omega)) rfl (qP.2 ⟨fun _=>⟨pr,hfr⟩,n,r2,hfo,rfl⟩) qr hgr r3 hgo hc3;refine⟨t',fun k hk=>?_,⟨?_,kk.trans (m2.keeps.mono (fun z hz=>hp4.mem_iff.1 hz))⟩⟩
      ·obtain⟨k,rfl⟩:∃m,k=m+1:=⟨k-1,by omega⟩;rw[hunf2,vO,if_pos m0];have h1:=m1 k (by simp at hlen;omega)
       rwa [jS]at h1
      ·obtain⟨A,e1,e2,e3,e4⟩:=m2.ex;refine⟨A,e1,e2,?_,e4⟩;rw[e3,yT,yT];unfold nd yL;simp only[jA,xX,hs2];cases g.s<;>simp[T.ids]
def down (lt:Nat→Bool):T→List F→List F
 | E,C=>C
 | B c l x r,C=>if lt x then down lt l (⟨c,x,false,r⟩::C)else down lt r (⟨c,x,true,l⟩::C)
theorem zaj (lt:Nat→Bool):∀(a:T) (C:List F),plug (down lt a C) E=plug C a
 | E,C=>rfl
 | B c l x r,C=>by
  unfold down;split
  ·rw[zaj lt l];rfl
  ·rw[zaj lt r];rfl
theorem zbr (lt:Nat→Bool):∀(a:T) (C:List F),a.ids.Pairwise (fun x y=>lt x=true→lt y=true)→(∀x∈jA C,lt x=false)→(∀x∈xX C,lt x=true)→
  (∀x∈jA (down lt a C),lt x=false)∧(∀x∈xX (down lt a C),lt x=true)
 | E,C,_,h1,h2=>⟨h1,h2⟩
 | B c l x r,C,hp,h1,h2=>by
  have hp2:(l.ids++x::r.ids).Pairwise (fun x y=>lt x=true→lt y=true):=hp;obtain⟨p1,p2,p3⟩:=List.pairwise_append.1 hp2;obtain⟨p4,p5⟩:=List.pairwise_cons.1 p2;unfold down;by_cases hx:lt x=true
  ·rw[if_pos hx];refine zbr lt l _ p1 (fun z hz=>?_) (fun z hz=>?_)
   ·have hz2:z∈jA C++[]:=hz;rw[List.append_nil]at hz2;exact h1 z hz2
   ·have hz2:z∈(x::r.ids)++xX C:=hz;rcases List.mem_append.1 hz2 with h|h
    ·rcases List.mem_cons.1 h with rfl|h
     ·exact hx
     ·exact p4 z h hx
    ·exact h2 z h
  ·rw[if_neg hx];have hx2:lt x=false:=by simpa using hx
   refine zbr lt r _ p5 (fun z hz=>?_) (fun z hz=>?_)
   ·have hz2:z∈jA C++(l.ids++[x]):=hz;rcases List.mem_append.1 hz2 with h|h
    ·exact h1 z h
    ·rcases List.mem_append.1 h with h|h
     ·cases hl:lt z with
      | false=>rfl
      | true=>exact absurd (p3 z h x List.mem_cons_self hl) hx
     ·rw[List.mem_singleton.1 h];exact hx2
   ·have hz2:z∈[]++xX C:=hz;rw[List.nil_append]at hz2;exact h2 z hz2
def kW:Nat→St→(Nat→Bool)→Int→Int→Bool→Option (Int × Bool)
 | 0,_,_,_,_,_=>none
 | k+1,t,lt,x,up,s=>if 0≤x then kW k t lt (kidA t x (!lt x.toNat)) x (!lt x.toNat)else some (up,s)
def T.size:T→Nat
 | E=>0
 | B _ l _ r=>l.size+r.size+1
theorem down_lay {t:St}(lt:Nat→Bool):∀(a:T) (C:List F) (k:Nat),a.size<k→LayC t C (some a.rt)→Lay t a (some (upC C))→
  kW k t lt a.rt (upC C) (yN C)=some (upC (down lt a C),yN (down lt a C))∧LayC t (down lt a C) (some (-1))
 | E,C,0,hk,_,_=>absurd hk (by omega)
 | B c l x r,C,0,hk,_,_=>absurd hk (by omega)
 | E,C,k+1,hk,hC,ha=>⟨by rw[kW,if_neg (by show ¬(0:Int)≤-1;omega)];rfl,hC⟩
 | B c l x r,C,k+1,hk,hC,ha=>by
  obtain⟨h1,h2,h3,h4,h5,h6,h7,h8⟩:=ha;have hk2:l.size+r.size+1<k+1:=hk;rw[kW,if_pos (by show(0:Int)≤(x:Int);omega),show(B c l x r).rt=(x:Int)from rfl,Int.toNat_natCast,down];by_cases hx:lt x=true
  ·rw[if_pos hx,hx];have e:kidA t (x:Int) (!true)=l.rt:=by
    rw[←h4];unfold kidA;rw[Int.toNat_natCast];rfl
   rw[e];exact down_lay lt l (⟨c,x,false,r⟩::C) k (by omega) ⟨h1,h2,h3,(fun y hy=>by rw[←Option.some.inj hy,←h4];unfold kidA;rw[Int.toNat_natCast];rfl),by show kidA t (x:Int) (!false)=r.rt;rw[←h5];unfold kidA;rw[Int.toNat_natCast];rfl,h6 _ rfl,h8,hC⟩ h7
  ·have hx2:lt x=false:=by simpa using hx
   rw[if_neg hx,hx2];have e:kidA t (x:Int) (!false)=r.rt:=by
    rw[←h5];unfold kidA;rw[Int.toNat_natCast];rfl
   rw[e];exact down_lay lt r (⟨c,x,true,l⟩::C) k (by omega) ⟨h1,h2,h3,(fun y hy=>by rw[←Option.some.inj hy,←h5];unfold kidA;rw[Int.toNat_natCast];rfl),by show kidA t (x:Int) (!true)=l.rt;rw[←h4];unfold kidA;rw[Int.toNat_natCast];rfl,h6 _ rfl,h7,hC⟩ h8
theorem zbU:∀C:List F,C.length≤(idsC C).length
 | []=>Nat.le_refl _
 | f::C=>by
  have:=zbU C;simp only[idsC,List.length_cons,List.length_append];omega
theorem xC:∀{n:Nat}{l:List Nat},l.Nodup→(∀x∈l,x<n)→l.length≤n
 | 0,l,_,h=>by
  cases l with
  | nil=>exact Nat.le_refl _
  | cons x l=>exact absurd (h x List.mem_cons_self) (by omega)
 | n+1,l,hn,h=>by
  by_cases hm:n∈l
  ·have h1:=List.length_erase_of_mem hm;have h2:=xC (n:=n) (hn.erase n) (fun x hx=>by
    have h3:=(List.Nodup.mem_erase_iff hn).1 hx;have h4:=h x h3.2;have h5:=h3.1;omega)
   have h6:0<l.length:=List.length_pos_of_mem hm;omega
  ·have h2:=xC (n:=n) hn (fun x hx=>by
    have h4:=h x hx;by_cases e:x=n
    ·rw[e]at hx;exact absurd hx hm
    ·omega)
   omega
theorem put_lay {t:St}{a:T}{m id:Nat}{v:Int}(lt:Nat→Bool) (hL:Lay t a (some (-1))) (hr:t.rt=a.rt) (hn:a.ids.Nodup) (hm:RB a m) (hb:a.red=false) (hid:id<t.ns.length) (hni:id∉a.ids) (hlt:a.ids.Pairwise (fun x y=>lt x=true→lt y=true)) :
  ∃t' lf rg,a.ids=lf++rg∧(∀x∈lf,lt x=false)∧(∀x∈rg,lt x=true)∧
   (∀k,a.size<k→kW k t lt t.rt (-1) false=some (upC (down lt a []),yN (down lt a [])))∧
   (∀k,t.ns.length<k→xZ k (zM (sn t id ⟨true,true,v,-1,-1,-1⟩) (upC (down lt a [])) (yN (down lt a [])) id) id=some t')∧
   vS (zM (sn t id ⟨true,true,v,-1,-1,-1⟩) (upC (down lt a [])) (yN (down lt a [])) id) t' (lf++id::rg) (fun z=>z∈id::a.ids):=by
 have hC0:LayC t [] (some a.rt):=fun y hy=>by rw[←Option.some.inj hy];exact hr
 have hd:=down_lay (t:=t) lt a [];obtain⟨d1,d2⟩:=zbr lt a [] hlt (fun x hx=>by cases hx) (fun x hx=>by cases hx);have hp:=zaj lt a [];change plug (down lt a []) E=a at hp;have hCd:=(hd (a.size+1) (by omega) hC0 hL).2;obtain⟨n,c1,c2,_,_⟩:=zbZ (C:=down lt a []) (a:=E) (by rw[hp];exact hm) (by rw[hp];exact hb);have hn0:n=0:=c2;subst hn0;have hw:=yT (down lt a []) E;rw[hp]at hw;change a.ids=jA (down lt a [])++xX (down lt a [])at hw;have hpi:=kD (down lt a []) E;rw[hp]at hpi;change a.ids.Perm (idsC (down lt a []))at hpi;have hnC:=hpi.nodup_iff.1 hn;have hdn:=fun k hk=>(hd k hk hC0 hL).1
 generalize down lt a []=C at *
 have hlen:(sn t id ⟨true,true,v,-1,-1,-1⟩).ns.length=t.ns.length:=xQ _ _ _;have hidC:id∉idsC C:=fun h=>hni (hpi.mem_iff.2 h)
 have hg:∀z,gn (sn t id ⟨true,true,v,-1,-1,-1⟩) z=if z=id then ⟨true,true,v,-1,-1,-1⟩else gn t z:=fun z=>wM _ _ _ _ hid
 have hC1:LayC (sn t id ⟨true,true,v,-1,-1,-1⟩) C none:=(LayC.congr hlen rfl (fun z hz=>by rw[hg,if_neg (fun e=>hidC (by rw[←e];exact hz))]) hCd).loose;have hA1:Lay (sn t id ⟨true,true,v,-1,-1,-1⟩) (B true E id E) none:=by
  refine⟨by rw[hlen];exact hid,?_,?_,?_,?_,(fun p h=>by cases h),trivial,trivial⟩<;>rw[hg,if_pos rfl]<;>rfl
 generalize sn t id ⟨true,true,v,-1,-1,-1⟩=t1 at hC1 hA1 hlen⊢;obtain⟨e1,e2⟩:=wQ hC1 hA1 (fun x hx=>by
  have:x=id:=by simpa [T.ids]using hx
  subst this;exact hidC) hnC (by simp[T.ids])
 have hlen2:=zX t1 (upC C) (yN C) (id:Int);change LayC (zM t1 (upC C) (yN C) (id:Int)) _ _ at e1;change Lay (zM t1 (upC C) (yN C) (id:Int)) _ _ at e2;generalize zM t1 (upC C) (yN C) (id:Int)=t2 at e1 e2 hlen2⊢;have hNN:((B true E id E).ids++idsC C).Nodup:=List.nodup_cons.2 ⟨hidC,hnC⟩;have hCl:C.length≤t.ns.length:=Nat.le_trans (zbU C) (xC hnC (fun x hx=>hCd.lt x hx));obtain⟨t',m1,m2⟩:=mend_lay t.ns.length (a:=B true E id E) (n:=0) hCl e1 e2 hNN rfl ⟨fun _=>⟨rfl,rfl⟩,0,rfl,rfl,rfl⟩ c1;have hw2:=yT C (B true E id E);refine⟨t',jA C,xX C,hw,d1,d2,fun k hk=>?_,m1,⟨?_,m2.keeps.mono (fun z hz=>?_)⟩⟩
 ·rw[hr];exact hdn k hk
 ·obtain⟨A,g1,g2,g3,g4⟩:=m2.ex;exact⟨A,g1,g2,by rw[g3,hw2];rfl,g4⟩
 ·rcases List.mem_cons.1 hz with h|h
  ·rw[h];exact List.mem_cons_self
  ·exact List.mem_cons_of_mem _ (hpi.mem_iff.2 h)
def xN (t:St) (p:Int) (s:Bool) (b far:Int):Option St:=
 if kidA t p (!s)=b∧kidA t b (!s)=far then some (yM (zG (zG (zG t (redA t p) b) false p) false far) p s)else none
def xR (again:St→Int→Bool→Option St) (t:St) (p:Int) (s:Bool) (b:Int):Option St:=
 if b<0 then none
 else if redA t (kidA t b s)=false∧redA t (kidA t b (!s))=false then again (zG t true b) (upA (zG t true b) p) (onA (zG t true b) p)
 else if redA t (kidA t b (!s))=false then xN (yM (zG (zG t false (kidA t b s)) true b) b (!s)) p s (kidA t b s) b
 else xN t p s b (kidA t b (!s))
def qC:Nat→St→Int→Bool→Option St
 | 0,_,_,_=>none
 | k+1,t,p,s=>
  if 0≤p then
   (if redA t (kidA t p s)=true then some (zG t false (kidA t p s))
   else if redA t (kidA t p (!s))=true then
    xR (qC k) (yM (zG (zG t false (kidA t p (!s))) true p) p s) p s (kidA (yM (zG (zG t false (kidA t p (!s))) true p) p s) p (!s))
   else xR (qC k) t p s (kidA t p (!s)))
  else some (zG t false t.rt)
theorem zcT:∀{C:List F}{a:T}{n:Nat},CB C n→C≠[]→(plug C a).red=false
 | [],_,_,_,h=>absurd rfl h
 | [f],a,n,⟨_,h,_⟩,_=>by
  show(yL f a).red=false;rw[jM];cases hc:f.c with
  | false=>rfl
  | true=>exact absurd rfl (h hc).2.1
 | f::g::C,a,n,⟨_,_,h⟩,_=>zcT (C:=g::C) (a:=yL f a) h (by simp)
theorem zai {t:St}{C:List F}{a:T}{n:Nat}(hC:LayC t C (some a.rt)) (ha:Lay t a (some (upC C))) (hn:(a.ids++idsC C).Nodup) (hc:CB C (n+1)) (h:a.red=true∧RB (a.zT false) (n+1)∨C=[]∧RB a n) :
  ∃t',(∀k,0<k→qC k t (upC C) (yN C)=some t')∧vS t t' (plug C a).ids (fun z=>z∈a.ids++idsC C):=by
 obtain⟨na,nC,da⟩:=List.nodup_append.1 hn;have hl:=jX ha.loose;have hat:∀k,0<k→qC k t (upC C) (yN C)=some (zG t false a.rt):=fun k hk=>by
  obtain⟨k,rfl⟩:∃m,k=m+1:=⟨k-1,by omega⟩;rw[qC];cases C with
  | nil=>rw[if_neg (by show ¬(0:Int)≤-1;omega),hC _ rfl]
  | cons f C=>
   have hr:a.red=true:=by
    rcases h with h|h
    ·exact h.1
    ·cases h.1
   have hk:kidA t (upC (f::C)) (yN (f::C))=a.rt:=hC.2.2.2.1 _ rfl;rw[if_pos (by show(0:Int)≤(f.x:Int);omega),hk,jP ha,if_pos hr]
 refine⟨_,hat,⟨plug C (a.zT false),?_⟩,y9 _ hl (fun z hz=>List.mem_append_left _ (xW z hz))⟩;have hCp:LayC (zG t false a.rt) C (some (a.zT false).rt):=by
  rw[zae];cases C with
  | nil=>intro y hy;rw[paint_rt];exact hC y hy
  | cons f C=>exact kF false hl hC (fun z hz e=>da z (xW z e) z hz rfl)
 obtain⟨e1,e2⟩:=wP.2 ⟨hCp,wU false ha na⟩;refine⟨e1,e2,by rw[yT,yT,xY],?_,?_⟩
 ·rcases h with h|⟨h1,h2⟩
  ·exact zbL hc h.2 (fun _=>wT _)
  ·rw[h1];exact RB_paint h2
 ·cases C with
  | nil=>exact wT _
  | cons f C=>exact zcT hc (by simp)
theorem zcC {t:St}{C:List F}{f:F}{a near far:T}{xb n:Nat}(hC:LayC t (f::C) (some a.rt)) (ha:Lay t a (some (f.x:Int))) (hn:(a.ids++idsC (f::C)).Nodup) (ho:f.o=nd f.s false xb near far) (hfar:far.red=true) (hrn:RB near n) (hrf:RB far n) (hra:RB a n)
  (hcol:f.c=true→C≠[]∧wF C=false) (hc:CB C (if f.c then n+1 else n+2)) :
  ∃t',xN t (f.x:Int) f.s (xb:Int) far.rt=some t'∧vS t t' (plug (f::C) a).ids (fun z=>z∈a.ids++idsC (f::C)):=by
 obtain⟨na,n1,da⟩:=List.nodup_append.1 hn;have hort:f.o.rt=(xb:Int):=by rw[ho];exact jS _ _ _ _ _
 have hop:f.o.zT f.c=nd f.s f.c xb near far:=by
  rw[ho];unfold nd yL;cases f.s<;>rfl
 have hoi:f.o.ids.Perm (near.ids++xb::far.ids):=by rw[ho];exact vF _ _ _ _ _
 have hN:(near.ids++(xb::(far.ids++(f.x::(a.ids++idsC C))))).Nodup:=by
  refine(List.Perm.nodup_iff ?_).1 hn;show(a.ids++(f.x::(f.o.ids++idsC C))).Perm _;refine List.perm_middle.trans ?_;have e1:(near.ids++(xb::(far.ids++(f.x::(a.ids++idsC C))))).Perm ((near.ids++xb::far.ids)++(f.x::(a.ids++idsC C))):=by simp
  refine List.Perm.trans ?_ e1.symm;refine List.Perm.trans ?_ List.perm_middle.symm;refine List.Perm.cons _ ?_;refine List.Perm.trans ?_ ((hoi.append_right (a.ids++idsC C)));rw[←List.append_assoc,←List.append_assoc];exact List.perm_append_comm.append_right _
 obtain⟨nn,m1,dn⟩:=List.nodup_append.1 hN;obtain⟨bx,m2⟩:=List.nodup_cons.1 m1;obtain⟨nf,m3,df⟩:=List.nodup_append.1 m2;obtain⟨fx,m4⟩:=List.nodup_cons.1 m3;have rp:redA t (f.x:Int)=f.c:=red_layC hC;have hg1:kidA t (f.x:Int) (!f.s)=(xb:Int):=by rw[hC.2.2.2.2.1,hort]
 have hg2:kidA t (xb:Int) (!f.s)=far.rt:=by
  have h:=hC.2.2.2.2.2.2.1;rw[ho]at h;exact(xJ (f:=⟨false,xb,f.s,far⟩) (a:=near)).1 h |>.2.2.2.2.1
 unfold xN;rw[if_pos ⟨hg1,hg2⟩,rp];clear hg1 hg2;refine⟨_,rfl,?_⟩;have hfoi:∀z,z∈near.ids∨z=xb∨z∈far.ids→z∈idsC (f::C):=fun z hz=>List.mem_cons_of_mem _ (List.mem_append_left _ (hoi.mem_iff.2 (by
  rcases hz with h|h|h<;>simp[h])))
 -- b gets p's colour
 have bl:0≤(xb:Int)→((xb:Int)).toNat<t.ns.length:=by rw[←hort];exact jX (Lay.loose hC.2.2.2.2.2.2.1)
 have p1:=zaF f.c hC n1;rw[hort,hop]at p1;have q1:=xE f.c bl ha (fun z hz e=>by
  have e2:z=xb:=by omega
  subst e2;exact da _ hz _ (hfoi _ (Or.inr (Or.inl rfl))) rfl)
 have k1:xL t (zG t f.c (xb:Int)) (fun z=>z∈a.ids++idsC (f::C)):=y9 _ bl (fun z hz=>by
  have e2:z=xb:=by omega
  subst e2;exact List.mem_append_right _ (hfoi _ (Or.inr (Or.inl rfl))))
 generalize zG t f.c (xb:Int)=t1 at p1 q1 k1⊢;have n1':(idsC ({ f with o:=nd f.s f.c xb near far }::C)).Nodup:=by
  have e:(idsC ({ f with o:=nd f.s f.c xb near far }::C))=idsC (f::C):=by
   show f.x::((nd f.s f.c xb near far).ids++idsC C)=f.x::(f.o.ids++idsC C);rw[←hop,xY]
  rw[e];exact n1
 have hfl:0≤(f.x:Int)→((f.x:Int)).toNat<t1.ns.length:=fun _=>p1.1
 have p2:=jV false p1 n1';have q2:=xE false hfl q1 (fun z hz h=>da z hz f.x (by simp[idsC]) (by omega));have k2:xL t1 (zG t1 false (f.x:Int)) (fun z=>z∈a.ids++idsC (f::C)):=y9 _ hfl (fun z hz=>by
  have e2:z=f.x:=by omega
  subst e2;simp[idsC])
 change LayC (zG t1 false (f.x:Int)) _ _ at p2;generalize zG t1 false (f.x:Int)=t2 at p2 q2 k2⊢;obtain⟨x1,x2,x3,x4,x5,x6,x7,x8⟩:=p2;simp only at x1 x2 x3 x4 x5 x6 x7;obtain⟨b1,b2,b3,b4,b5,b6,b7,b8⟩:=xJ.1 x7;simp only at b1 b2 b3 b4 b5 b6 b7 b8;have fl:=jX b7.loose;have keep:∀z,z∉far.ids→gn (zG t2 false far.rt) z=gn t2 z:=fun z hz=>kP false fl z (fun e=>hz (xW z e))
 have hxf:f.x∉far.ids:=fun h=>df _ h f.x List.mem_cons_self rfl
 have hbf:xb∉far.ids:=fun h=>bx (List.mem_append_left _ h)
 have f3:=wU false b7 nf;have near3:=xE false fl b8 (fun z hz e=>dn z hz z (List.mem_cons_of_mem _ (List.mem_append_left _ (xW z e))) rfl);have a3:=xE false fl q2 (fun z hz e=>df z (xW z e) z (List.mem_cons_of_mem _ (List.mem_append_left _ hz)) rfl);have c3:=kF false fl x8 (fun z hz e=>df z (xW z e) z (List.mem_cons_of_mem _ (List.mem_append_right _ hz)) rfl);have k3:xL t2 (zG t2 false far.rt) (fun z=>z∈a.ids++idsC (f::C)):=y9 _ fl (fun z hz=>List.mem_append_right _ (hfoi _ (Or.inr (Or.inr (xW z hz)))));have gx:=keep f.x hxf;have gb:=keep xb hbf;have ln:=zF t2 false far.rt;generalize zG t2 false far.rt=t3 at f3 near3 a3 c3 k3 gx gb ln⊢;have kx:∀s,kidA t3 (f.x:Int) s=kidA t2 (f.x:Int) s:=fun s=>by unfold kidA;rw[Int.toNat_natCast,gx]
 have kb:∀s,kidA t3 (xb:Int) s=kidA t2 (xb:Int) s:=fun s=>by unfold kidA;rw[Int.toNat_natCast,gb]
 have hO:Lay t3 (nd f.s f.c xb near (far.zT false)) (some (f.x:Int)):=(xJ (t:=t3) (f:=⟨f.c,xb,f.s,far.zT false⟩) (a:=near)).2 ⟨by rw[ln];exact b1,by rw[gb];exact b2,by rw[gb];exact b3,(kb _).trans b4,((kb _).trans b5).trans (zae _ _).symm,by rw[gb];exact b6,f3,near3⟩;have hL:Lay t3 (nd (!f.s) false f.x (nd f.s f.c xb near (far.zT false)) a) (some (upC C)):=(xJ (t:=t3) (f:=⟨false,f.x,!f.s,a⟩) (a:=nd f.s f.c xb near (far.zT false))).2 ⟨by rw[ln];exact x1,by rw[gx];exact x2,by rw[gx];exact x3,by rw[jS];exact((kx _).trans x5).trans (jS _ _ _ _ _),by show kidA t3 (f.x:Int) (!(!f.s))=a.rt;rw[Bool.not_not,kx];exact x4 _ rfl,by rw[gx];exact x6,a3,hO⟩;obtain⟨v1,v2,v3,v4⟩:=zaR c3 hL (by rw[xY];exact hN);have k4:xL t3 (yM t3 (f.x:Int) f.s) (fun z=>z∈a.ids++idsC (f::C)):=⟨v3,fun z=>⟨(v4 z).1,fun hz=>(v4 z).2 (fun h=>hz (by
  rw[xY]at h;simp only[List.mem_append,List.mem_cons]at h;rcases h with h|h|h|h|h|h
  ·exact List.mem_append_right _ (hfoi _ (Or.inl h))
  ·exact List.mem_append_right _ (hfoi _ (Or.inr (Or.inl h)))
  ·exact List.mem_append_right _ (hfoi _ (Or.inr (Or.inr h)))
  ·simp[idsC,h]
  ·simp[h]
  ·simp[idsC,h]))⟩⟩
 refine⟨⟨plug C (nd f.s f.c xb (nd (!f.s) false f.x near a) (far.zT false)),?_⟩,((k1.trans k2).trans k3).trans k4⟩;rw[show(xb:Int)=(nd f.s f.c xb (nd (!f.s) false f.x near a) (far.zT false)).rt from(jS _ _ _ _ _).symm]at v1;obtain⟨e1,e2⟩:=wP.2 ⟨v1,v2⟩;refine⟨e1,e2,?_,?_,?_⟩
 ·rw[yT,yT];unfold nd yL;simp only[jA,xX,ho];unfold nd yL;cases f.s<;>simp[T.ids,xY]
 ·refine zbL hc (qP.2 ⟨fun _=>⟨jM _ _,wT _⟩,n+1,qP.2 ⟨(fun c=>by cases c),n,hrn,hra,rfl⟩,RB_black hrf hfar,rfl⟩) (fun c=>?_);show(yL _ _).red=false;rw[jM];cases hfc:f.c with
  | false=>rfl
  | true=>rw[(hcol hfc).2]at c;cases c
 ·cases C with
  | nil=>
   show(yL _ _).red=false;rw[jM];cases hfc:f.c with
   | false=>rfl
   | true=>exact absurd rfl (hcol hfc).1
  | cons g C=>exact zcT hc (by simp)
theorem wI {a b:List Nat}(h:∀z,a.count z=b.count z):a.Perm b:=List.perm_iff_count.2 h
theorem zah {t:St}{C:List F}{f:F}{a:T}(hC:LayC t (f::C) (some a.rt)) (ha:Lay t a (some (f.x:Int))) :
  LayC t (⟨f.c,f.x,!f.s,a⟩::C) (some f.o.rt)∧Lay t f.o (some (f.x:Int)):=by
 obtain⟨h1,h2,h3,h4,h5,h6,h7,h8⟩:=hC;exact⟨⟨h1,h2,h3,(fun y hy=>by rw[←Option.some.inj hy];exact h5),(by show kidA t f.x (!(!f.s))=a.rt;rw[Bool.not_not];exact h4 _ rfl),h6,ha,h8⟩,h7⟩
theorem zaT {t:St}{C:List F}{f:F}{a:T}(hC:LayC t C (some (f.x:Int))) (ha:Lay t (yL f a) (some (upC C))):LayC t (f::C) (some a.rt)∧Lay t a (some (f.x:Int)):=by
 obtain⟨h1,h2,h3,h4,h5,h6,h7,h8⟩:=xJ.1 ha;exact⟨⟨h1,h2,h3,(fun y hy=>by rw[←Option.some.inj hy];exact h4),h5,h6,h7,hC⟩,h8⟩
theorem zbV {t:St}{C:List F}{f:F}{a:T}(hC:LayC t (f::C) (some a.rt)) (ha:Lay t a (some (f.x:Int))):LayC t C (some (f.x:Int))∧Lay t (yL f a) (some (upC C)):=by
 obtain⟨h1,h2,h3,h4,h5,h6,h7,h8⟩:=hC;exact⟨h8,xJ.2 ⟨h1,h2,h3,h4 _ rfl,h5,h6,h7,ha⟩⟩
theorem as_ndc (s:Bool) {a:T}(h:a≠E):∃x p q,a=nd s a.red x p q:=by
 cases a with
 | E=>exact absurd rfl h
 | B c l x r=>
  cases s with
  | false=>exact⟨x,l,r,rfl⟩
  | true=>exact⟨x,r,l,rfl⟩
theorem zbS (s c b:Bool) (x:Nat) (p q:T):(nd s c x p q).zT b=nd s b x p q:=by
 unfold nd yL;cases s<;>rfl
theorem RB_ne {a:T}{n:Nat}(h:RB a (n+1)):a≠E:=fun e=>by
 rw[e]at h;have h2:n+1=0:=h;omega
def FillGoal (N:Nat):Prop:=∀{t:St}{C:List F}{a:T}{n:Nat},C.length≤N→LayC t C (some a.rt)→Lay t a (some (upC C))→(a.ids++idsC C).Nodup→CB C (n+1)→(a.red=false∧RB a n∨a.red=true∧RB (a.zT false) (n+1))→
 ∃t',(∀k,N<k→qC k t (upC C) (yN C)=some t')∧vS t t' (plug C a).ids (fun z=>z∈a.ids++idsC C)
theorem fill_black {N:Nat}{t:St}{C:List F}{f:F}{a:T}{n:Nat}(ih:f.c=false→FillGoal N∧C.length≤N) (hC:LayC t (f::C) (some a.rt)) (ha:Lay t a (some (f.x:Int))) (hn:(a.ids++idsC (f::C)).Nodup) (hob:f.o.red=false) (ho:RB f.o (n+1)) (hra:RB a n)
  (hcol:f.c=true→C≠[]∧wF C=false) (hc:CB C (if f.c then n+1 else n+2)) :
  ∃t',(∀k,N<k→xR (qC k) t (f.x:Int) f.s f.o.rt=some t')∧vS t t' (plug (f::C) a).ids (fun z=>z∈a.ids++idsC (f::C)):=by
 obtain⟨na,n1,da⟩:=List.nodup_append.1 hn;obtain⟨xb,near,far,hoe⟩:=as_ndc f.s (RB_ne ho);rw[hob]at hoe;have ho2:=ho;rw[hoe]at ho2;obtain⟨_,m,rnear,rfar,hm⟩:=qP.1 ho2;simp only at rfar hm;have hmn:m=n:=by simpa using hm.symm
 subst hmn;have hort:f.o.rt=(xb:Int):=by rw[hoe];exact jS _ _ _ _ _
 have hoi:f.o.ids.Perm (near.ids++xb::far.ids):=by rw[hoe];exact vF _ _ _ _ _
 obtain⟨gC,gO⟩:=zah hC ha;have gO2:=gO;rw[hoe]at gO2;obtain⟨b1,b2,b3,b4,b5,b6,b7,b8⟩:=xJ.1 gO2;simp only at b1 b2 b3 b4 b5 b6 b7;have rn:redA t near.rt=near.red:=jP b8;have rf:redA t far.rt=far.red:=jP b7;have hunf:∀k,xR (qC k) t (f.x:Int) f.s f.o.rt=if near.red=false∧far.red=false then qC k (zG t true (xb:Int)) (upA (zG t true (xb:Int)) (f.x:Int)) (onA (zG t true (xb:Int)) (f.x:Int))
   else if far.red=false then xN (yM (zG (zG t false near.rt) true (xb:Int)) (xb:Int) (!f.s)) (f.x:Int) f.s near.rt (xb:Int)
   else xN t (f.x:Int) f.s (xb:Int) far.rt:=fun k=>by
  rw[hort,xR,if_neg (by omega),b4,b5,rn,rf]
 have bl:0≤(xb:Int)→((xb:Int)).toNat<t.ns.length:=fun _=>b1
 have hbo:xb∈f.o.ids:=hoi.mem_iff.2 (by simp);have hxba:∀z∈a.ids,(z:Int)≠(xb:Int):=fun z hz e=>by
  have e2:z=xb:=by omega
  subst e2;exact da _ hz _ (by simp[idsC,hbo]) rfl
 by_cases hA:near.red=false∧far.red=false
 ·-- both black: up
  have hunf1:=fun k=>(hunf k).trans (if_pos hA)
  have p1:=zaF true hC n1;rw[hort]at p1;have q1:=xE true bl ha hxba;have k1:xL t (zG t true (xb:Int)) (fun z=>z∈a.ids++idsC (f::C)):=y9 _ bl (fun z hz=>by
   have e2:z=xb:=by omega
   subst e2;simp[idsC,hbo])
  generalize zG t true (xb:Int)=t1 at p1 q1 k1 hunf1;obtain⟨v1,v2⟩:=zbV p1 q1;have hup:upA t1 (f.x:Int)=upC C:=p1.2.2.2.2.2.1;have hxC:f.x∉idsC C:=fun h=>(List.nodup_cons.1 n1).1 (List.mem_append_right _ h)
  have hon:onA t1 (f.x:Int)=yN C:=zbF v1 hup hxC;have hp:((yL { f with o:=f.o.zT true } a).ids++idsC C).Perm (a.ids++idsC (f::C)):=by
   refine((vU _ _).append_right _).trans ?_;show((a.ids++f.x::(f.o.zT true).ids)++idsC C).Perm (a.ids++(f.x::(f.o.ids++idsC C)));rw[xY];simp
  have hrt:(yL { f with o:=f.o.zT true } a).rt=(f.x:Int):=kU _ _;have hop:f.o.zT true=nd f.s true xb near far:=by rw[hoe,zbS]
  have hro:RB (f.o.zT true) m:=by rw[hop];exact qP.2 ⟨fun _=>hA,m,rnear,rfar,rfl⟩
  obtain⟨t',e1,e2⟩:∃t',(∀k,N<k→qC k t1 (upC C) (yN C)=some t')∧vS t1 t' (plug C (yL { f with o:=f.o.zT true } a)).ids (fun z=>z∈(yL { f with o:=f.o.zT true } a).ids++idsC C):=by
   have hfr:=jM { f with o:=f.o.zT true } a;by_cases hfc:f.c=true;rotate_left
   ·rw[if_neg hfc]at hc;have hfc:f.c=false:=by simpa using hfc
    obtain⟨ih1,ih2⟩:=ih hfc;exact ih1 (n:=m+1) ih2 (by rw[hrt];exact v1) v2 (hp.nodup_iff.2 hn) hc (Or.inl ⟨hfr.trans hfc,qP.2 ⟨(fun e=>by rw[show({ f with o:=f.o.zT true }:F).c=f.c from rfl,hfc]at e;cases e),m,hra,hro,by rw[show({ f with o:=f.o.zT true }:F).c=f.c from rfl,hfc];rfl⟩⟩)
   ·rw[if_pos hfc]at hc;obtain⟨t',e1,e2⟩:=zai (n:=m) (C:=C) (t:=t1) (a:=yL { f with o:=f.o.zT true } a) (by rw[hrt];exact v1) v2 (hp.nodup_iff.2 hn) hc (Or.inl ⟨hfr.trans hfc,by
     rw[show(yL { f with o:=f.o.zT true } a).zT false=nd f.s false f.x a (f.o.zT true)from zbS f.s f.c false f.x a (f.o.zT true)];exact qP.2 ⟨(fun e=>by cases e),m,hra,hro,rfl⟩⟩)
    exact⟨t',fun k hk=>e1 k (by omega),e2⟩
  refine⟨t',fun k hk=>by rw[hunf1,hup,hon];exact e1 k hk,⟨?_,k1.trans (e2.keeps.mono (fun z hz=>hp.mem_iff.1 hz))⟩⟩;obtain⟨A,g1,g2,g3,g4⟩:=e2.ex;refine⟨A,g1,g2,?_,g4⟩;rw[g3,yT,yT];unfold yL;simp only[jA,xX];cases f.s<;>simp[T.ids,xY]
 ·have hunf1:=fun k=>(hunf k).trans (if_neg hA)
  cases hfr:far.red with
  | true=>
   obtain⟨t',e1,e2⟩:=zcC hC ha hn hoe hfr rnear rfar hra hcol hc;exact⟨t',fun k hk=>by rw[hunf1,if_neg (by rw[hfr];simp)];exact e1,e2⟩
  | false=>
   have hnr:near.red=true:=by
    cases h:near.red with
    | true=>rfl
    | false=>exact absurd ⟨h,hfr⟩ hA
   have hunf2:=fun k=>(hunf1 k).trans (if_pos hfr)
   obtain⟨xn,b',d',rfl⟩:=as_nd (!f.s) hnr;obtain⟨rc,m2,rb',rd',hm2⟩:=qP.1 rnear;simp only at rc rd' hm2;have hmm:m2=m:=by simpa using hm2.symm
   subst hmm;obtain⟨bb,db⟩:=rc trivial;have hni:(nd (!f.s) true xn b' d').ids.Perm (b'.ids++xn::d'.ids):=vF _ _ _ _ _;have c1:∀z,(nd (!f.s) true xn b' d').ids.count z=b'.ids.count z+(d'.ids.count z+if xn==z then 1 else 0):=fun z=>by
    rw[hni.count_eq];simp only[List.count_append,List.count_cons]
   have c2:∀z,f.o.ids.count z=(nd (!f.s) true xn b' d').ids.count z+(far.ids.count z+if xb==z then 1 else 0):=fun z=>by
    rw[hoi.count_eq];simp only[List.count_append,List.count_cons]
   have cI:∀z,(a.ids++idsC (f::C)).count z=a.ids.count z+(f.o.ids.count z+(idsC C).count z+if f.x==z then 1 else 0):=fun z=>by
    simp only[idsC,List.count_append,List.count_cons]
   -- the frames of the near child
   have hD:((nd (!f.s) true xn b' d').ids++idsC (⟨false,xb,f.s,far⟩::⟨f.c,f.x,!f.s,a⟩::C)).Nodup:=by
    refine(wI (fun z=>?_)).nodup_iff.1 hn;rw[cI,c2];simp only[idsC,List.count_append,List.count_cons];omega
   obtain⟨nn,nD,dD⟩:=List.nodup_append.1 hD;rw[hort]at gC;obtain⟨y1,y2⟩:=zaT (f:=⟨false,xb,f.s,far⟩) gC gO2;have nl:=jX y2.loose;have p1:=wU false y2 nn;have p2:=kF false nl y1 (fun z hz e=>dD z (xW z e) z hz rfl);have hmemI:∀z,(z∈(nd (!f.s) true xn b' d').ids∨z=xb∨z∈far.ids)→z∈a.ids++idsC (f::C):=fun z hz=>by
    have:z∈f.o.ids:=hoi.mem_iff.2 (by rcases hz with h|h|h<;>simp[h]);simp[idsC,this]
   have k1:xL t (zG t false (nd (!f.s) true xn b' d').rt) (fun z=>z∈a.ids++idsC (f::C)):=y9 _ nl (fun z hz=>hmemI z (Or.inl (xW z hz)));rw[zbS]at p1;have hnrt:=jS (!f.s) true xn b' d';rw[hnrt]at p1 p2 k1 hunf2;generalize zG t false (xn:Int)=t1 at p1 p2 k1 hunf2;have bl1:0≤(xb:Int)→((xb:Int)).toNat<t1.ns.length:=fun _=>p2.1
   have p3:=jV true p2 nD;have hxbn:∀z∈(nd (!f.s) true xn b' d').ids,(z:Int)≠(xb:Int):=fun z hz e=>by
    have e2:z=xb:=by omega
    subst e2;exact dD _ hz _ (by simp[idsC]) rfl
   have p4:=xE true bl1 p1 (fun z hz e=>hxbn z (by rw[hni.mem_iff];rw[(vF _ _ _ _ _).mem_iff]at hz;exact hz) e);have k2:xL t1 (zG t1 true (xb:Int)) (fun z=>z∈a.ids++idsC (f::C)):=y9 _ bl1 (fun z hz=>hmemI z (Or.inr (Or.inl (by omega))));change LayC (zG t1 true (xb:Int)) (⟨true,xb,f.s,far⟩::⟨f.c,f.x,!f.s,a⟩::C) _ at p3;generalize zG t1 true (xb:Int)=t2 at p3 p4 k2 hunf2;rw[show((xn:Nat):Int)=(nd (!f.s) false xn b' d').rt from(jS _ _ _ _ _).symm]at p3;obtain⟨s1,s2⟩:=zbV p3 p4;have s2':Lay t2 (nd (!(!f.s)) true xb (nd (!f.s) false xn b' d') far) (some (f.x:Int)):=by
    rw[Bool.not_not];exact s2
   have hN:(b'.ids++(xn::(d'.ids++(xb::(far.ids++idsC (⟨f.c,f.x,!f.s,a⟩::C)))))).Nodup:=by
    refine(wI (fun z=>?_)).nodup_iff.1 hn;rw[cI,c2,c1];simp only[idsC,List.count_append,List.count_cons];omega
   obtain⟨v1,v2,v3,v4⟩:=zaR (C:=⟨f.c,f.x,!f.s,a⟩::C) s1 s2' hN;have k3:xL t2 (yM t2 (xb:Int) (!f.s)) (fun z=>z∈a.ids++idsC (f::C)):=⟨v3,fun z=>⟨(v4 z).1,fun hz=>(v4 z).2 (fun h=>hz (by
    have h2:=List.count_pos_iff.2 h;refine List.count_pos_iff.1 ?_;rw[cI,c2,c1];simp only[idsC,List.count_append,List.count_cons]at h2;omega))⟩⟩
   generalize yM t2 (xb:Int) (!f.s)=t3 at v1 v2 v3 k3 hunf2;rw[Bool.not_not,zcK (!f.s),Bool.not_not]at v2;have v1':LayC t3 (⟨f.c,f.x,!f.s,a⟩::C) (some (nd f.s false xn d' (nd f.s true xb b' far)).rt):=by rw[jS];exact v1
   obtain⟨w1,w2⟩:=zah v1' v2;simp only[Bool.not_not]at w1 w2;have hp:(a.ids++idsC (⟨f.c,f.x,f.s,nd f.s false xn d' (nd f.s true xb b' far)⟩::C)).Perm (a.ids++idsC (f::C)):=by
    refine wI (fun z=>?_);rw[cI,c2,c1];simp only[idsC,List.count_append,List.count_cons];rw[(vF _ _ _ _ _).count_eq];simp only[List.count_append,List.count_cons];rw[(vF _ _ _ _ _).count_eq];simp only[List.count_append,List.count_cons];omega
   obtain⟨t',e1,e2⟩:=zcC (f:=⟨f.c,f.x,f.s,nd f.s false xn d' (nd f.s true xb b' far)⟩) (far:=nd f.s true xb b' far) (near:=d') (xb:=xn) (n:=m2) w1 w2 (hp.nodup_iff.2 hn) rfl (jM _ _) rd' (qP.2 ⟨fun _=>⟨bb,hfr⟩,m2,rb',rfar,rfl⟩) hra hcol hc;rw[jS]at e1;refine⟨t',fun k hk=>by rw[hunf2];exact e1,⟨?_,((k1.trans k2).trans k3).trans (e2.keeps.mono (fun z hz=>hp.mem_iff.1 hz))⟩⟩;obtain⟨A,g1,g2,g3,g4⟩:=e2.ex;refine⟨A,g1,g2,?_,g4⟩;rw[g3,yT,yT];simp only[jA,xX,hoe];unfold nd yL;cases f.s<;>simp[T.ids]
theorem fill_lay:∀N,FillGoal N:=by
 intro N
 induction N with
 | zero=>
  intro t C a n hlen hC ha hn hc h;have hC0:C=[]:=List.length_eq_zero_iff.1 (by omega);refine zai hC ha hn hc ?_;rcases h with h|h
  ·exact Or.inr ⟨hC0,h.2⟩
  ·exact Or.inl h
 | succ N ih=>
  intro t C a n hlen hC ha hn hc h;rcases h with⟨har,hra⟩|h
  ·match C,hlen,hC,ha,hn,hc with
   | [],hlen,hC,ha,hn,hc=>
    obtain⟨t',e1,e2⟩:=zai hC ha hn hc (Or.inr ⟨rfl,hra⟩);exact⟨t',fun k hk=>e1 k (by omega),e2⟩
   | f::C,hlen,hC,ha,hn,hc=>
    obtain⟨ho,hcol,hc2⟩:=hc;obtain⟨na,n1,da⟩:=List.nodup_append.1 hn;have hlen2:C.length≤N:=by simp at hlen;omega
    have hk:kidA t (f.x:Int) f.s=a.rt:=hC.2.2.2.1 _ rfl;have hko:kidA t (f.x:Int) (!f.s)=f.o.rt:=hC.2.2.2.2.1;have hra2:redA t a.rt=false:=by rw[jP ha,har]
    have hro:redA t f.o.rt=f.o.red:=jP hC.2.2.2.2.2.2.1;have hunf:∀k,qC (k+1) t (upC (f::C)) (yN (f::C))=if f.o.red=true then xR (qC k) (yM (zG (zG t false f.o.rt) true (f.x:Int)) (f.x:Int) f.s) (f.x:Int) f.s (kidA (yM (zG (zG t false f.o.rt) true (f.x:Int)) (f.x:Int) f.s) (f.x:Int) (!f.s))
      else xR (qC k) t (f.x:Int) f.s f.o.rt:=fun k=>by
     rw[qC,show upC (f::C)=(f.x:Int)from rfl,show yN (f::C)=f.s from rfl,if_pos (by omega),hk,hra2,if_neg (by simp),hko,hro]
    cases hor:f.o.red with
    | false=>
     obtain⟨t',e1,e2⟩:=fill_black (fun _=>⟨ih,hlen2⟩) hC ha hn hor ho hra (fun e=>(hcol e).2) hc2;refine⟨t',fun k hk=>?_,e2⟩;obtain⟨k,rfl⟩:∃m,k=m+1:=⟨k-1,by omega⟩;rw[hunf,if_neg (by rw[hor];simp)];exact e1 k (by omega)
    | true=>
     have hfc:f.c=false:=by
      cases hfc:f.c with
      | false=>rfl
      | true=>rw[(hcol hfc).1]at hor;cases hor
     obtain⟨xb,near,far,hoe⟩:=as_nd f.s hor;have ho2:=ho;rw[hoe]at ho2;obtain⟨rc,m,rnear,rfar,hm⟩:=qP.1 ho2;simp only at rc rfar hm;have hmn:m=n+1:=by simpa using hm.symm
     subst hmn;obtain⟨nr,fr⟩:=rc trivial;have hort:f.o.rt=(xb:Int):=by rw[hoe];exact jS _ _ _ _ _
     have hoi:f.o.ids.Perm (near.ids++xb::far.ids):=by rw[hoe];exact vF _ _ _ _ _
     have c2:∀z,f.o.ids.count z=near.ids.count z+(far.ids.count z+if xb==z then 1 else 0):=fun z=>by
      rw[hoi.count_eq];simp only[List.count_append,List.count_cons]
     have cI:∀z,(a.ids++idsC (f::C)).count z=a.ids.count z+(f.o.ids.count z+(idsC C).count z+if f.x==z then 1 else 0):=fun z=>by
      simp only[idsC,List.count_append,List.count_cons]
     have hbo:xb∈f.o.ids:=hoi.mem_iff.2 (by simp);have bl:=jX (Lay.loose hC.2.2.2.2.2.2.1);have p1:=zaF false hC n1;have q1:=xE false bl ha (fun z hz e=>da z hz z (by simp[idsC,xW z e]) rfl);have k1:xL t (zG t false f.o.rt) (fun z=>z∈a.ids++idsC (f::C)):=y9 _ bl (fun z hz=>by simp[idsC,xW z hz]);have hunf1:=fun k=>(hunf k).trans (if_pos hor)
     generalize zG t false f.o.rt=t1 at p1 q1 k1 hunf1;have n1':(idsC ({ f with o:=f.o.zT false }::C)).Nodup:=by
      show(f.x::((f.o.zT false).ids++idsC C)).Nodup;rw[xY];exact n1
     have fl:0≤(f.x:Int)→((f.x:Int)).toNat<t1.ns.length:=fun _=>p1.1
     have p2:=jV true p1 n1';have q2:=xE true fl q1 (fun z hz e=>da z hz f.x (by simp[idsC]) (by omega));have k2:xL t1 (zG t1 true (f.x:Int)) (fun z=>z∈a.ids++idsC (f::C)):=y9 _ fl (fun z hz=>by
      have e2:z=f.x:=by omega
      subst e2;simp[idsC])
     change LayC (zG t1 true (f.x:Int)) _ _ at p2;generalize zG t1 true (f.x:Int)=t2 at p2 q2 k2 hunf1;obtain⟨g1,g2⟩:=zah p2 q2;simp only[hoe,zbS]at g1 g2;have hfx:(nd f.s false xb near far).rt=(xb:Int):=jS _ _ _ _ _
     -- the whole node f,as a tree with the other child foremost
     obtain⟨s1,s2⟩:=zbV g1 g2;have s2':Lay t2 (nd (!f.s) true f.x (nd f.s false xb near far) a) (some (upC C)):=s2;have hN:(near.ids++(xb::(far.ids++(f.x::(a.ids++idsC C))))).Nodup:=by
      refine(wI (fun z=>?_)).nodup_iff.1 hn;rw[cI,c2];simp only[List.count_append,List.count_cons];omega
     obtain⟨v1,v2,v3,v4⟩:=zaR (s:=f.s) s1 s2' hN;have k3:xL t2 (yM t2 (f.x:Int) f.s) (fun z=>z∈a.ids++idsC (f::C)):=⟨v3,fun z=>⟨(v4 z).1,fun hz=>(v4 z).2 (fun h=>hz (by
      have h2:=List.count_pos_iff.2 h;refine List.count_pos_iff.1 ?_;rw[cI,c2];simp only[List.count_append,List.count_cons]at h2;omega))⟩⟩
     generalize yM t2 (f.x:Int) f.s=t3 at v1 v2 v3 k3 hunf1;obtain⟨o1,o2⟩:=zaT (f:=⟨false,xb,f.s,far⟩) v1 v2;rw[jS]at o1;rw[zcK (!f.s),Bool.not_not]at o2;obtain⟨r1,r2⟩:=zaT (C:=⟨false,xb,f.s,far⟩::C) (f:=⟨true,f.x,f.s,near⟩) o1 o2;have hkn:kidA t3 (f.x:Int) (!f.s)=near.rt:=r1.2.2.2.2.1;have hp:(a.ids++idsC (⟨true,f.x,f.s,near⟩::⟨false,xb,f.s,far⟩::C)).Perm (a.ids++idsC (f::C)):=by
      refine wI (fun z=>?_);rw[cI,c2];simp only[idsC,List.count_append,List.count_cons];omega
     rw[hfc]at hc2;obtain⟨t',e1,e2⟩:=fill_black (N:=N) (f:=⟨true,f.x,f.s,near⟩) (C:=⟨false,xb,f.s,far⟩::C) (fun e=>by cases e) r1 r2 (hp.nodup_iff.2 hn) nr rnear hra (fun _=>⟨by simp,rfl⟩) ⟨rfar,(fun e=>by cases e),hc2⟩;refine⟨t',fun k hk=>?_,⟨?_,((k1.trans k2).trans k3).trans (e2.keeps.mono (fun z hz=>hp.mem_iff.1 hz))⟩⟩
     ·obtain⟨k,rfl⟩:∃m,k=m+1:=⟨k-1,by omega⟩;rw[hunf1,hkn];exact e1 k (by omega)
     ·obtain⟨A,g1,g2,g3,g4⟩:=e2.ex;refine⟨A,g1,g2,?_,g4⟩;rw[g3,yT,yT];simp only[jA,xX,hoe];unfold nd yL;cases f.s<;>simp[T.ids]
  ·obtain⟨t',e1,e2⟩:=zai hC ha hn hc (Or.inl h);exact⟨t',fun k hk=>e1 k (by omega),e2⟩
theorem zad {t:St}{C:List F}:∀{D:List F}{a:T},(LayC t C (some (plug D a).rt)∧Lay t (plug D a) (some (upC C)))↔(LayC t (D++C) (some a.rt)∧Lay t a (some (upC (D++C))))
 | [],a=>Iff.rfl
 | f::D,a=>by
  show(LayC t C (some (plug D (yL f a)).rt)∧Lay t (plug D (yL f a)) (some (upC C)))↔_;rw[zad (D:=D) (a:=yL f a),kU];constructor
  ·intro ⟨h1,h2⟩;exact zaT h1 h2
  ·intro ⟨h1,h2⟩;exact zbV h1 h2
theorem vV:∀(D C:List F) (a:T),plug (D++C) a=plug C (plug D a)
 | [],_,_=>rfl
 | f::D,C,a=>vV D C (yL f a)
theorem zbX:∀(D C:List F),idsC (D++C)=idsC D++idsC C
 | [],_=>rfl
 | f::D,C=>by show f.x::(f.o.ids++idsC (D++C))=_;rw[zbX D C];simp[idsC]
theorem CB_same {x y:Nat}{c s:Bool}{o:T}{C:List F}:∀{D:List F}{n:Nat},CB (D++⟨c,x,s,o⟩::C) n→CB (D++⟨c,y,s,o⟩::C) n
 | [],n,h=>h
 | f::D,n,⟨h1,h2,h3⟩=>by
  refine⟨h1,fun e=>?_,CB_same h3⟩;obtain⟨k1,k2,k3⟩:=h2 e;refine⟨k1,by simp,?_⟩;cases D with
  | nil=>exact k3
  | cons g D=>exact k3
theorem hang_sub {t:St}{x:Int}{s:Bool}{a:T}(hx:0≤x→x.toNat<t.ns.length) (ha:Lay t a none) (hd:∀z∈a.ids,(z:Int)≠x) (hna:a.ids.Nodup):Lay (zM t x s a.rt) a (some x):=by
 cases a with
 | E=>trivial
 | B c l y r=>
  have hl:=jX ha;obtain⟨h1,h2,h3,h4,h5,h6,h7,h8⟩:=ha;have hg:∀z:Nat,(z:Int)≠x→gn (zM t x s (B c l y r).rt) z=if z=y then { gn t z with u:=x }else gn t z:=fun z hz=>by
   rw[kS s hx hl,jK _ _ hx,if_neg (show ¬(0≤x∧z=x.toNat)by omega)];by_cases e:z=y;rotate_left
   ·rw[if_neg e,if_neg (fun h=>e (by have h2:z=((y:Int)).toNat:=h.2;omega))]
   rw[if_pos e,if_pos ⟨by show(0:Int)≤(y:Int);omega,by show z=((y:Int)).toNat;omega⟩]
  have hn2:(l.ids++y::r.ids).Nodup:=hna;obtain⟨n1,n2,n3⟩:=List.nodup_append.1 hn2;have hy:=hg y (hd y (by simp[T.ids]));rw[if_pos rfl]at hy;have hk:∀z,z∈l.ids∨z∈r.ids→gn (zM t x s (B c l y r).rt) z=gn t z:=fun z hz=>by
   rw[hg z (hd z (by rcases hz with h|h<;>simp[T.ids,h])),if_neg];intro e;subst e;rcases hz with hz|hz
   ·exact n3 z hz z List.mem_cons_self rfl
   ·exact(List.nodup_cons.1 n2).1 hz
  have hlen:=zX t x s (B c l y r).rt;exact⟨by rw[hlen];exact h1,by rw[hy];exact h2,by rw[hy];exact h3,by rw[hy];exact h4,by rw[hy];exact h5,fun p hp=>by rw[hy,←Option.some.inj hp],Lay.congr hlen (fun z hz=>hk z (Or.inl hz)) h7,Lay.congr hlen (fun z hz=>hk z (Or.inr hz)) h8⟩
def kG:Nat→St→Int→Option Int
 | 0,_,_=>none
 | k+1,t,y=>if 0≤kidA t y false then kG k t (kidA t y false)else some y
def leftD:T→List F→List F × (Bool × Nat × T)
 | E,D=>(D,false,0,E)
 | B c E x r,D=>(D,c,x,r)
 | B c (B c2 l2 x2 r2) x r,D=>leftD (B c2 l2 x2 r2) (⟨c,x,false,r⟩::D)
theorem leftD_plug:∀(a:T) (D:List F),a≠E→plug (leftD a D).1 (B (leftD a D).2.1 E (leftD a D).2.2.1 (leftD a D).2.2.2)=plug D a
 | E,D,h=>absurd rfl h
 | B c E x r,D,_=>rfl
 | B c (B c2 l2 x2 r2) x r,D,_=>by
  rw[leftD,leftD_plug (B c2 l2 x2 r2) _ (by simp)]
  rfl
theorem leftD_side:∀(a:T) (D:List F),(∀f∈D,f.s=false)→∀f∈(leftD a D).1,f.s=false
 | E,D,h=>h
 | B c E x r,D,h=>h
 | B c (B c2 l2 x2 r2) x r,D,h=>leftD_side (B c2 l2 x2 r2) _ (fun f hf=>by
  rcases List.mem_cons.1 hf with rfl|hf
  ·rfl
  ·exact h f hf)
theorem zbA:∀{D:List F},(∀f∈D,f.s=false)→jA D=[]
 | [],_=>rfl
 | f::D,h=>by
  show jA D++(if f.s then f.o.ids++[f.x]else [])=[];rw[zbA (fun g hg=>h g (List.mem_cons_of_mem _ hg)),h f List.mem_cons_self]
  rfl
theorem leftA_lay {t:St}:∀(a:T) (D:List F) (u:Option Int) (k:Nat),a≠E→a.size≤k→Lay t a u→kG k t a.rt=some ((leftD a D).2.2.1:Int)
 | E,D,u,k,h,_,_=>absurd rfl h
 | B c l x r,D,u,0,_,hk,_=>absurd hk (by show ¬l.size+r.size+1≤0;omega)
 | B c E x r,D,u,k+1,_,hk,⟨h1,h2,h3,h4,h5,h6,h7,h8⟩=>by
  have e:kidA t (x:Int) false=-1:=by unfold kidA;rw[Int.toNat_natCast];exact h4
  rw[kG,show(B c E x r).rt=(x:Int)from rfl,e,if_neg (by omega)]
  rfl
 | B c (B c2 l2 x2 r2) x r,D,u,k+1,_,hk,⟨h1,h2,h3,h4,h5,h6,h7,h8⟩=>by
  have e:kidA t (x:Int) false=(x2:Int):=by unfold kidA;rw[Int.toNat_natCast];exact h4
  rw[kG,show(B c (B c2 l2 x2 r2) x r).rt=(x:Int)from rfl,e,if_pos (by omega)];exact leftA_lay (B c2 l2 x2 r2) (⟨c,x,false,r⟩::D) (some (x:Int)) k (by simp) (by
   have hk2:(B c2 l2 x2 r2).size+r.size+1≤k+1:=hk;omega) h7
theorem sn_lay {t:St}{x:Nat}{n:Nd}{a:T}{u:Option Int}(hx:x<t.ns.length) (ha:Lay t a u) (h:x∉a.ids):Lay (sn t x n) a u:=
 Lay.congr (xQ _ _ _) (fun z hz=>by rw[wM _ _ _ _ hx,if_neg (fun e=>h (by rw[←e];exact hz))]) ha
theorem sn_layC {t:St}{x:Nat}{n:Nd}{C:List F}{k:Option Int}(hx:x<t.ns.length) (hC:LayC t C k) (h:x∉idsC C):LayC (sn t x n) C k:=
 LayC.congr (xQ _ _ _) rfl (fun z hz=>by rw[wM _ _ _ _ hx,if_neg (fun e=>h (by rw[←e];exact hz))]) hC
theorem kQ {t:St}{x y:Int}{s:Bool}{S:Nat→Prop}(hx:0≤x→x.toNat<t.ns.length) (hy:0≤y→y.toNat<t.ns.length) (h1:∀z:Nat,(z:Int)=x→S z) (h2:∀z:Nat,(z:Int)=y→S z):xL t (zM t x s y) S:=
 ⟨zX _ _ _ _,fun z=>⟨hang_v s hx hy z,fun hz=>by
  rw[kS s hx hy,if_neg (fun h=>hz (h2 z (by omega))),jK _ _ hx,if_neg (fun h=>hz (h1 z (by omega)))]⟩⟩
def kI (t:St) (up:Int) (at_:Bool) (y l:Int) (c:Bool):St:=zG (zM (zM t up at_ y) y false l) c y
theorem place_lay {t:St}{C:List F}{y:Nat}{c:Bool}{l R:T}(hC:LayC t C none) (hy:y<t.ns.length) (hin:(gn t y).inn=true) (hk:kidA t (y:Int) true=R.rt) (hR:Lay t R (some (y:Int))) (hl:Lay t l none) (hn:(y::(R.ids++(l.ids++idsC C))).Nodup) :
  LayC (kI t (upC C) (yN C) (y:Int) l.rt c) (⟨c,y,true,l⟩::C) (some R.rt)∧Lay (kI t (upC C) (yN C) (y:Int) l.rt c) R (some (y:Int))∧xL t (kI t (upC C) (yN C) (y:Int) l.rt c) (fun z=>z∈y::(R.ids++(l.ids++idsC C))):=by
 obtain⟨yn,n1⟩:=List.nodup_cons.1 hn;obtain⟨nR,n2,dR⟩:=List.nodup_append.1 n1;obtain⟨nl,nC,dl⟩:=List.nodup_append.1 n2;have hyl:0≤(y:Int)→((y:Int)).toNat<t.ns.length:=fun _=>hy
 have nF:(idsC (⟨(gn t y).red,y,false,R⟩::C)).Nodup:=by
  refine List.nodup_cons.2 ⟨fun h=>yn ?_,List.nodup_append.2 ⟨nR,nC,fun a ha z hz=>dR a ha z (List.mem_append_right _ hz)⟩⟩;rcases List.mem_append.1 h with h|h
  ·exact List.mem_append_left _ h
  ·exact List.mem_append_right _ (List.mem_append_right _ h)
 have k1:=hang_ctx (f:=⟨(gn t y).red,y,false,R⟩) hC hy hin rfl hk hR nF;have q1:Lay (zM t (upC C) (yN C) (y:Int)) l none:=Lay.congr (zX _ _ _ _) (fun z hz=>kR hC hyl z (fun e=>dl z hz z (zau z e) rfl) (fun e=>yn (by
  have e2:z=y:=by omega
  subst e2;simp[hz]))) hl
 have s1:xL t (zM t (upC C) (yN C) (y:Int)) (fun z=>z∈y::(R.ids++(l.ids++idsC C))):=kQ (vQ hC) hyl (fun z hz=>by simp[zau z hz]) (fun z hz=>by
  have e2:z=y:=by omega
  subst e2;simp)
 unfold kI;simp only at k1;generalize zM t (upC C) (yN C) (y:Int)=t1 at k1 q1 s1⊢;obtain⟨k2,k3⟩:=wQ k1 q1 (fun z hz h=>by
  rcases List.mem_cons.1 h with h|h
  ·have h:z=y:=h;subst h;exact yn (by simp[hz])
  ·rcases List.mem_append.1 h with h|h
   ·exact dR z h z (by simp[hz]) rfl
   ·exact dl z hz z h rfl) nF nl
 have hy1:0≤(y:Int)→((y:Int)).toNat<t1.ns.length:=fun _=>by rw[s1.len];exact hy
 have s2:xL t1 (zM t1 (y:Int) false l.rt) (fun z=>z∈y::(R.ids++(l.ids++idsC C))):=kQ hy1 (jX q1) (fun z hz=>by
  have e2:z=y:=by omega
  subst e2;simp) (fun z hz=>by simp[xW z hz])
 change LayC (zM t1 (y:Int) false l.rt) _ _ at k2;change Lay (zM t1 (y:Int) false l.rt) _ _ at k3;generalize zM t1 (y:Int) false l.rt=t2 at k2 k3 s2⊢;have hy2:0≤(y:Int)→((y:Int)).toNat<t2.ns.length:=fun _=>by rw[s2.len,s1.len];exact hy
 have k4:=jV c k2 nF;have k5:=xE c hy2 k3 (fun z hz e=>yn (by
  have e2:z=y:=by omega
  subst e2;simp[hz]))
 have s3:xL t2 (zG t2 c (y:Int)) (fun z=>z∈y::(R.ids++(l.ids++idsC C))):=y9 c hy2 (fun z hz=>by
  have e2:z=y:=by omega
  subst e2;simp)
 obtain⟨f1,f2⟩:=zah k4 k5;exact⟨f1,f2,(s1.trans s2).trans s3⟩
theorem plug_rt:∀{D:List F}(a b:T),D≠[]→(plug D a).rt=(plug D b).rt
 | [],_,_,h=>absurd rfl h
 | [f],a,b,_=>by show(yL f a).rt=(yL f b).rt;rw[kU,kU]
 | f::g::D,a,b,_=>plug_rt (D:=g::D) (yL f a) (yL f b) (by simp)
theorem zbk {x:Nat}:∀{a:T},x∈a.ids→∃C c l r,a=plug C (B c l x r)
 | E,h=>by cases h
 | B c l y r,h=>by
  rcases List.mem_append.1 h with h|h
  ·obtain⟨C,c',l',r',e⟩:=zbk h;exact⟨C++[⟨c,y,false,r⟩],c',l',r',by rw[vV,←e];rfl⟩
  ·rcases List.mem_cons.1 h with rfl|h
   ·exact⟨[],c,l,r,rfl⟩
   ·obtain⟨C,c',l',r',e⟩:=zbk h;exact⟨C++[⟨c,y,true,l⟩],c',l',r',by rw[vV,←e];rfl⟩
def zav (k:Nat) (goes:Bool) (t:St) (p:Int) (s:Bool):Option St:=if goes=true then some t else qC k t p s
theorem fill_if {N:Nat}{t:St}{X:List F}{a:T}{n:Nat}(goes:Bool) (hlen:X.length≤N) (hC:LayC t X (some a.rt)) (ha:Lay t a (some (upC X))) (hn:(a.ids++idsC X).Nodup) (hc:CB X (if goes=true then n else n+1)) (hra:RB a n) (hg:goes=true→a.red=false∧X≠[]) :
  ∃t',(∀k,N<k→zav k goes t (upC X) (yN X)=some t')∧vS t t' (plug X a).ids (fun z=>z∈a.ids++idsC X):=by
 cases goes with
 | true=>
  obtain⟨h1,h2⟩:=wP.2 ⟨hC,ha⟩;rw[if_pos rfl]at hc;obtain⟨g1,g2⟩:=hg rfl;exact⟨t,fun k hk=>rfl,⟨plug X a,h1,h2,rfl,zbL hc hra (fun _=>g1),zcT hc g2⟩,xL.refl _ _⟩
 | false=>
  rw[if_neg (by simp)]at hc;refine fill_lay N hlen hC ha hn hc ?_;cases hr:a.red with
  | false=>exact Or.inl ⟨rfl,hra⟩
  | true=>exact Or.inr ⟨rfl,RB_black hra hr⟩
def zaA (k:Nat) (t:St) (id:Nat) (up:Int) (at_:Bool) (l:Int) (c:Bool) (y p:Int) (s goes:Bool):Option St:=zav k goes (sn (kI t up at_ y l c) id emp) p s
def delA (k:Nat) (t:St) (id:Nat):Option St:=
 if (gn t id).l<0∨(gn t id).r<0 then zav k (gn t id).red (sn (zM t (gn t id).u (onA t id) (max (gn t id).l (gn t id).r)) id emp) (gn t id).u (onA t id)
 else match kG k t (gn t id).r with
  | none=>none
  | some y=>
   if y=(gn t id).r then zaA k t id (gn t id).u (onA t id) (gn t id).l (gn t id).red y y true (redA t y)
   else zaA k (zM (zM t (upA t y) false (kidA t y true)) y true (gn t id).r) id (gn t id).u (onA t id) (gn t id).l (gn t id).red y (upA t y) false (redA t y)
theorem wN:∀a:T,a.ids.length=a.size
 | E=>rfl
 | B c l x r=>by
  show(l.ids++x::r.ids).length=l.size+r.size+1;rw[List.length_append,List.length_cons,wN l,wN r];omega
structure Taken (t t':St) (id:Nat) (a:T):Prop where
 ex:∃lf rg A,a.ids=lf++id::rg∧Lay t' A (some (-1))∧t'.rt=A.rt∧A.ids=lf++rg∧(∃m,RB A m)∧A.red=false
 len:t'.ns.length=t.ns.length
 gone:gn t' id=emp
 keeps:∀z,z≠id→(gn t' z).v=(gn t z).v∧(z∉a.ids→gn t' z=gn t z)
theorem taken_of {t t1 t':St}{id:Nat}{a b:T}{X:List F}{lf rg:List Nat}(hid:id<t.ns.length) (hs:a.ids=lf++id::rg) (hp:(plug X b).ids=lf++rg) (hn:a.ids.Nodup) (hk:xL t t1 (fun z=>z∈a.ids)) (hm:vS (sn t1 id emp) t' (plug X b).ids (fun z=>z∈b.ids++idsC X)):Taken t t' id a:=by
 have hsub:∀z,z∈b.ids++idsC X→z∈lf++rg:=fun z hz=>by rw[←hp];exact(kD X b).mem_iff.2 hz
 have hnid:id∉lf++rg:=fun h=>by
  rw[hs]at hn;exact(List.nodup_cons.1 (List.perm_middle.nodup_iff.1 hn)).1 h
 have hl1:id<t1.ns.length:=by rw[hk.len];exact hid
 obtain⟨A,g1,g2,g3,g4,g5⟩:=hm.ex;refine⟨⟨lf,rg,A,hs,g1,g2,by rw[g3,hp],g4,g5⟩,by rw[hm.keeps.len,xQ,hk.len],?_,fun z hz=>⟨?_,fun h=>?_⟩⟩
 ·rw[(hm.keeps.at_ id).2 (fun h=>hnid (hsub id h)),wM _ _ _ _ hl1,if_pos rfl]
 ·rw[(hm.keeps.at_ z).1,wM _ _ _ _ hl1,if_neg hz,(hk.at_ z).1]
 ·rw[(hm.keeps.at_ z).2 (fun h2=>h (by
   have:=hsub z h2;rw[hs];rcases List.mem_append.1 this with h|h<;>simp[h])),wM _ _ _ _ hl1,if_neg hz,(hk.at_ z).2 h]
theorem del_lay {t:St}{a:T}{m id:Nat}(hL:Lay t a (some (-1))) (hr:t.rt=a.rt) (hn:a.ids.Nodup) (hm:RB a m) (hb:a.red=false) (hid:id∈a.ids) :
  ∃t',(∀k,t.ns.length<k→delA k t id=some t')∧Taken t t' id a:=by
 obtain⟨C,c,l,r,rfl⟩:=zbk hid;obtain⟨hC,hA⟩:=wP.1 ⟨hL,hr⟩;have hn0:=(kD C (B c l id r)).nodup_iff.1 hn;have hpi:=kD C (B c l id r);have hsz:=xC hn0 (fun x hx=>by
  rcases List.mem_append.1 hx with h|h
  ·exact hA.lt x h
  ·exact hC.lt x h)
 rw[List.length_append]at hsz;have hszC:=zbU C;obtain⟨n,cb,rb,ct,cr⟩:=zbZ hm hb;obtain⟨rc,m0,rl,rr,hm0⟩:=rb;have hwalk:=yT C (B c l id r);have hA2:=hA;obtain⟨h1,h2,h3,h4,h5,h6,h7,h8⟩:=hA2;have h6:=h6 _ rfl;obtain⟨nB,nC,dB⟩:=List.nodup_append.1 hn0;have nB2:(l.ids++id::r.ids).Nodup:=nB;have hidC:id∉idsC C:=fun h=>dB id (by simp[T.ids]) id h rfl
 have hon:onA t id=yN C:=zbF hC h6 hidC;have hcnt:∀z,((B c l id r).ids++idsC C).count z=l.ids.count z+(r.ids.count z+((idsC C).count z+if id==z then 1 else 0)):=fun z=>by
  simp only[T.ids,List.count_append,List.count_cons];omega
 have hmem:∀z,(z∈l.ids∨z=id∨z∈r.ids∨z∈idsC C)→z∈(plug C (B c l id r)).ids:=fun z hz=>hpi.mem_iff.2 (by
  rcases hz with h|h|h|h<;>simp[T.ids,h])
 have one:∀ch:T,(l=E∧ch=r∨r=E∧ch=l)→∃t',(∀k,t.ns.length<k→delA k t id=some t')∧Taken t t' id (plug C (B c l id r)):=fun ch hch=>by
  have hlr:l.rt<0∨r.rt<0:=by
   rcases hch with⟨e,_⟩|⟨e,_⟩
   ·left;rw[e];show(-1:Int)<0;omega
   ·right;rw[e];show(-1:Int)<0;omega
  have hge:∀b:T,-1≤b.rt:=fun b=>by
   rcases zbO b with⟨e,_⟩|⟨_,_,_,_,_,e⟩<;>omega
  have hmx:max l.rt r.rt=ch.rt:=by
   rcases hch with⟨e,e2⟩|⟨e,e2⟩
   ·rw[e,e2];have:=hge r;show max (-1) r.rt=r.rt;omega
   ·rw[e,e2];have:=hge l;show max l.rt (-1)=l.rt;omega
  have hchl:Lay t ch none:=by
   rcases hch with⟨_,e⟩|⟨_,e⟩<;>rw[e]
   ·exact h8.loose
   ·exact h7.loose
  have hids:(B c l id r).ids.Perm (id::ch.ids):=by
   rcases hch with⟨e,e2⟩|⟨e,e2⟩
   ·rw[e,e2];exact List.Perm.refl _
   ·rw[e,e2];show(l.ids++[id]).Perm _;exact List.perm_append_comm
  have hnn:(id::(ch.ids++idsC C)).Nodup:=(hids.append_right _).nodup_iff.1 hn0;obtain⟨i1,i2⟩:=List.nodup_cons.1 hnn;obtain⟨i3,i4,i5⟩:=List.nodup_append.1 i2;have hchm:∀z,z∈ch.ids→z∈(plug C (B c l id r)).ids:=fun z hz=>hpi.mem_iff.2 (List.mem_append_left _ (hids.mem_iff.2 (List.mem_cons_of_mem _ hz)))
  have h0:RB ch 0∧n=if c=true then 0 else 1:=by
   rcases hch with⟨e,e2⟩|⟨e,e2⟩
   ·rw[e]at rl;have:m0=0:=rl;subst this;rw[e2];exact⟨rr,hm0⟩
   ·rw[e]at rr;have:m0=0:=rr;subst this;rw[e2];exact⟨rl,hm0⟩
  obtain⟨k1,k2⟩:=wQ hC.loose hchl (fun z hz h=>i5 z hz z h rfl) i4 i3;have hk:xL t (zM t (upC C) (yN C) ch.rt) (fun z=>z∈(plug C (B c l id r)).ids):=kQ (vQ hC) (jX hchl) (fun z hz=>hmem z (Or.inr (Or.inr (Or.inr (zau z hz))))) (fun z hz=>hchm z (xW z hz));have hun:∀k,delA k t id=zav k c (sn (zM t (upC C) (yN C) ch.rt) id emp) (upC C) (yN C):=fun k=>by
   rw[delA,h4,h5,if_pos hlr,h3,h6,hon,hmx]
  have hl1:id<(zM t (upC C) (yN C) ch.rt).ns.length:=by rw[hk.len];exact h1
  obtain⟨t',e1,e2⟩:=fill_if (N:=t.ns.length) (n:=0) c (by omega) (sn_layC (n:=emp) hl1 k1 hidC) (sn_lay (n:=emp) hl1 k2 (fun h=>i1 (List.mem_append_left _ h))) i2 (by rw[←show n=_ from h0.2];exact cb) h0.1 (fun e=>by
   obtain⟨b1,b2⟩:=rc e;refine⟨?_,fun e2=>?_⟩
   ·rcases hch with⟨_,e2⟩|⟨_,e2⟩<;>rw[e2]
    ·exact b2
    ·exact b1
   ·have:=cr e2;rw[show(B c l id r).red=c from rfl,e]at this;cases this)
  refine⟨t',fun k hk=>by rw[hun];exact e1 k hk,?_⟩;rcases hch with⟨e3,e4⟩|⟨e3,e4⟩
  ·refine taken_of (lf:=jA C) (rg:=r.ids++xX C) h1 ?_ ?_ hn hk e2
   ·rw[hwalk,e3];simp[T.ids]
   ·rw[yT,e4]
  ·refine taken_of (lf:=jA C++l.ids) (rg:=xX C) h1 ?_ ?_ hn hk e2
   ·rw[hwalk,e3];simp[T.ids]
   ·rw[yT,e4];simp
 by_cases hlE:l=E
 ·exact one r (Or.inl ⟨hlE,rfl⟩)
 by_cases hrE:r=E
 ·exact one l (Or.inr ⟨hrE,rfl⟩)
 -- two children
 have hDp:=leftD_plug r [] hrE;have hDs:=leftD_side r [] (fun f hf=>by cases hf);have hlA:∀k,t.ns.length<k→kG k t r.rt=some ((leftD r []).2.2.1:Int):=fun k hk=>leftA_lay r [] _ k hrE (by
  rw[←wN];simp only[T.ids,List.length_append,List.length_cons]at hsz;omega) h8
 change plug (leftD r []).1 (B (leftD r []).2.1 E (leftD r []).2.2.1 (leftD r []).2.2.2)=r at hDp;generalize(leftD r []).1=D at hDp hDs;generalize(leftD r []).2.1=cy at hDp;generalize(leftD r []).2.2.1=y at hDp hlA;generalize(leftD r []).2.2.2=yr at hDp;have hge:∀b:T,b≠E→0≤b.rt:=fun b hb=>by
  rcases zbO b with⟨_,e⟩|⟨_,_,_,_,_,e⟩
  ·exact absurd e hb
  ·omega
 have hun0:∀k,t.ns.length<k→delA k t id=if (y:Int)=r.rt then zaA k t id (upC C) (yN C) l.rt c y y true (redA t y)
   else zaA k (zM (zM t (upA t y) false (kidA t y true)) y true r.rt) id (upC C) (yN C) l.rt c y (upA t y) false (redA t y):=fun k hk=>by
  have a1:=hge l hlE;have a2:=hge r hrE;rw[delA,h4,h5,if_neg (by omega),hlA k hk,h6,h3,hon]
 obtain⟨o1,o2⟩:=zaT (f:=⟨c,id,true,l⟩) (a:=r) hC hA;have o3:LayC t (⟨c,id,true,l⟩::C) (some (plug D (B cy E y yr)).rt)∧Lay t (plug D (B cy E y yr)) (some (upC (⟨c,id,true,l⟩::C))):=by rw[hDp];exact⟨o1,o2⟩
 obtain⟨x1,x2⟩:=zad.1 o3;have hT:plug (D++⟨c,id,true,l⟩::C) (B cy E y yr)=plug C (B c l id r):=by
  rw[vV,hDp];rfl
 obtain⟨n',cb',rb',ct',_⟩:=zbZ (C:=D++⟨c,id,true,l⟩::C) (a:=B cy E y yr) (m:=m) (by rw[hT];exact hm) (by rw[hT];exact hb);obtain⟨rcy,m',rE,ryr,hm'⟩:=rb';have hm'0:m'=0:=rE;subst hm'0;have cbn:=CB_same (y:=y) cb';rw[hm']at cbn;have cbn:CB (D++⟨c,y,true,l⟩::C) (if cy=true then 0 else 0+1):=by simpa using cbn
 obtain⟨y1,y2,y3,y4,y5,y6,_,y8⟩:=x2;have y6:=y6 _ rfl;have hry:redA t (y:Int)=cy:=by
  unfold redA;rw[Int.toNat_natCast,y3,decide_eq_true (show 0≤(y:Int)by omega)]
  rfl
 have hky:kidA t (y:Int) true=yr.rt:=by unfold kidA;rw[Int.toNat_natCast];exact y5
 have hri:r.ids.Perm ((B cy E y yr).ids++idsC D):=by rw[←hDp];exact kD _ _
 have crr:∀z,r.ids.count z=yr.ids.count z+((idsC D).count z+if y==z then 1 else 0):=fun z=>by
  rw[hri.count_eq];simp only[T.ids,List.nil_append,List.count_append,List.count_cons];omega
 have hall:(id::(y::(yr.ids++(idsC D++(l.ids++idsC C))))).Nodup:=by
  refine(wI (fun z=>?_)).nodup_iff.1 hn0;rw[hcnt,crr];simp only[List.count_append,List.count_cons];omega
 obtain⟨j1,j2⟩:=List.nodup_cons.1 hall;obtain⟨j3,j4⟩:=List.nodup_cons.1 j2;obtain⟨j5,j6,j7⟩:=List.nodup_append.1 j4;obtain⟨j8,j9,j10⟩:=List.nodup_append.1 j6;obtain⟨j11,j12,j13⟩:=List.nodup_append.1 j9;have hXi:idsC (D++⟨c,y,true,l⟩::C)=idsC D++(y::(l.ids++idsC C)):=zbX _ _;have hmy:y∈r.ids:=hri.mem_iff.2 (by simp[T.ids]);have hmyr:∀z,z∈yr.ids→z∈r.ids:=fun z hz=>hri.mem_iff.2 (by simp[T.ids,hz])
 have hmD:∀z,z∈idsC D→z∈r.ids:=fun z hz=>hri.mem_iff.2 (by simp[hz])
 have fin:∀(t3:St) (hk:xL t t3 (fun z=>z∈(plug C (B c l id r)).ids)) (hC3:LayC t3 (D++⟨c,y,true,l⟩::C) (some yr.rt)) (hL3:Lay t3 yr (some (upC (D++⟨c,y,true,l⟩::C)))),
   ∃t',(∀k,t.ns.length<k→zav k cy (sn t3 id emp) (upC (D++⟨c,y,true,l⟩::C)) (yN (D++⟨c,y,true,l⟩::C))=some t')∧Taken t t' id (plug C (B c l id r)):=fun t3 hk hC3 hL3=>by
  have hl3:id<t3.ns.length:=by rw[hk.len];exact h1
  have hidX:id∉idsC (D++⟨c,y,true,l⟩::C):=fun h=>j1 (by
   rw[hXi]at h;simp only[List.mem_append,List.mem_cons]at h⊢;rcases h with h|h|h|h<;>simp[h])
  have hidy:id∉yr.ids:=fun h=>j1 (by simp[h])
  have hnX:(yr.ids++idsC (D++⟨c,y,true,l⟩::C)).Nodup:=by
   rw[hXi];refine(wI (fun z=>?_)).nodup_iff.1 j2;simp only[List.count_append,List.count_cons];omega
  have hXl:(D++⟨c,y,true,l⟩::C).length≤t.ns.length:=by
   refine Nat.le_trans (zbU _) (xC (List.nodup_append.1 hnX).2.1 (fun x hx=>?_));have:=hC3.lt x hx;rw[hk.len]at this;exact this
  obtain⟨t',e1,e2⟩:=fill_if (N:=t.ns.length) (n:=0) cy hXl (sn_layC (n:=emp) hl3 hC3 hidX) (sn_lay (n:=emp) hl3 hL3 hidy) hnX cbn ryr (fun e=>⟨(rcy e).2,by simp⟩);refine⟨t',e1,taken_of (lf:=jA C++l.ids) (rg:=y::(yr.ids++(xX D++xX C))) h1 ?_ ?_ hn hk e2⟩
  ·rw[hwalk,←hDp];show jA C++((l.ids++id::(plug D (B cy E y yr)).ids)++xX C)=_;rw[yT,zbA hDs];simp[T.ids]
  ·rw[vV];show(plug C (B c l y (plug D yr))).ids=_;rw[yT];show jA C++((l.ids++y::(plug D yr).ids)++xX C)=_;rw[yT,zbA hDs];simp
 by_cases hD:D=[]
 ·subst hD;have hre:r.rt=(y:Int):=by rw[←hDp];rfl
  obtain⟨p1,p2,p3⟩:=place_lay (C:=C) (y:=y) (c:=c) (l:=l) (R:=yr) hC.loose y1 y2 hky y8 h7.loose (by
   refine(wI (fun z=>?_)).nodup_iff.1 j2;simp only[idsC,List.nil_append,List.count_append,List.count_cons])
  obtain⟨t',e1,e2⟩:=fin _ (p3.mono (fun z hz=>by
   simp only[List.mem_append,List.mem_cons]at hz;rcases hz with h|h|h|h
   ·exact hmem z (Or.inr (Or.inr (Or.inl (by rw[h];exact hmy))))
   ·exact hmem z (Or.inr (Or.inr (Or.inl (hmyr z h))))
   ·exact hmem z (Or.inl h)
   ·exact hmem z (Or.inr (Or.inr (Or.inr h))))) p1 p2
  refine⟨t',fun k hk=>?_,e2⟩;rw[hun0 k hk,if_pos hre.symm,hry];exact e1 k hk
 have hRrt:(plug D yr).rt=r.rt:=by rw[←hDp];exact plug_rt _ _ hD
 have hRi:(plug D yr).ids.Perm (yr.ids++idsC D):=kD _ _;have hyR:y∉(plug D yr).ids:=fun h=>j3 (by
  have:=hRi.mem_iff.1 h;simp only[List.mem_append]at this⊢;rcases this with h|h<;>simp[h])
 have hyr:(y:Int)≠r.rt:=fun e=>hyR (xW y (by rw[e,hRrt]))
 obtain⟨g,D',rfl⟩:∃g D',D=g::D':=by
  cases D with
  | nil=>exact absurd rfl hD
  | cons g D'=>exact⟨g,D',rfl⟩
 have hgs:g.s=false:=hDs g List.mem_cons_self;have hup:upA t (y:Int)=(g.x:Int):=by unfold upA;rw[Int.toNat_natCast];exact y6
 -- first
 have nX0:(idsC ((g::D')++⟨c,id,true,l⟩::C)).Nodup:=by
  rw[zbX];refine(wI (fun z=>?_)).nodup_iff.1 (show(id::(idsC (g::D')++(l.ids++idsC C))).Nodup from List.nodup_cons.2 ⟨fun h=>j1 (by
   simp only[List.mem_append,List.mem_cons]at h⊢;rcases h with h|h|h<;>simp[h]),j6⟩)
  simp only[idsC,List.count_append,List.count_cons];omega
 obtain⟨k1,k2⟩:=wQ (C:=(g::D')++⟨c,id,true,l⟩::C) (a:=yr) x1.loose y8.loose (fun z hz h=>by
  rw[zbX]at h;rcases List.mem_append.1 h with h|h
  ·exact j7 z hz z (List.mem_append_left _ h) rfl
  ·rcases List.mem_cons.1 h with h|h
   ·have h:z=id:=h;subst h;exact j1 (by simp[hz])
   ·exact j7 z hz z (List.mem_append_right _ h) rfl) nX0 j5
 have hup0:upC ((g::D')++⟨c,id,true,l⟩::C)=(g.x:Int):=rfl;have hsd0:yN ((g::D')++⟨c,id,true,l⟩::C)=false:=hgs;rw[hup0,hsd0]at k1;rw[hup0,hsd0]at k2;have hgl:0≤(g.x:Int)→((g.x:Int)).toNat<t.ns.length:=fun _=>x1.1
 have s1:xL t (zM t (g.x:Int) false yr.rt) (fun z=>z∈(plug C (B c l id r)).ids):=kQ hgl (jX y8.loose) (fun z hz=>hmem z (Or.inr (Or.inr (Or.inl (hmD z (by
  have e2:z=g.x:=by omega
  subst e2;simp[idsC])))))) (fun z hz=>hmem z (Or.inr (Or.inr (Or.inl (hmyr z (xW z hz))))))
 have gy:gn (zM t (g.x:Int) false yr.rt) y=gn t y:=by
  have:=kR (s:=false) x1 (jX y8.loose) y (fun e=>j3 (by
   have e1:(y:Int)=(g.x:Int):=e;have e2:y=g.x:=by omega
   subst e2;simp[idsC])) (fun e=>j3 (by simp[xW y e]))
  exact this
 have hunt:∀k,t.ns.length<k→delA k t id=zaA k (zM (zM t (g.x:Int) false yr.rt) y true r.rt) id (upC C) (yN C) l.rt c y (g.x:Int) false cy:=fun k hk=>by
  rw[hun0 k hk,if_neg hyr,hry,hky,hup]
 generalize zM t (g.x:Int) false yr.rt=t1 at k1 k2 s1 gy hunt;obtain⟨q1,q2⟩:=zad (C:=⟨c,id,true,l⟩::C) (D:=g::D') |>.2 ⟨k1,k2⟩
 obtain⟨u1,u2,u3,u4,u5,u6,u7,u8⟩:=q1;simp only at u7 u8
 -- second
 have hyl:0≤(y:Int)→((y:Int)).toNat<t1.ns.length:=fun _=>by rw[s1.len];exact y1
 have hRl:=jX q2.loose;have hnR:(plug (g::D') yr).ids.Nodup:=hRi.nodup_iff.2 (List.nodup_append.2 ⟨j5,j8,fun a ha z hz=>j7 a ha z (List.mem_append_left _ hz)⟩);have v1:=hang_sub (s:=true) hyl q2.loose (fun z hz e=>hyR (by
  have e2:z=y:=by omega
  subst e2;exact hz)) hnR
 have hkeep:∀z:Nat,z≠y→z∉(plug (g::D') yr).ids→gn (zM t1 (y:Int) true (plug (g::D') yr).rt) z=gn t1 z:=fun z a1 a2=>by
  rw[kS true hyl hRl,if_neg (fun h=>a2 (xW z (by omega))),jK _ _ hyl,if_neg (by omega)]
 have gy2:gn (zM t1 (y:Int) true (plug (g::D') yr).rt) y=vD (gn t1 y) true (plug (g::D') yr).rt:=by
  rw[kS true hyl hRl,if_neg (fun h=>hyR (xW y (by omega))),jK _ _ hyl,if_pos ⟨by omega,by omega⟩]
 have s2:xL t1 (zM t1 (y:Int) true (plug (g::D') yr).rt) (fun z=>z∈(plug C (B c l id r)).ids):=kQ hyl hRl (fun z hz=>hmem z (Or.inr (Or.inr (Or.inl (by
  have e2:z=y:=by omega
  subst e2;exact hmy))))) (fun z hz=>hmem z (Or.inr (Or.inr (Or.inl (by
  have:=hRi.mem_iff.1 (xW z hz);rcases List.mem_append.1 this with h|h
  ·exact hmyr z h
  ·exact hmD z h)))))
 have l2:=zX t1 (y:Int) true (plug (g::D') yr).rt;have hzR:∀z,z∈l.ids∨z∈idsC C→z∉(plug (g::D') yr).ids:=fun z hz h=>by
  have hz2:z∈l.ids++idsC C:=List.mem_append.2 hz;rcases List.mem_append.1 (hRi.mem_iff.1 h)with h|h
  ·exact j7 z h z (List.mem_append_right _ hz2) rfl
  ·exact j10 z h z hz2 rfl
 have hzy:∀z,z∈l.ids∨z∈idsC C→z≠y:=fun z hz e=>by
  have hz2:z∈l.ids++idsC C:=List.mem_append.2 hz;subst e;exact j3 (List.mem_append_right _ (List.mem_append_right _ hz2))
 have hrt2:(zM t1 (y:Int) true (plug (g::D') yr).rt).rt=t1.rt:=by rw[hang_rt,if_neg (by omega)]
 have w1:LayC (zM t1 (y:Int) true (plug (g::D') yr).rt) C none:=LayC.congr l2 hrt2 (fun z hz=>hkeep z (hzy z (Or.inr hz)) (hzR z (Or.inr hz))) u8.loose;have w2:Lay (zM t1 (y:Int) true (plug (g::D') yr).rt) l none:=Lay.congr l2 (fun z hz=>hkeep z (hzy z (Or.inl hz)) (hzR z (Or.inl hz))) u7.loose;rw[←hRrt]at hunt;generalize zM t1 (y:Int) true (plug (g::D') yr).rt=t2 at v1 gy2 s2 w1 w2 l2 hunt;obtain⟨p1,p2,p3⟩:=place_lay (C:=C) (y:=y) (c:=c) (l:=l) (R:=plug (g::D') yr) w1 (by rw[l2,s1.len];exact y1) (by rw[gy2,gy];exact y2) (by
  unfold kidA;rw[Int.toNat_natCast,gy2];rfl) v1 w2 (by
  refine(wI (fun z=>?_)).nodup_iff.1 j2;simp only[List.count_append,List.count_cons,hRi.count_eq];omega)
 have hunt2:∀k,t.ns.length<k→delA k t id=zav k cy (sn (kI t2 (upC C) (yN C) (y:Int) l.rt c) id emp) (g.x:Int) false:=hunt;generalize kI t2 (upC C) (yN C) (y:Int) l.rt c=t3 at p1 p2 p3 hunt2;obtain⟨z1,z2⟩:=zad (C:=⟨c,y,true,l⟩::C) (D:=g::D') |>.1 ⟨p1,p2⟩
 obtain⟨t',e1,e2⟩:=fin t3 ((s1.trans s2).trans (p3.mono (fun z hz=>by
  simp only[List.mem_append,List.mem_cons]at hz;rcases hz with h|h|h|h
  ·exact hmem z (Or.inr (Or.inr (Or.inl (by rw[h];exact hmy))))
  ·rcases List.mem_append.1 (hRi.mem_iff.1 h)with h|h
   ·exact hmem z (Or.inr (Or.inr (Or.inl (hmyr z h))))
   ·exact hmem z (Or.inr (Or.inr (Or.inl (hmD z h))))
  ·exact hmem z (Or.inl h)
  ·exact hmem z (Or.inr (Or.inr (Or.inr h)))))) z1 z2
 refine⟨t',fun k hk=>?_,e2⟩;rw[hunt2 k hk];have:=e1 k hk;rw[show yN ((g::D')++⟨c,y,true,l⟩::C)=false from hgs]at this;exact this
end Go.Proofs.YtnkhnnojdlgfjaaGreatDoor.Tr
