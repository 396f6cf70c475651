/- Parts of the proof, joined: Qp, Qp2, Keys. -/
import Derived.Test.YtnkhnnojdlgfjaaGreatDoorUI14
import Derived.Below
set_option linter.unusedVariables false
set_option linter.unusedSimpArgs false
section
namespace Go.Proofs.YtnkhnnojdlgfjaaGreatDoor.Qu
open RowKit Tr Tk Tm
structure QJ (n:Nat) (q:Q) (L:List K):Prop where
 tr:J q.mn n q.t L
 len:q.ws.length=n
 c1:-1≤q.cur
 c2:q.cur<n
 v0:q.cur=-1→q.v=0
 o:q.cur≠-1→inA q.t q.cur=false
 wt:∀i,i<n→okI q i=true
 sum:sumA q.ws 0=q.load
 near:∀k∈yH q,farA q.mn k=false
theorem QJ.right {n:Nat}{q:Q}{L:List K}(h:QJ n q L):zP q=true:=by
 have hl:=h.tr.len;unfold zP okT okC okW;simp only[Bool.and_eq_true,decide_eq_true_eq,beq_iff_eq,Bool.not_eq_true',List.all_eq_true,List.mem_range];refine⟨⟨by rw[h.len,hl],h.c1,by rw[hl];exact h.c2,h.tr.right⟩,?_,?_,h.sum,?_⟩
 ·by_cases c:q.cur=-1
  ·rw[if_pos c];simp[h.v0 c]
  ·rw[if_neg c];simp[h.o c]
 ·intro i hi;exact h.wt i (by rw[←h.len];exact hi)
 ·rw[List.any_eq_false];intro k hk;simp[h.near k hk]
theorem qA {q:Q}(h:zP q=true):∃L,QJ q.t.ns.length q L:=by
 unfold zP okT okC okW at h;simp only[Bool.and_eq_true,decide_eq_true_eq,beq_iff_eq,Bool.not_eq_true',List.all_eq_true,List.mem_range]at h;obtain⟨⟨h1,h2,h3,h4⟩,h5,h6,h7,h8⟩:=h;obtain⟨a,ha,hs⟩:=wO h4;refine⟨_,⟨⟨a,ha,rfl⟩,hs,rfl⟩,h1,h2,h3,?_,?_,fun i hi=>h6 i (by rw[h1];exact hi),h7,?_⟩
 ·intro c;rw[if_pos c]at h5
  simpa using h5
 ·intro c;rw[if_neg c]at h5
  simpa using h5
 ·intro k hk;rw[List.any_eq_false]at h8
  simpa using h8 k hk
theorem J.mem {mn:Int}{n:Nat}{t:St}{L:List K}(h:J mn n t L) {id:Int}(h0:0≤id):(∃x∈L,x.2=id)↔inA t id=true:=by
 obtain⟨a,h1,rfl⟩:=h.ex;exact mem_keys h1.whole h0
theorem J.rng {mn:Int}{n:Nat}{t:St}{L:List K}(h:J mn n t L) {x:K}(hx:x∈L):0≤x.2∧x.2<n:=by
 obtain⟨a,h1,rfl⟩:=h.ex;obtain⟨z,hz,rfl⟩:=List.mem_map.1 hx;have:=h1.whole.lay.lt z hz;have hl:=h.len;exact⟨Int.natCast_nonneg _,by show(z:Int)<n;omega⟩
theorem J.re {mn mn':Int}{n:Nat}{t:St}{L:List K}(h:J mn n t L) (k:SS mn' L):J mn' n t L:=⟨h.ex,k,h.len⟩
theorem sorted_perm {mn:Int}:∀{a b:List K},SS mn a→SS mn b→a.Perm b→a=b
 | [],b,_,_,h=>(h.symm.eq_nil).symm
 | x::s,[],_,_,h=>absurd h.eq_nil (by simp)
 | x::s,y::t,ha,hb,h=>by
  have e:x=y:=by
   rcases List.mem_cons.1 (h.subset List.mem_cons_self)with e|hx
   ·exact e
   ·rcases List.mem_cons.1 (h.symm.subset List.mem_cons_self)with e|hy
    ·exact e.symm
    ·exact absurd ((List.pairwise_cons.1 ha.pw).1 y hy) (lt_asymm ((List.pairwise_cons.1 hb.pw).1 x hx))
  subst e;rw[sorted_perm ⟨(List.pairwise_cons.1 ha.pw).2,(List.pairwise_cons.1 ha.nd).2⟩ ⟨(List.pairwise_cons.1 hb.pw).2,(List.pairwise_cons.1 hb.nd).2⟩ ((List.perm_cons x).1 h)]
theorem vL {mn:Int}{L:List K}{k x:K}:x∈ins mn L k↔x=k∨x∈L:=by
 rw[(kZ mn k L).mem_iff,List.mem_cons]
theorem qO {n:Nat}{q:Q}{L:List K}(h:J q.mn n q.t L):yH q=if q.cur=-1 then L else ins q.mn L (q.v,q.cur):=by
 unfold yH;rw[h.walk]
theorem noCur {n:Nat}{q:Q}{L:List K}(h:J q.mn n q.t L) (h0:0≤q.cur) (ho:inA q.t q.cur=false):∀x∈L,x.2≠q.cur:=fun x hx e=>by
 have:=(J.mem h h0).1 ⟨x,hx,e⟩;rw[ho]at this;cases this
theorem QJ.no {n:Nat}{q:Q}{L:List K}(h:QJ n q L) (hc:q.cur≠-1):∀x∈L,x.2≠q.cur:=noCur h.tr (by have:=h.c1;omega) (h.o hc)
theorem QJ.ss {n:Nat}{q:Q}{L:List K}(h:QJ n q L):SS q.mn (yH q):=by
 rw[qO h.tr];by_cases c:q.cur=-1
 ·rw[if_pos c];exact h.tr.ss
 rw[if_neg c];exact ins_SS h.tr.ss (h.no c)
theorem QJ.here {n:Nat}{q:Q}{L:List K}(h:QJ n q L) {id:Int}(h0:0≤id):yV q id=true↔q.cur=id∨∃x∈L,x.2=id:=by
 unfold yV;rw[Bool.or_eq_true,beq_iff_eq,J.mem h.tr h0]
theorem QJ.keys_mem {n:Nat}{q:Q}{L:List K}(h:QJ n q L) {id:Int}(h0:0≤id):yV q id=true↔∃x∈yH q,x.2=id:=by
 rw[h.here h0,qO h.tr];by_cases c:q.cur=-1
 ·rw[if_pos c];constructor
  ·rintro(e|e)
   ·omega
   ·exact e
  ·exact Or.inr
 rw[if_neg c];constructor
 ·rintro(rfl|⟨x,hx,e⟩)
  ·exact⟨_,vL.2 (Or.inl rfl),rfl⟩
  ·exact⟨x,vL.2 (Or.inr hx),e⟩
 ·rintro⟨x,hx,e⟩;rcases vL.1 hx with rfl|hx
  ·exact Or.inl e
  ·exact Or.inr ⟨x,hx,e⟩
theorem okAt_iff {q:Q}{i:Nat}:okI q i=true↔yV q (i:Int)=yF (q.ws.getD i 0)∧(yV q (i:Int)=true∨q.ws.getD i 0=0):=by
 unfold okI;simp only[Bool.and_eq_true,beq_iff_eq,Bool.or_eq_true]
theorem w64u (x:Int):IntKind.u64.wrap x=x%18446744073709551616:=w64 x
theorem wr64 (x:Int):wrap64 x=(x+9223372036854775808)%18446744073709551616-9223372036854775808:=by
 unfold wrap64
 rfl
theorem lag_eq (mn v:Int):lagf mn v=(v-mn+9223372036854775808)%18446744073709551616-9223372036854775808:=by
 unfold lagf;rw[wr64,w64u];omega
theorem zbI {mn:Int}{k:K}:farA mn k=false↔-1125899906842624≤lagf mn k.1∧lagf mn k.1≤1125899906842624:=by
 unfold farA;simp only[Bool.or_eq_false_iff,decide_eq_false_iff_not];omega
theorem later_lag {mn v x:Int}(h1:-1125899906842624≤lagf mn v) (h2:lagf mn v≤1125899906842624) (h3:-1125899906842624≤lagf mn x) (h4:lagf mn x≤1125899906842624) :
  lagf (xB mn v) x=if 0<lagf mn v then lagf mn x-lagf mn v else lagf mn x:=by
 unfold xB zcO;simp only[Bool.and_eq_true,bne_iff_ne,decide_eq_true_eq,w64u];rw[lag_eq]at h1 h2 h3 h4;split<;>split<;>simp only[lag_eq]at *<;>omega
structure Nr (mn v:Int) (l:List K):Prop where
 v1:-1125899906842624≤lagf mn v
 v2:lagf mn v≤1125899906842624
 al:∀x∈l,lagf mn v≤lagf mn x.1∧lagf mn x.1≤1125899906842624
theorem Nr.lag {mn v:Int}{l:List K}(h:Nr mn v l) {x:K}(hx:x∈l):lagf (xB mn v) x.1=if 0<lagf mn v then lagf mn x.1-lagf mn v else lagf mn x.1:=
 later_lag h.v1 h.v2 (by have:=h.al x hx;have:=h.v1;omega) (h.al x hx).2
theorem Nr.cv {mn v:Int}{l:List K}(h:Nr mn v l) {x y:K}(hx:x∈l) (hy:y∈l):cvf (xB mn v) x y<0↔cvf mn x y<0:=by
 rw[cv_lt,cv_lt,h.lag hx,h.lag hy];split<;>omega
theorem Nr.far {mn v:Int}{l:List K}(h:Nr mn v l) {x:K}(hx:x∈l):farA (xB mn v) x=false:=by
 rw[zbI,h.lag hx];have:=h.al x hx;have:=h.v1;have:=h.v2;split<;>omega
theorem pw_re {P R:K→K→Prop}:∀{l:List K},(∀x∈l,∀y∈l,P x y→R x y)→l.Pairwise P→l.Pairwise R
 | [],_,_=>.nil
 | x::t,h,k=>by
  rw[List.pairwise_cons]at k⊢;exact⟨fun y hy=>h x List.mem_cons_self y (List.mem_cons_of_mem _ hy) (k.1 y hy),pw_re (fun a ha b hb=>h a (List.mem_cons_of_mem _ ha) b (List.mem_cons_of_mem _ hb)) k.2⟩
theorem Nr.ss {mn v:Int}{l:List K}(h:Nr mn v l) (s:SS mn l):SS (xB mn v) l:=⟨pw_re (fun x hx y hy k=>(h.cv hx hy).2 k) s.pw,s.nd⟩
theorem Nr.ins {mn v:Int}{l:List K}{k:K}(h:Nr mn v (k::l)):∀{L:List K},(∀x∈L,x∈l)→ins (xB mn v) L k=ins mn L k
 | [],_=>by rw[zaD,zaD]
 | x::t,hL=>by
  rw[jJ,jJ,Nr.ins h (fun y hy=>hL y (List.mem_cons_of_mem _ hy))];have e:=h.cv (x:=k) (y:=x) List.mem_cons_self (List.mem_cons_of_mem _ (hL x List.mem_cons_self));by_cases c:cvf mn k x<0
  ·rw[if_pos c,if_pos (e.2 c)]
  ·rw[if_neg c,if_neg (fun d=>c (e.1 d))]
theorem nr_first {mn:Int}{k:K}{R:List K}(s:SS mn (k::R)) (h:∀x∈k::R,farA mn x=false):Nr mn k.1 (k::R):=by
 have hk:=zbI.1 (h k List.mem_cons_self);refine⟨hk.1,hk.2,fun x hx=>?_⟩;have hx2:=zbI.1 (h x hx);refine⟨?_,hx2.2⟩;rcases List.mem_cons.1 hx with rfl|hx
 ·exact Int.le_refl _
 ·have:=(List.pairwise_cons.1 s.pw).1 x hx;rw[cv_lt]at this;omega
theorem up_QJ {n:Nat}{q:Q}{L:List K}(h:QJ n q L):QJ n (upA q) L∧yH (upA q)=yH q∧upA q={ q with mn:=(upA q).mn }∧∀k R,yH q=k::R→(upA q).mn=xB q.mn k.1∧Nr q.mn k.1 (k::R):=by
 have hk:=qO h.tr;have hs:=h.ss;have hn:=h.near;cases hK:yH q with
 | nil=>
  have e:upA q=q:=by unfold upA;rw[hK]
  rw[e];exact⟨h,hK,rfl,fun k R e=>by cases e⟩
 | cons k R=>
  have e:upA q={ q with mn:=xB q.mn k.1 }:=by unfold upA;rw[hK]
  rw[hK]at hs hn hk;have hN:=nr_first hs hn;have hsub:∀x∈L,x∈k::R:=fun x hx=>by
   rw[hk];split
   ·exact hx
   ·exact vL.2 (Or.inr hx)
  have hJ:J (xB q.mn k.1) n q.t L:=J.re h.tr (by
   have hN2:Nr q.mn k.1 L:=⟨hN.v1,hN.v2,fun x hx=>hN.al x (hsub x hx)⟩;exact hN2.ss h.tr.ss)
  have hkk:yH { q with mn:=xB q.mn k.1 }=k::R:=by
   rw[qO (q:={ q with mn:=xB q.mn k.1 }) hJ,hk];show(if q.cur=-1 then L else _)=_;by_cases c:q.cur=-1
   ·rw[if_pos c,if_pos c]
   rw[if_neg c,if_neg c];rw[if_neg c]at hk;have hN3:Nr q.mn k.1 ((q.v,q.cur)::L):=⟨hN.v1,hN.v2,fun x hx=>hN.al x (by
    rcases List.mem_cons.1 hx with rfl|hx
    ·rw[hk];exact vL.2 (Or.inl rfl)
    ·exact hsub x hx)⟩
   exact hN3.ins (fun x hx=>hx)
  rw[e];refine⟨⟨hJ,h.len,h.c1,h.c2,h.v0,h.o,h.wt,h.sum,fun x hx=>?_⟩,hkk,rfl,fun k' R' e=>?_⟩
  ·rw[hkk]at hx;exact hN.far hx
  ·obtain⟨rfl,rfl⟩:=List.cons.inj e;exact⟨rfl,hN⟩
theorem w0:wrap64 0=0:=by rw[wr64];rfl
theorem bool_ext {a b:Bool}(h:a=true↔b=true):a=b:=by
 cases a<;>cases b<;>simp_all
theorem ins_front {mn:Int}{k:K}{R:List K}(h:∀x∈R,cvf mn k x<0):ins mn R k=k::R:=by
 cases R with
 | nil=>exact zaD _ _
 | cons x t=>rw[jJ,if_pos (h x List.mem_cons_self)]
theorem back_QJ {n:Nat}{q:Q}{L:List K}(h:QJ n q L):∃t',kX q=some { q with t:=t',cur:=-1,v:=0 }∧J q.mn n t' (yH q):=by
 unfold kX;rw[qO h.tr];by_cases c:q.cur=-1
 ·rw[if_pos c,if_pos c];refine⟨q.t,?_,h.tr⟩;have hv:=h.v0 c;cases q;simp only at c hv;subst c hv
  rfl
 rw[if_neg c,if_neg c];have h0:0≤q.cur:=by have:=h.c1;omega
 rcases ins_J (k:=(q.v,q.cur)) h.tr h0 h.c2 with⟨t',e1,e2,e3⟩|⟨r,e1,e2,x,hx,e⟩
 ·rw[e1];exact⟨t',rfl,e2⟩
 ·exact absurd e (h.no c x hx)
theorem keys_rng {n:Nat}{q:Q}{L:List K}(h:QJ n q L) {x:K}(hx:x∈yH q):0≤x.2∧x.2<n:=by
 rw[qO h.tr]at hx;by_cases c:q.cur=-1
 ·rw[if_pos c]at hx;exact J.rng h.tr hx
 rw[if_neg c]at hx;rcases vL.1 hx with rfl|hx
 ·exact⟨by have:=h.c1;show 0≤q.cur;omega,h.c2⟩
 ·exact J.rng h.tr hx
theorem pick_QJ {n:Nat}{q:Q}{L:List K}(h:QJ n q L) {k:K}{R:List K}(hK:yH q=k::R) :
  ∃q',vJ q=some (q',k.2,0)∧QJ n q' R∧q'.cur=k.2∧q'.v=k.1∧q'.mn=xB q.mn k.1∧q'.ws=q.ws∧q'.load=q.load∧yH q'=k::R∧Nr q.mn k.1 (k::R)
  ∧∃t1 t2,kX q=some { q with t:=t1,cur:=-1,v:=0 }∧J q.mn n t1 (k::R)∧delF t1 q.mn k.2=some (t2,0)∧J q.mn n t2 R∧QJ n { q with t:=t2,cur:=k.2,v:=k.1 } R∧q'=upA { q with t:=t2,cur:=k.2,v:=k.1 }:=by
 obtain⟨t1,b1,b2⟩:=back_QJ h;have hr:=keys_rng h (x:=k) (by rw[hK];exact List.mem_cons_self);have hs:=h.ss;have hn:=h.near;rw[hK]at b2 hs hn;have hfr:∀x∈R,cvf q.mn k x<0:=(List.pairwise_cons.1 hs.pw).1;have hne:∀x∈R,x.2≠k.2:=fun x hx e=>(List.pairwise_cons.1 hs.nd).1 x hx e.symm
 rcases del_J (id:=k.2) b2 hr.1 hr.2 with⟨t2,e1,e2,_⟩|⟨r,e1,e2,e3⟩
 ·rw[zbY,if_pos rfl]at e2;have hkk:yH { q with t:=t2,cur:=k.2,v:=k.1 }=k::R:=by
   rw[qO (q:={ q with t:=t2,cur:=k.2,v:=k.1 }) e2];show(if k.2=-1 then R else ins q.mn R (k.1,k.2))=_;rw[if_neg (by omega)];exact ins_front hfr
  have hq:QJ n { q with t:=t2,cur:=k.2,v:=k.1 } R:=by
   refine⟨e2,h.len,by show -1≤k.2;omega,hr.2,fun c=>?_,fun c=>?_,fun i hi=>?_,h.sum,by rw[hkk];exact hn⟩
   ·have:k.2=-1:=c;omega
   ·show inA t2 k.2=false;refine Bool.eq_false_iff.2 fun e=>?_
    obtain⟨x,hx,e⟩:=(J.mem e2 hr.1).2 e;exact hne x hx e
   ·have e:yV { q with t:=t2,cur:=k.2,v:=k.1 } (i:Int)=yV q (i:Int):=bool_ext (by
     rw[h.keys_mem (Int.natCast_nonneg i),hK];unfold yV;rw[Bool.or_eq_true,←J.mem e2 (Int.natCast_nonneg i),beq_iff_eq];show k.2=(i:Int)∨_↔_;constructor
     ·rintro(e|⟨x,hx,e⟩)
      ·exact⟨k,List.mem_cons_self,e⟩
      ·exact⟨x,List.mem_cons_of_mem _ hx,e⟩
     ·rintro⟨x,hx,e⟩;rcases List.mem_cons.1 hx with rfl|hx
      ·exact Or.inl e
      ·exact Or.inr ⟨x,hx,e⟩)
    have:=okAt_iff.1 (h.wt i hi);refine okAt_iff.2 ?_;rw[e];exact this
  obtain⟨u1,u2,u3,u4⟩:=up_QJ hq;obtain⟨u5,u6⟩:=u4 k R hkk;refine⟨upA { q with t:=t2,cur:=k.2,v:=k.1 },?_,u1,by rw[u3],by rw[u3],u5,by rw[u3],by rw[u3],u2.trans hkk,u6,t1,t2,b1,b2,e1,e2,hq,rfl⟩;unfold vJ;rw[if_neg (by rw[h.right];simp),if_neg (by rw[hK];simp),b1];show Option.map _ (delF t1 q.mn (vR (yA t1)).2)=_;rw[b2.walk];show Option.map _ (delF t1 q.mn k.2)=_;rw[e1]
  rfl
 ·exact absurd rfl (e3 k List.mem_cons_self)
end Go.Proofs.YtnkhnnojdlgfjaaGreatDoor.Qu
end
section
namespace Go.Proofs.YtnkhnnojdlgfjaaGreatDoor.Qu
open RowKit Tr Tk Tm
theorem QJ.known {n:Nat}{q:Q}{L:List K}(h:QJ n q L) {id:Int}:yG q id=true↔0≤id∧id<n:=by
 unfold yG;rw[Bool.and_eq_true,decide_eq_true_iff,decide_eq_true_iff,h.len]
theorem zbt {w:Int}:yF w=true↔1≤w∧w≤88761:=by
 unfold yF;rw[Bool.and_eq_true,decide_eq_true_iff,decide_eq_true_iff]
theorem QJ.weight {n:Nat}{q:Q}{L:List K}(h:QJ n q L) {id:Int}(h0:0≤id) (h1:id<n) (hh:yV q id=true):yF (q.ws.getD id.toNat 0)=true:=by
 have:=(okAt_iff.1 (h.wt id.toNat (by omega))).1;rw[show((id.toNat:Nat):Int)=id by omega,hh]at this;exact this.symm
theorem QJ.hereCur {n:Nat}{q:Q}{L:List K}(h:QJ n q L) (hc:q.cur≠-1):yV q q.cur=true:=by
 have:=h.c1;exact(h.here (by omega)).2 (Or.inl rfl)
theorem delta_in {d w:Int}(h0:0≤d) (hw:1≤w):0≤jE d w∧jE d w≤281474976710656:=by
 unfold jE;have:0≤d*1024 / w:=Int.ediv_nonneg (by omega) (by omega);split<;>omega
theorem step_lag {v mn d:Int}(h0:0≤d) (h1:d≤281474976710656) (h2:-1125899906842624≤lagf mn v) (h3:lagf mn v≤1125899906842624) :
  lagf mn (vX v mn d)=if lagf mn v+d≤1125899906842624 then lagf mn v+d else 1125899906842624:=by
 unfold vX;simp only[w64u];rw[lag_eq]at h2 h3;simp only[lag_eq];split
 ·split<;>omega
 ·split<;>split<;>omega
theorem ran_QJ {n:Nat}{q:Q}{L:List K}(h:QJ n q L) (hc:q.cur≠-1) {v:Int}(hv:-1125899906842624≤lagf q.mn v∧lagf q.mn v≤1125899906842624):QJ n { q with v:=v } L∧yH { q with v:=v }=ins q.mn L (v,q.cur):=by
 have hk:yH { q with v:=v }=ins q.mn L (v,q.cur):=by
  rw[qO (q:={ q with v:=v }) h.tr];exact if_neg hc
 refine⟨⟨h.tr,h.len,h.c1,h.c2,fun c=>absurd c hc,h.o,h.wt,h.sum,fun k hk2=>?_⟩,hk⟩;rw[hk]at hk2;rcases vL.1 hk2 with rfl|hk2
 ·exact zbI.2 hv
 ·refine h.near k ?_;rw[qO h.tr,if_neg hc];exact vL.2 (Or.inr hk2)
theorem cur_near {n:Nat}{q:Q}{L:List K}(h:QJ n q L) (hc:q.cur≠-1):-1125899906842624≤lagf q.mn q.v∧lagf q.mn q.v≤1125899906842624:=by
 have:=zbI.1 (h.near (q.v,q.cur) (by rw[qO h.tr,if_neg hc];exact vL.2 (Or.inl rfl)));exact this
theorem tick_QJ {n:Nat}{q:Q}{L:List K}(h:QJ n q L) (hc:q.cur≠-1) {d:Int}(h0:0≤d) (h1:d≤1099511627776) :
  ∃v,v=vX q.v q.mn (jE d (q.ws.getD q.cur.toNat 0))∧(-1125899906842624≤lagf q.mn v∧lagf q.mn v≤1125899906842624)∧lagf q.mn v=(if lagf q.mn q.v+jE d (q.ws.getD q.cur.toNat 0)≤1125899906842624 then lagf q.mn q.v+jE d (q.ws.getD q.cur.toNat 0)else 1125899906842624)∧
  (jW q d).1=upA { q with v:=v }∧(jW q d).2.2=0∧QJ n (upA { q with v:=v }) L∧yH (upA { q with v:=v })=ins q.mn L (v,q.cur):=by
 have hcn:=cur_near h hc;have hw:=zbt.1 (h.weight (id:=q.cur) (by have:=h.c1;omega) h.c2 (h.hereCur hc));have hd:=delta_in h0 hw.1;have hs:=step_lag (v:=q.v) (mn:=q.mn) hd.1 hd.2 hcn.1 hcn.2;generalize hv:vX q.v q.mn (jE d (q.ws.getD q.cur.toNat 0))=v at hs⊢;have hb:-1125899906842624≤lagf q.mn v∧lagf q.mn v≤1125899906842624:=by
  rw[hs];split<;>omega
 obtain⟨g1,g2⟩:=ran_QJ h hc hb;obtain⟨u1,u2,u3,u4⟩:=up_QJ g1;have e:jW q d=(upA { q with v:=v },(jW q d).2.1,0):=by
  unfold jW;rw[if_neg (by rw[h.right];simp),if_neg (by omega),if_neg hc,hv]
 exact⟨v,rfl,hb,hs,by rw[e],by rw[e],u1,u2.trans g2⟩
end Go.Proofs.YtnkhnnojdlgfjaaGreatDoor.Qu
end
section
namespace Go.Proofs.YtnkhnnojdlgfjaaGreatDoor.Ky
abbrev K:=Int × Int
def gt (l:List K) (t:Nat):K:=l.getD t (0,0)
theorem ext_gt {a b:List K}(h:a.length=b.length) (e:∀t,t<a.length→gt a t=gt b t):a=b:=by
 refine List.ext_getElem h fun t h1 h2=>?_
 have:=e t h1;simp only[gt,List.getD_eq_getElem?_getD,List.getElem?_eq_getElem h1,List.getElem?_eq_getElem h2,Option.getD_some]at this;exact this
theorem qV (l:List K) (t:Nat) (h:t<l.length):gt l t=l[t]:=by
 simp only[gt,List.getD_eq_getElem?_getD,List.getElem?_eq_getElem h,Option.getD_some]
theorem gt_mem (l:List K) (t:Nat) (h:t<l.length):gt l t∈l:=by rw[qV l t h];exact List.getElem_mem h
theorem gt_set (l:List K) (i:Nat) (x:K) (t:Nat) (h:i<l.length):gt (l.set i x) t=if t=i then x else gt l t:=by
 simp only[gt,List.getD_eq_getElem?_getD,List.getElem?_set];by_cases e:i=t;rotate_left
 ·rw[if_neg e,if_neg (fun h=>e h.symm)]
 subst e;rw[if_pos rfl,if_pos h,if_pos rfl];rfl
def swp (l:List K) (i j:Nat):List K:=(l.set i (gt l j)).set j (gt l i)
theorem swp_length (l:List K) (i j:Nat):(swp l i j).length=l.length:=by simp[swp]
theorem gt_swp (l:List K) (i j t:Nat) (hi:i<l.length) (hj:j<l.length):gt (swp l i j) t=if t=j then gt l i else if t=i then gt l j else gt l t:=by
 unfold swp;rw[gt_set _ _ _ _ (by simpa using hj),gt_set _ _ _ _ hi]
theorem swp_perm (l:List K) (i j:Nat) (hi:i<l.length) (hj:j<l.length):(swp l i j).Perm l:=by
 rw[List.perm_iff_count];intro a;have e0:swp l i j=(l.set i l[j]).set j l[i]:=by unfold swp;rw[qV l i hi,qV l j hj]
 rw[e0,List.count_set (by simpa using hj),List.count_set hi,List.getElem_set];have ci:(l[i]==a)=true→0<List.count a l:=fun h=>List.count_pos_iff.2 (by have:=List.getElem_mem hi;rwa [eq_of_beq h]at this)
 have cj:(l[j]==a)=true→0<List.count a l:=fun h=>List.count_pos_iff.2 (by have:=List.getElem_mem hj;rwa [eq_of_beq h]at this)
 by_cases e:i=j
 ·subst e;by_cases h:(l[i]==a)=true;rotate_left
  ·simp only[if_neg h,if_true];omega
  have:=ci h;simp only[if_pos h,if_true];omega
 rw[if_neg e];by_cases h1:(l[i]==a)=true
 ·have:=ci h1;by_cases h2:(l[j]==a)=true
  ·simp only[if_pos h1,if_pos h2];omega
  simp only[if_pos h1,if_neg h2];omega
 by_cases h2:(l[j]==a)=true;rotate_left
 ·simp only[if_neg h1,if_neg h2];omega
 have:=cj h2;simp only[if_neg h1,if_pos h2];omega
structure Rng (l l':List K) (a b:Nat):Prop where
 perm:l'.Perm l
 o:∀t,t<a∨b≤t→gt l' t=gt l t
theorem Rng.len {l l':List K}{a b:Nat}(h:Rng l l' a b):l'.length=l.length:=h.perm.length_eq
theorem Rng.refl (l:List K) (a b:Nat):Rng l l a b:=⟨List.Perm.refl _,fun _ _=>rfl⟩
theorem Rng.trans {l m n:List K}{a b:Nat}(h:Rng l m a b) (k:Rng m n a b):Rng l n a b:=⟨k.perm.trans h.perm,fun t ht=>(k.o t ht).trans (h.o t ht)⟩
theorem Rng.wide {l l':List K}{a b a' b':Nat}(h:Rng l l' a b) (ha:a'≤a) (hb:b≤b'):Rng l l' a' b':=⟨h.perm,fun t ht=>h.o t (by omega)⟩
theorem Rng.swp {l:List K}{i j a b:Nat}(hi:i<l.length) (hj:j<l.length) (h1:a≤i) (h2:i<b) (h3:a≤j) (h4:j<b):Rng l (swp l i j) a b:=
 ⟨swp_perm l i j hi hj,fun t ht=>by rw[gt_swp l i j t hi hj,if_neg (by omega),if_neg (by omega)]⟩
theorem take_eq_of {l l':List K}(a:Nat) (hl:l'.length=l.length) (h:∀t,t<a→gt l' t=gt l t):l'.take a=l.take a:=by
 refine ext_gt (by simp[hl]) fun t ht=>?_
 rw[List.length_take]at ht;have:=h t (by omega);simp only[gt,List.getD_eq_getElem?_getD,List.getElem?_take]at this⊢;rw[if_pos (by omega),if_pos (by omega)];exact this
theorem drop_eq_of {l l':List K}(b:Nat) (hl:l'.length=l.length) (h:∀t,b≤t→gt l' t=gt l t):l'.drop b=l.drop b:=by
 refine ext_gt (by simp[hl]) fun t ht=>?_
 have:=h (b+t) (by omega);simp only[gt,List.getD_eq_getElem?_getD,List.getElem?_drop]at this⊢;exact this
theorem parts (l:List K) (a b:Nat) (h:a≤b):l=l.take a++((l.drop a).take (b-a)++l.drop b):=by
 have e:l.drop b=(l.drop a).drop (b-a):=by rw[List.drop_drop];congr 1;omega
 rw[e,List.take_append_drop,List.take_append_drop]
theorem Rng.mid {l l':List K}{a b:Nat}(h:Rng l l' a b) (hab:a≤b):((l'.drop a).take (b-a)).Perm ((l.drop a).take (b-a)):=by
 have h1:=h.perm;rw[parts l a b hab,parts l' a b hab,take_eq_of a h.len (fun t ht=>h.o t (Or.inl ht)),drop_eq_of b h.len (fun t ht=>h.o t (Or.inr ht))]at h1;exact(List.perm_append_right_iff _).1 ((List.perm_append_left_iff _).1 h1)
theorem Rng.from_ {l l':List K}{a b:Nat}(h:Rng l l' a b) (t:Nat) (h1:a≤t) (h2:t<b) (hb:b≤l.length):∃s,a≤s∧s<b∧gt l' t=gt l s:=by
 have hm:gt l' t∈(l'.drop a).take (b-a):=by
  refine List.mem_iff_getElem?.2 ⟨t-a,?_⟩;rw[List.getElem?_take,if_pos (by omega),List.getElem?_drop,show a+(t-a)=t by omega,qV l' t (by rw[h.len];omega),List.getElem?_eq_getElem]
 have hm2:=(h.mid (by omega)).mem_iff.1 hm;obtain⟨i,hi⟩:=List.mem_iff_getElem?.1 hm2;rw[List.getElem?_take]at hi;split at hi
 ·rw[List.getElem?_drop]at hi;refine⟨a+i,by omega,by omega,?_⟩;simp only[gt,List.getD_eq_getElem?_getD]at hi⊢;rw[hi];rfl
 ·cases hi
def swr (l:List K) (a b:Nat):Nat→List K
 | 0=>l
 | n+1=>swp (swr l a b n) (a+n) (b+n)
theorem jG (l:List K) (a b:Nat):∀n,(swr l a b n).length=l.length
 | 0=>rfl
 | n+1=>by rw[swr,swp_length,jG l a b n]
theorem gt_swr (l:List K) (a b:Nat):∀n,a+n≤b→b+n≤l.length→∀t,gt (swr l a b n) t=if a≤t∧t<a+n then gt l (b+(t-a))else if b≤t∧t<b+n then gt l (a+(t-b))else gt l t
 | 0,h1,h2,t=>by rw[swr,if_neg (by omega),if_neg (by omega)]
 | n+1,h1,h2,t=>by
  have g:=gt_swr l a b n (by omega) (by omega);rw[swr,gt_swp _ _ _ _ (by rw[jG];omega) (by rw[jG];omega),g (a+n),g (b+n),g t];by_cases e1:t=b+n
  ·subst e1;rw[if_pos rfl,if_neg (by omega),if_neg (by omega),if_neg (by omega),if_pos (by omega),show a+(b+n-b)=a+n by omega]
  rw[if_neg e1];by_cases e2:t=a+n
  ·subst e2;rw[if_pos rfl,if_neg (by omega),if_neg (by omega),if_pos (by omega),show b+(a+n-a)=b+n by omega]
  rw[if_neg e2];by_cases e3:a≤t∧t<a+n
  ·rw[if_pos e3,if_pos (by omega)]
  rw[if_neg e3];by_cases e4:b≤t∧t<b+n
  ·rw[if_pos e4,if_neg (show ¬(a≤t∧t<a+(n+1))by omega),if_pos (show b≤t∧t<b+(n+1)by omega)]
  ·rw[if_neg e4,if_neg (show ¬(a≤t∧t<a+(n+1))by omega),if_neg (show ¬(b≤t∧t<b+(n+1))by omega)]
theorem zcF (l:List K) (a b:Nat):∀n,a+n≤b→b+n≤l.length→Rng l (swr l a b n) a (b+n)
 | 0,h1,h2=>Rng.refl _ _ _
 | n+1,h1,h2=>((zcF l a b n (by omega) (by omega)).wide (Nat.le_refl _) (by omega)).trans (Rng.swp (by rw[jG];omega) (by rw[jG];omega) (by omega) (by omega) (by omega) (by omega))
structure Rot (l l':List K) (a m b:Nat):Prop where
 rng:Rng l l' a b
 lo:∀t,a≤t→t<a+(b-m)→gt l' t=gt l (m+(t-a))
 hi:∀t,a+(b-m)≤t→t<b→gt l' t=gt l (t-(b-m))
theorem rot_eq {l:List K}{m i:Nat}(h1:i≤m) (h2:m+i≤l.length):Rot l (swr l (m-i) m i) (m-i) m (m+i):=by
 refine⟨zcF l _ _ _ (by omega) (by omega),fun t h3 h4=>?_,fun t h3 h4=>?_⟩
 ·rw[gt_swr l _ _ _ (by omega) (by omega),if_pos (by omega)]
 ·rw[gt_swr l _ _ _ (by omega) (by omega),if_neg (by omega),if_pos (by omega)]
  congr 1;omega
theorem rot_more {l l':List K}{m i j:Nat}(hj:0<j) (h1:j<i) (h2:i≤m) (h3:m+j≤l.length) (h:Rot (swr l (m-i) m j) l' (m-(i-j)) m (m+j)):Rot l l' (m-i) m (m+j):=by
 have g:=gt_swr l (m-i) m j (by omega) (by omega);refine⟨((zcF l _ _ _ (by omega) (by omega))).trans (h.rng.wide (by omega) (Nat.le_refl _)),fun t h4 h5=>?_,fun t h4 h5=>?_⟩
 ·rw[h.rng.o t (by omega),g t,if_pos (by omega)]
 ·by_cases c:t<m-(i-j)+j
  ·rw[h.lo t (by omega) (by omega),g,if_neg (by omega),if_pos (by omega)]
   congr 1;omega
  ·rw[h.hi t (by omega) (by omega),g,if_neg (by omega),if_neg (by omega)]
theorem rot_less {l l':List K}{m i j:Nat}(hi:0<i) (h1:i<j) (h2:i≤m) (h3:m+j≤l.length) (h:Rot (swr l (m-i) (m+j-i) i) l' (m-i) m (m+(j-i))):Rot l l' (m-i) m (m+j):=by
 have g:=gt_swr l (m-i) (m+j-i) i (by omega) (by omega);refine⟨((zcF l _ _ _ (by omega) (by omega)).wide (Nat.le_refl _) (by omega)).trans (h.rng.wide (by omega) (by omega)),fun t h4 h5=>?_,fun t h4 h5=>?_⟩
 ·by_cases c:t<m-i+(j-i)
  ·rw[h.lo t (by omega) (by omega),g,if_neg (by omega),if_neg (by omega)]
  ·by_cases c2:t<m+(j-i)
   ·rw[h.hi t (by omega) (by omega),g,if_pos (by omega)]
    congr 1;omega
   ·exfalso;omega
 ·rw[h.rng.o t (by omega),g t,if_neg (by omega),if_pos (by omega)]
  congr 1;omega
section
variable (cv : K → K → Int)
structure Ord:Prop where
 asym:∀x y,cv x y<0→¬cv y x<0
 trans:∀x y z,¬cv y x<0→¬cv z y<0→¬cv z x<0
def le (x y:K):Prop:=¬cv y x<0
def Srd (l:List K) (a b:Nat):Prop:=∀i j,a≤i→i≤j→j<b→le cv (gt l i) (gt l j)
variable {cv : K → K → Int} (O : Ord cv)
include O
theorem le_of_lt {x y:K}(h:cv x y<0):le cv x y:=O.asym x y h
theorem le_trans {x y z:K}(h:le cv x y) (k:le cv y z):le cv x z:=O.trans x y z h k
theorem le_refl (x:K):le cv x x:=fun h=>O.asym x x h h
theorem lt_of_le_lt {x y z:K}(h:le cv x y) (k:cv y z<0):cv x z<0:=by
 apply Classical.byContradiction;intro hn;exact absurd k (le_trans O (x:=z) (y:=x) hn h)
theorem lt_of_lt_le {x y z:K}(h:cv x y<0) (k:le cv y z):cv x z<0:=by
 apply Classical.byContradiction;intro hn;exact absurd h (le_trans O (x:=y) (y:=z) k hn)
omit O
theorem Srd.keep {l l':List K}{a b:Nat}(h:Srd cv l a b) (e:∀t,a≤t→t<b→gt l' t=gt l t):Srd cv l' a b:=fun i j h1 h2 h3=>by
 rw[e i h1 (by omega),e j (by omega) h3];exact h i j h1 h2 h3
theorem Srd.part {l:List K}{a b a' b':Nat}(h:Srd cv l a b) (ha:a≤a') (hb:b'≤b):Srd cv l a' b':=fun i j h1 h2 h3=>h i j (by omega) h2 (by omega)
theorem Srd.join {l:List K}{a m b:Nat}(h1:Srd cv l a m) (h2:Srd cv l m b) (h:∀i j,a≤i→i<m→m≤j→j<b→le cv (gt l i) (gt l j)):Srd cv l a b:=fun i j h3 h4 h5=>by
 by_cases c1:j<m
 ·exact h1 i j h3 h4 c1
 by_cases c2:m≤i
 ·exact h2 i j c2 h4 h5
 ·exact h i j h3 (by omega) (by omega) h5
include O
theorem Srd.one (l:List K) {a b:Nat}(h:b≤a+1):Srd cv l a b:=fun i j h1 h2 h3=>by
 obtain rfl:i=j:=by omega
 exact le_refl O _
omit O
structure Up (l l':List K) (a k b:Nat):Prop where
 rng:Rng l l' a b
 lo:∀t,a≤t→t<k→gt l' t=gt l (t+1)
 at_:gt l' k=gt l a
 hi:∀t,k<t→gt l' t=gt l t
theorem Up.refl (l:List K) (a b:Nat):Up l l a a b:=⟨Rng.refl _ _ _,fun t h1 h2=>by omega,rfl,fun _ _=>rfl⟩
theorem Up.step {l l':List K}{a k b:Nat}(h:Up l l' a k b) (ha:a≤k) (hk:k+1<b) (hb:b≤l.length):Up l (swp l' k (k+1)) a (k+1) b:=by
 have hl:=h.rng.len;have g:=fun t=>gt_swp l' k (k+1) t (by omega) (by omega)
 refine⟨h.rng.trans (Rng.swp (by omega) (by omega) (by omega) (by omega) (by omega) (by omega)),fun t h1 h2=>?_,?_,fun t h1=>?_⟩
 ·rw[g,if_neg (by omega)];by_cases e:t=k;rotate_left
  ·rw[if_neg e,h.lo t h1 (by omega)]
  subst e;rw[if_pos rfl,h.hi _ (by omega)]
 ·rw[g,if_pos rfl,h.at_]
 ·rw[g,if_neg (by omega),if_neg (by omega),h.hi _ (by omega)]
structure Dn (l l':List K) (a k m b:Nat):Prop where
 rng:Rng l l' a b
 lo:∀t,t<k→gt l' t=gt l t
 at_:gt l' k=gt l m
 mid:∀t,k<t→t≤m→gt l' t=gt l (t-1)
 hi:∀t,m<t→gt l' t=gt l t
theorem Dn.refl (l:List K) (a m b:Nat):Dn l l a m m b:=⟨Rng.refl _ _ _,fun _ _=>rfl,rfl,fun t h1 h2=>by omega,fun _ _=>rfl⟩
theorem Dn.step {l l':List K}{a k m b:Nat}(h:Dn l l' a (k+1) m b) (ha:a≤k) (hk:k+1≤m) (hm:m<b) (hb:b≤l.length):Dn l (swp l' (k+1) k) a k m b:=by
 have hl:=h.rng.len;have g:=fun t=>gt_swp l' (k+1) k t (by omega) (by omega)
 refine⟨h.rng.trans (Rng.swp (by omega) (by omega) (by omega) (by omega) (by omega) (by omega)),fun t h1=>?_,?_,fun t h1 h2=>?_,fun t h1=>?_⟩
 ·rw[g,if_neg (by omega),if_neg (by omega),h.lo t (by omega)]
 ·rw[g,if_pos rfl,h.at_]
 ·rw[g,if_neg (by omega)];by_cases e:t=k+1;rotate_left
  ·rw[if_neg e,h.mid t (by omega) h2]
  subst e;rw[if_pos rfl,h.lo _ (by omega)];congr 1
 ·rw[g,if_neg (by omega),if_neg (by omega),h.hi _ h1]
theorem Dn.step' {l l':List K}{a k m b:Nat}(h:Dn l l' a k m b) (ha:a<k) (hk:k≤m) (hm:m<b) (hb:b≤l.length):Dn l (swp l' k (k-1)) a (k-1) m b:=by
 obtain⟨j,rfl⟩:∃j,k=j+1:=⟨k-1,by omega⟩;exact Dn.step h (by omega) hk hm hb
include O
theorem Up.srd {l l':List K}{a i b:Nat}(h:Up l l' a (i-1) b) (hi:a<i) (hib:i≤b) (hs:Srd cv l (a+1) b) (h1:∀t,a+1≤t→t<i→cv (gt l t) (gt l a)<0) (h2:∀t,i≤t→t<b→¬cv (gt l t) (gt l a)<0):Srd cv l' a b:=by
 have e1:∀t,a≤t→t<i-1→gt l' t=gt l (t+1):=h.lo;have e3:∀t,i≤t→gt l' t=gt l t:=fun t ht=>h.hi t (by omega)
 intro p q h3 h4 h5;by_cases c1:q<i-1
 ·rw[e1 p h3 (by omega),e1 q (by omega) c1];exact hs _ _ (by omega) (by omega) (by omega)
 by_cases c2:q=i-1
 ·subst c2;rw[h.at_];by_cases c3:p=i-1
  ·subst c3;rw[h.at_];exact le_refl O _
  rw[e1 p h3 (by omega)];exact le_of_lt O (h1 _ (by omega) (by omega))
 rw[e3 q (by omega)];by_cases c4:p<i-1
 ·rw[e1 p h3 c4];exact hs _ _ (by omega) (by omega) h5
 by_cases c5:p=i-1
 ·subst c5;rw[h.at_];exact h2 q (by omega) h5
 rw[e3 p (by omega)];exact hs _ _ (by omega) h4 h5
theorem Dn.srd {l l':List K}{a i m b:Nat}(h:Dn l l' a i m b) (hai:a≤i) (him:i≤m) (hs:Srd cv l a m) (h1:∀t,a≤t→t<i→¬cv (gt l m) (gt l t)<0) (h2:∀t,i≤t→t<m→cv (gt l m) (gt l t)<0):Srd cv l' a (m+1):=by
 intro p q h3 h4 h5;by_cases c1:q<i
 ·rw[h.lo p (by omega),h.lo q c1];exact hs _ _ h3 h4 (by omega)
 by_cases c2:q=i
 ·subst c2;rw[h.at_];by_cases c3:p=q
  ·subst c3;rw[h.at_];exact le_refl O _
  rw[h.lo p (by omega)];exact h1 _ h3 (by omega)
 rw[h.mid q (by omega) (by omega)];by_cases c4:p<i
 ·rw[h.lo p c4];exact hs _ _ h3 (by omega) (by omega)
 by_cases c5:p=i
 ·subst c5;rw[h.at_];exact le_of_lt O (h2 _ (by omega) (by omega))
 rw[h.mid p (by omega) (by omega)];exact hs _ _ (by omega) (by omega) (by omega)
theorem rot_halves {l l':List K}{a m b s:Nat}(hb:b≤l.length) (h1:a≤s) (h2:s≤m) (h3:m≤b) (h4:(a+b) / 2+m-s≤b) (h5:m≤(a+b) / 2+m-s) (hr:Rot l l' s m ((a+b) / 2+m-s)) (s1:Srd cv l a m) (s2:Srd cv l m b)
  (x1:s=a∨(a+b) / 2+m-s=b∨¬cv (gt l ((a+b) / 2+m-s)) (gt l (s-1))<0) (x2:s=m∨(a+b) / 2+m-s=m∨cv (gt l ((a+b) / 2+m-s-1)) (gt l s)<0) :
  Srd cv l' a s∧Srd cv l' s ((a+b) / 2)∧Srd cv l' ((a+b) / 2) ((a+b) / 2+m-s)∧Srd cv l' ((a+b) / 2+m-s) b∧∀i j,a≤i→i<(a+b) / 2→(a+b) / 2≤j→j<b→le cv (gt l' i) (gt l' j):=by
 generalize hd:(a+b) / 2=d at *
 have hd1:a≤d:=by omega
 have hd2:d≤b:=by omega
 have o1:∀t,t<s→gt l' t=gt l t:=fun t ht=>hr.rng.o t (Or.inl ht)
 have o2:∀t,d+m-s≤t→gt l' t=gt l t:=fun t ht=>hr.rng.o t (Or.inr ht)
 have o3:∀t,s≤t→t<d→gt l' t=gt l (m+(t-s)):=fun t h6 h7=>hr.lo t h6 (by omega)
 have o4:∀t,d≤t→t<d+m-s→gt l' t=gt l (t-(d-s)):=fun t h6 h7=>by rw[hr.hi t (by omega) h7];congr 1;omega
 refine⟨(s1.part (Nat.le_refl _) h2).keep (fun t h6 h7=>o1 t h7),?_,?_,(s2.part h5 (Nat.le_refl _)).keep (fun t h6 h7=>o2 t h6),?_⟩
 ·intro p q h6 h7 h8;rw[o3 p h6 (by omega),o3 q (by omega) h8];exact s2 _ _ (by omega) (by omega) (by omega)
 ·intro p q h6 h7 h8;rw[o4 p h6 (by omega),o4 q (by omega) h8];exact s1 _ _ (by omega) (by omega) (by omega)
 ·intro i j h6 h7 h8 h9;by_cases c1:i<s
  ·rw[o1 i c1];by_cases c2:j<d+m-s
   ·rw[o4 j h8 c2];exact s1 _ _ h6 (by omega) (by omega)
   ·rw[o2 j (by omega)];rcases x1 with x1|x1|x1
    ·omega
    ·omega
    ·exact le_trans O (s1 i (s-1) h6 (by omega) (by omega)) (le_trans O x1 (s2 _ j (by omega) (by omega) h9))
  ·rw[o3 i (by omega) h7];by_cases c2:j<d+m-s
   ·rw[o4 j h8 c2];rcases x2 with x2|x2|x2
    ·omega
    ·omega
    ·exact le_trans O (s2 _ (d+m-s-1) (by omega) (by omega) (by omega)) (le_trans O (le_of_lt O x2) (s1 s _ (by omega) (by omega) (by omega)))
   ·rw[o2 j (by omega)];exact s2 _ _ (by omega) (by omega) h9
omit O
theorem halves {l l' l'':List K}{a d b:Nat}(hb:b≤l.length) (had:a≤d) (hdb:d≤b) (r1:Rng l l' a d) (r2:Rng l' l'' d b) (s1:Srd cv l' a d) (s2:Srd cv l'' d b) (h:∀i j,a≤i→i<d→d≤j→j<b→le cv (gt l i) (gt l j)):Srd cv l'' a b:=by
 refine Srd.join (m:=d) (s1.keep (fun t h1 h2=>r2.o t (Or.inl h2))) s2 fun i j h1 h2 h3 h4=>?_
 rw[r2.o i (Or.inl h2)];obtain⟨s,h5,h6,e1⟩:=r1.from_ i h1 h2 (by omega);obtain⟨u,h7,h8,e2⟩:=r2.from_ j h3 h4 (by rw[r1.len];exact hb);rw[e1,e2,r1.o u (Or.inr h7)];exact h s u h5 h6 h7 h8
inductive Blks (cv:K→K→Int) (bs:Nat) (l:List K) (n:Nat):Nat→Prop
 | nil {a:Nat}:n≤a→Blks cv bs l n a
 | cons {a:Nat}:a<n→Srd cv l a (min (a+bs) n)→Blks cv bs l n (a+bs)→Blks cv bs l n a
inductive Done (cv:K→K→Int) (bs:Nat) (l:List K):Nat→Prop
 | nil:Done cv bs l 0
 | cons {a:Nat}:Done cv bs l a→Srd cv l a (a+bs)→Done cv bs l (a+bs)
theorem Blks.keep {bs n:Nat}{l l':List K}{a:Nat}(h:Blks cv bs l n a) (e:∀t,a≤t→gt l' t=gt l t):Blks cv bs l' n a:=by
 induction h with
 | nil h=>exact .nil h
 | cons h1 h2 h3 ih=>exact .cons h1 (h2.keep fun t h4 _=>e t h4) (ih fun t ht=>e t (by omega))
theorem Done.keep {bs:Nat}{l l':List K}{a:Nat}(h:Done cv bs l a) (e:∀t,t<a→gt l' t=gt l t):Done cv bs l' a:=by
 induction h with
 | nil=>exact .nil
 | cons h1 h2 ih=>exact .cons (ih fun t ht=>e t (by omega)) (h2.keep fun t _ h4=>e t h4)
theorem Done.blks {bs n:Nat}{l:List K}{a:Nat}(hbs:0<bs) (h:Done cv bs l a) (ha:a≤n) (k:Blks cv bs l n a):Blks cv bs l n 0:=by
 induction h with
 | nil=>exact k
 | cons h1 h2 ih=>
  refine ih (by omega) (.cons (by omega) ?_ k);rw[Nat.min_eq_left ha];exact h2
theorem Blks.srd {bs n:Nat}{l:List K}{a:Nat}(h:Blks cv bs l n a):Srd cv l a (min (a+bs) n):=by
 cases h with
 | nil h=>intro i j h1 h2 h3;omega
 | cons h1 h2 h3=>exact h2
theorem Blks.next {bs n:Nat}{l:List K}{a:Nat}(h:Blks cv bs l n a) (ha:a<n):Blks cv bs l n (a+bs):=by
 cases h with
 | nil h=>omega
 | cons h1 h2 h3=>exact h3
end
end Go.Proofs.YtnkhnnojdlgfjaaGreatDoor.Ky
end
