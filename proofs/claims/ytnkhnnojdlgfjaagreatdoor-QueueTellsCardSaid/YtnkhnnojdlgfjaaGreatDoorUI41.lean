/- Parts of the proof, joined: R8, R9, AwQ1. -/
import Derived.Test.YtnkhnnojdlgfjaaGreatDoorUI40
set_option linter.unusedVariables false
set_option linter.unusedSimpArgs false
set_option maxHeartbeats 32000000
set_option maxRecDepth 100000
section
namespace Go.Proofs.YtnkhnnojdlgfjaaGreatDoor.Qw
open RowKit Tr Tk Tm Qu PA PB PC
variable {S : Nat → Prop} {A B : Option Addr} {c d : Nat} {w w' : World} {q : Q}
theorem if1_W1 (cap:Array Value) (hb eb:Nat) (x:Int) (b:Bool) (w:World) (h1:w.cell? ⟨hb,0,none⟩=some (.func (.func 61) #[] cap)) (h2:w.cell? ⟨eb,0,none⟩=some (.int .i64 x))
  (hc:Calls Tryz.prog 61 cap w fun e w'=>e=.returned (.bool b)∧Below w.heap.size w w') :
  Calls Tryz.prog 74 #[.pointer (some ⟨hb,0,none⟩),.pointer (some ⟨eb,0,none⟩)] w fun e w'=>e=.returned (.int .i64 (if b=true then x else 0))∧Below w.heap.size w w':=by
 have HC:=Z hc;have HE:=Z h2;clear hc;go_enter Tryz.func74,Tryz.ntmps74;cases b with
 | true=>
  go_wp2_with (go_at_call 61;refine HC.o.mono ?_;rintro e w2 ⟨rfl,hb⟩;have HB:=Z hb;have h3:=zJ hb HE.o;clear hb);go_ret;exact⟨rfl,HB.o⟩
 | false=>
  go_wp2_with (go_at_call 61;refine HC.o.mono ?_;rintro e w2 ⟨rfl,hb⟩;have HB:=Z hb;have h3:=zJ hb HE.o;clear hb);go_ret;exact⟨rfl,HB.o⟩
theorem if1_W2 (cap:Array Value) (hb eb:Nat) (x:Int) (b:Bool) (w:World) (h1:w.cell? ⟨hb,0,none⟩=some (.func (.func 62) #[] cap)) (h2:w.cell? ⟨eb,0,none⟩=some (.int .i64 x))
  (hc:Calls Tryz.prog 62 cap w fun e w'=>e=.returned (.bool b)∧Below w.heap.size w w') :
  Calls Tryz.prog 74 #[.pointer (some ⟨hb,0,none⟩),.pointer (some ⟨eb,0,none⟩)] w fun e w'=>e=.returned (.int .i64 (if b=true then x else 0))∧Below w.heap.size w w':=by
 have HC:=Z hc;have HE:=Z h2;clear hc;go_enter Tryz.func74,Tryz.ntmps74;cases b with
 | true=>
  go_wp2_with (go_at_call 62;refine HC.o.mono ?_;rintro e w2 ⟨rfl,hb⟩;have HB:=Z hb;have h3:=zJ hb HE.o;clear hb);go_ret;exact⟨rfl,HB.o⟩
 | false=>
  go_wp2_with (go_at_call 62;refine HC.o.mono ?_;rintro e w2 ⟨rfl,hb⟩;have HB:=Z hb;have h3:=zJ hb HE.o;clear hb);go_ret;exact⟨rfl,HB.o⟩
section
variable {ns : List Nd} {rt cur v mn load : Int} {ws : List Int} {g : Nat} {W : World}
theorem weigh1_ (hx:QB rt A ns.length c cur v mn load B ws.length d W g) (hq:QIn S A c B d W ⟨⟨ns,rt⟩,cur,v,mn,load,ws⟩) (id x:Int) (g1 g2:Nat) (h1:W.cell? ⟨g1,0,none⟩=some (.int .i64 id)) (h2:W.cell? ⟨g2,0,none⟩=some (.int .i64 x)) :
  Calls Tryz.prog 61 #[.pointer (some ⟨g,0,none⟩),.pointer (some ⟨g1,0,none⟩),.pointer (some ⟨g2,0,none⟩)] W fun e w'=>e=.returned (.bool (!(yG ⟨⟨ns,rt⟩,cur,v,mn,load,ws⟩ id&&yF x)))∧Below W.heap.size W w':=by
 have HX:=Z hx;have HQ:=Z hq;have HK:=Z (show Calls Tryz.prog 35 #[.agg #[.int .i64 rt,.slice A ns.length c,.int .i64 cur,.int .u64 v,.int .u64 mn,.int .i64 load,.slice B ws.length d],.int .i64 id] W fun e w'=>e=.returned (.bool (yG ⟨⟨ns,rt⟩,cur,v,mn,load,ws⟩ id))∧Below W.heap.size W w' from known_ id hq);have HE2:=Z h2;rw[←not_known];generalize yG ⟨⟨ns,rt⟩,cur,v,mn,load,ws⟩ id=kn at HK⊢;have HW:=Z (weighed_ x);generalize yF x=wx at HW⊢;obtain⟨a0,a1,a2,a3,a4,a5,a6⟩:=HX.o.al;clear hx hq h2;go_enter Tryz.func61,Tryz.ntmps61;cases kn with
 | true=>
  go_wp2_with (first
   | (go_at_call 35;refine HK.o.mono ?_;rintro e w2 ⟨rfl,hb⟩;have HB:=Z hb;have h3:=zJ hb HE2.o;clear hb)
   | (go_at_call 41;refine(HW.o _).mono ?_;rintro e w3 ⟨rfl,hb⟩;have HB2:=Z (zD HB.o hb);clear hb))
  go_ret;exact⟨rfl,HB2.o⟩
 | false=>
  go_wp2_with (go_at_call 35;refine HK.o.mono ?_;rintro e w2 ⟨rfl,hb⟩;have HB:=Z hb;clear hb);go_ret;exact⟨rfl,HB.o⟩
theorem weigh2_ (hx:QB rt A ns.length c cur v mn load B ws.length d W g) (hq:QIn S A c B d W ⟨⟨ns,rt⟩,cur,v,mn,load,ws⟩) (id:Int) (g1:Nat) (h1:W.cell? ⟨g1,0,none⟩=some (.int .i64 id)) (h3:0≤id) (h4:id<(ns.length:Int)) :
  Calls Tryz.prog 62 #[.pointer (some ⟨g,0,none⟩),.pointer (some ⟨g1,0,none⟩)] W fun e w'=>e=.returned (.bool (!(yV ⟨⟨ns,rt⟩,cur,v,mn,load,ws⟩ id)))∧Below W.heap.size W w':=by
 have HX:=Z hx;have HK:=Z (show Calls Tryz.prog 37 #[.agg #[.int .i64 rt,.slice A ns.length c,.int .i64 cur,.int .u64 v,.int .u64 mn,.int .i64 load,.slice B ws.length d],.int .i64 id] W fun e w'=>e=.returned (.bool (yV ⟨⟨ns,rt⟩,cur,v,mn,load,ws⟩ id))∧Below W.heap.size W w' from here_ id hq h3 h4);generalize yV ⟨⟨ns,rt⟩,cur,v,mn,load,ws⟩ id=hh at HK⊢;obtain⟨a0,a1,a2,a3,a4,a5,a6⟩:=HX.o.al;clear hx hq h3 h4;go_enter Tryz.func62,Tryz.ntmps62;go_wp2_with (go_at_call 37;refine HK.o.mono ?_;rintro e w2 ⟨rfl,hb⟩;have HB:=Z hb;clear hb);go_ret;exact⟨rfl,HB.o⟩
end
def wE (q:Q) (id x:Int):Int:=if zP q=true then (if (if (!(yG q id&&yF x))=true then (1:Int)else 0)=0 then (if (!(yV q id))=true then 8 else 0)else (if (!(yG q id&&yF x))=true then 1 else 0))else 4
theorem weighE_no {q:Q}{id x:Int}(h:wE q id x≠0):wW q id x=(q0,wE q id x):=by
 revert h
 unfold wW wE;cases zP q with
 | false=>exact fun _=>rfl
 | true=>
  cases(yG q id&&yF x)with
  | false=>exact fun _=>rfl
  | true=>
   cases yV q id with
   | true=>exact fun h=>absurd rfl h
   | false=>exact fun _=>rfl
theorem zay {q:Q}{id x:Int}(h:wE q id x=0):zP q=true∧yG q id=true∧wW q id x=(qZ q id x,0):=by
 unfold wE at h;cases hr:zP q with
 | false=>rw[hr]at h;simp at h
 | true=>
  cases hk:yG q id with
  | false=>rw[hr,hk]at h;simp at h
  | true=>
   cases hw:yF x with
   | false=>rw[hr,hk,hw]at h;simp at h
   | true=>
    cases hh:yV q id with
    | false=>rw[hr,hk,hw,hh]at h;simp at h
    | true=>exact⟨rfl,rfl,by unfold wW;rw[hr,hk,hw,hh];rfl⟩
theorem weighFirst_ {n z:Nat}{W:World}{L:List (Nat × Value)}(h:KB S n z A c B d q w W L) (id x:Int) (g1 g2:Nat) (c1:W.cell? ⟨g1,0,none⟩=some (.int .i64 id)) (c2:W.cell? ⟨g2,0,none⟩=some (.int .i64 x)) (hb eb hb2 eb2 gl:Nat)
  (e1:W.cell? ⟨eb,0,none⟩=some (.int .i64 1)) (h1:W.cell? ⟨hb,0,none⟩=some (.func (.func 61) #[] #[.pointer (some ⟨w.heap.size,0,none⟩),.pointer (some ⟨g1,0,none⟩),.pointer (some ⟨g2,0,none⟩)]))
  (e12:W.cell? ⟨eb2,0,none⟩=some (.int .i64 8)) (h12:W.cell? ⟨hb2,0,none⟩=some (.func (.func 62) #[] #[.pointer (some ⟨w.heap.size,0,none⟩),.pointer (some ⟨g1,0,none⟩)]))
  (hL:W.heap[gl]?=some (.cells #[ifV hb eb,ifV hb2 eb2] 63 (0,0))) :
  Calls Tryz.prog 27 #[.agg (qc A c B d q),.slice (some ⟨gl,0,none⟩) 2 2] W fun e w'=>e=.returned (.int .i64 (wE q id x))∧Below W.heap.size W w':=by
 refine zcM h.q.vI h.t hb eb hb2 eb2 _ _ gl hL (fun hr W' hW=>?_) (fun hr hz W' hW=>?_)
 ·have hs:=h.step hW;exact if1_W1 _ hb eb 1 _ W' (zJ hW h1) (zJ hW e1) (weigh1_ (ns:=q.t.ns) (rt:=q.t.rt) hs.x hs.q id x g1 g2 (zJ hW c1) (zJ hW c2))
 ·have hs:=h.step hW;have hk:yG q id=true:=by
   cases hk:yG q id with
   | true=>rfl
   | false=>rw[hk]at hz;simp at hz
  have hg:=jF hr hk;exact if1_W2 _ hb2 eb2 8 _ W' (zJ hW h12) (zJ hW e12) (weigh2_ (ns:=q.t.ns) (rt:=q.t.rt) hs.x hs.q id g1 (zJ hW c1) hg.1 hg.2.1)
def putE (q:Q):Int:=if zP q=true then (if (q.cur==-1)=true then 8 else 0)else 4
theorem putE_no {q:Q}(h:putE q≠0):putA q=some (q0,0,putE q):=by
 revert h
 unfold putA putE;cases zP q with
 | false=>exact fun _=>rfl
 | true=>
  by_cases c:q.cur=-1
  ·exact fun _=>by rw[if_neg (by simp),if_pos c,if_pos rfl,if_pos (beq_iff_eq.2 c)]
  exact fun h=>absurd (by rw[if_pos rfl,if_neg (by rw[beq_eq_false_iff_ne.2 c];simp)]) h
theorem zbQ {q:Q}(h:putE q=0):zP q=true∧q.cur≠-1:=by
 unfold putE at h;cases hr:zP q with
 | false=>rw[hr]at h;simp at h
 | true=>
  refine⟨rfl,fun c=>?_⟩;rw[hr,if_pos rfl,if_pos (beq_iff_eq.2 c)]at h;simp at h
theorem putFirst_ {n z:Nat}{W:World}{L:List (Nat × Value)}(h:KB S n z A c B d q w W L) (gi:Nat) (ci:W.cell? ⟨gi,2,none⟩=some (.int .i64 q.cur)) (hb eb gl:Nat)
  (e1:W.cell? ⟨eb,0,none⟩=some (.int .i64 8)) (h1:W.cell? ⟨hb,0,none⟩=some (.func (.func 103) #[] #[.pointer (some ⟨gi,0,none⟩)]))
  (hL:W.heap[gl]?=some (.cells #[ifV hb eb] 63 (0,0))) :
  Calls Tryz.prog 27 #[.agg (qc A c B d q),.slice (some ⟨gl,0,none⟩) 1 1] W fun e w'=>e=.returned (.int .i64 (putE q))∧Below W.heap.size W w':=
 first1_ h.q.vI h.t hb eb _ gl hL (fun hr W' hW=>if1_68 _ hb eb 8 _ W' (zJ hW h1) (zJ hW e1) (idle2_ (zJ hW ci)))
theorem Weigh_ (h:QIn S A c B d w q) (hT:Emp w) (id x:Int) (r:Q × Int) (hf:wW q id x=r):Calls Tryz.prog 20 #[.agg (qc A c B d q),.int .i64 id,.int .i64 x] w fun e w'=>∃u,e=.returned (.tuple #[u,.int .i64 r.2])∧yY S w r.1 u w':=by
 have HQ:=Z h;have HT:=Z hT;have HN:=Z (fun h:wE q id x≠0=>hf.symm.trans (weighE_no h));have HY:=Z (fun h:wE q id x=0=>hf.symm.trans (zay h).2.2);have HG:=Z (fun h:wE q id x=0=>jF (zay h).1 (zay h).2.1);have HFI:=Z (fun{n z:Nat}{W:World}{L:List (Nat × Value)}(h:KB S n z A c B d q w W L)=>weighFirst_ h id x);generalize wE q id x=EE at HN HY HG HFI;clear h hT hf;obtain⟨⟨⟨ns7,rt7⟩,cur7,v7,mn7,load7,ws7⟩,er⟩:=r;obtain⟨⟨ns,rt⟩,cur,v,mn,load,ws⟩:=q;replace HFI:=Z (fun{n z:Nat}{W:World}{L:List (Nat × Value)}(h:KB S n z A c B d ⟨⟨ns,rt⟩,cur,v,mn,load,ws⟩ w W L)=>HFI.o h);show Calls Tryz.prog 20 #[.agg #[.int .i64 rt,.slice A ns.length c,.int .i64 cur,.int .u64 v,.int .u64 mn,.int .i64 load,.slice B ws.length d],.int .i64 id,.int .i64 x] w _;go_enter Tryz.func20,Tryz.ntmps20;go_upto_region 1 with(fail);have HXx:=(QB.new w rt A ns.length c cur v mn load B ws.length d).below (zB (zB (zB (Below.refl _ _) (.cells #[.int .i64 id] 3)) (.cells #[.int .i64 x] 3)) (.cells #[.int .i64 0,.slice none 0 0,.int .i64 0,.int .u64 0,.int .u64 0,.int .i64 0,.slice none 0 0] 30));have HZz:=QB.new (((w.alloc (.cells #[.int .i64 rt,.slice A ns.length c,.int .i64 cur,.int .u64 v,.int .u64 mn,.int .i64 load,.slice B ws.length d] 30)).alloc (.cells #[.int .i64 id] 3)).alloc (.cells #[.int .i64 x] 3)) 0 none 0 0 0 0 0 0 none 0 0;have HOo0:=(zC (zH (zQ (w.alloc (.cells #[.int .i64 rt,.slice A ns.length c,.int .i64 cur,.int .u64 v,.int .u64 mn,.int .i64 load,.slice B ws.length d] 30)) (.cells #[.int .i64 id] 3)) (zB (zB (Below.refl _ _) (.cells #[.int .i64 x] 3)) (.cells #[.int .i64 0,.slice none 0 0,.int .i64 0,.int .u64 0,.int .u64 0,.int .i64 0,.slice none 0 0] 30))) 0).trans rfl;have HOo1:=(zC (zH (zQ ((w.alloc (.cells #[.int .i64 rt,.slice A ns.length c,.int .i64 cur,.int .u64 v,.int .u64 mn,.int .i64 load,.slice B ws.length d] 30)).alloc (.cells #[.int .i64 id] 3)) (.cells #[.int .i64 x] 3)) (zB (Below.refl _ _) (.cells #[.int .i64 0,.slice none 0 0,.int .i64 0,.int .u64 0,.int .u64 0,.int .i64 0,.slice none 0 0] 30))) 0).trans rfl;have HBb:Below w.heap.size w ((((w.alloc (.cells #[.int .i64 rt,.slice A ns.length c,.int .i64 cur,.int .u64 v,.int .u64 mn,.int .i64 load,.slice B ws.length d] 30)).alloc (.cells #[.int .i64 id] 3)).alloc (.cells #[.int .i64 x] 3)).alloc (.cells #[.int .i64 0,.slice none 0 0,.int .i64 0,.int .u64 0,.int .u64 0,.int .i64 0,.slice none 0 0] 30)):=(zB (zB (zB (zB (Below.refl w.heap.size w) (.cells #[.int .i64 rt,.slice A ns.length c,.int .i64 cur,.int .u64 v,.int .u64 mn,.int .i64 load,.slice B ws.length d] 30)) (.cells #[.int .i64 id] 3)) (.cells #[.int .i64 x] 3)) (.cells #[.int .i64 0,.slice none 0 0,.int .i64 0,.int .u64 0,.int .u64 0,.int .i64 0,.slice none 0 0] 30));simp only[World.size_alloc]at HZz HOo0 HOo1;generalize(((w.alloc (.cells #[.int .i64 rt,.slice A ns.length c,.int .i64 cur,.int .u64 v,.int .u64 mn,.int .i64 load,.slice B ws.length d] 30)).alloc (.cells #[.int .i64 id] 3)).alloc (.cells #[.int .i64 x] 3)).alloc (.cells #[.int .i64 0,.slice none 0 0,.int .i64 0,.int .u64 0,.int .u64 0,.int .i64 0,.slice none 0 0] 30)=W1 at HXx HZz HBb HOo0 HOo1⊢;have SB:=Z (show KB S 4 (w.heap.size+1+1+1) A c B d ⟨⟨ns,rt⟩,cur,v,mn,load,ws⟩ w W1 [(w.heap.size+1,.int .i64 id),(w.heap.size+1+1,.int .i64 x)]from⟨HXx,HZz,HBb,HQ.o.boxes (n:=4) HBb (by have:=HZz.lt;omega),HT.o.below HBb,fun p hp=>by
  simp only[List.mem_cons,List.not_mem_nil,or_false]at hp;rcases hp with rfl|rfl
  ·exact HOo0
  ·exact HOo1⟩)
 clear HXx HZz HBb HOo0 HOo1;obtain⟨a0,a1,a2,a3,a4,a5,a6⟩:=SB.o.x.al;go_cut [8] (fun s10 wx=>s10=.int .i64 EE∧zA (KB S 4 (w.heap.size+1+1+1) A c B d ⟨⟨ns,rt⟩,cur,v,mn,load,ws⟩ w wx [(w.heap.size+1,.int .i64 id),(w.heap.size+1+1,.int .i64 x)]))
 case first=>
  go_region_held3 (fun w'=>w'.cell? ⟨w.heap.size,0,none⟩=some (.int .i64 rt)∧w'.cell? ⟨w.heap.size,1,none⟩=some (.slice A ns.length c)∧w'.cell? ⟨w.heap.size,2,none⟩=some (.int .i64 cur)∧w'.cell? ⟨w.heap.size,3,none⟩=some (.int .u64 v)∧w'.cell? ⟨w.heap.size,4,none⟩=some (.int .u64 mn)∧w'.cell? ⟨w.heap.size,5,none⟩=some (.int .i64 load)∧w'.cell? ⟨w.heap.size,6,none⟩=some (.slice B ws.length d)) (first|exact⟨a0,a1,a2,a3,a4,a5,a6⟩|exact⟨(SB.o.step (zB (Below.refl _ _) _)).x.c0,(SB.o.step (zB (Below.refl _ _) _)).x.c1,(SB.o.step (zB (Below.refl _ _) _)).x.c2,(SB.o.step (zB (Below.refl _ _) _)).x.c3,(SB.o.step (zB (Below.refl _ _) _)).x.c4,(SB.o.step (zB (Below.refl _ _) _)).x.c5,(SB.o.step (zB (Below.refl _ _) _)).x.c6⟩) (first
   | (go_at_call_of 28 (Value.int IntKind.i64 1);refine(if_ 1 61 _ _).mono ?_;rintro e wq1 ⟨rfl,hc1,hc2,hB⟩;(first|replace SB:=Z (((SB.o.step hB).more hc1).more hc2)|replace SB:=Z (((SB.o.drew.step hB).more hc1).more hc2));clear hc1 hc2 hB;clear a0 a1 a2 a3 a4 a5 a6;obtain⟨a0,a1,a2,a3,a4,a5,a6⟩:=SB.o.x.al)
   | (go_at_call_of 28 (Value.int IntKind.i64 8);refine(if_ 8 62 _ _).mono ?_;rintro e wq2 ⟨rfl,hc1,hc2,hB⟩;(first|replace SB:=Z (((SB.o.step hB).more hc1).more hc2)|replace SB:=Z (((SB.o.drew.step hB).more hc1).more hc2));clear hc1 hc2 hB;clear a0 a1 a2 a3 a4 a5 a6;obtain⟨a0,a1,a2,a3,a4,a5,a6⟩:=SB.o.x.al)
   | (go_at_call 27;refine(HFI.o (SB.o.step (zB (Below.refl _ _) _)) (w.heap.size+1) (w.heap.size+1+1) ((SB.o.step (zB (Below.refl _ _) _)).l (w.heap.size+1,.int .i64 id) (by simp)) ((SB.o.step (zB (Below.refl _ _) _)).l (w.heap.size+1+1,.int .i64 x) (by simp)) (W1.heap.size+1) W1.heap.size (wq1.heap.size+1) wq1.heap.size wq2.heap.size ((SB.o.step (zB (Below.refl _ _) _)).l (W1.heap.size,.int .i64 1) (by simp)) ((SB.o.step (zB (Below.refl _ _) _)).l (W1.heap.size+1,_) (by simp)) ((SB.o.step (zB (Below.refl _ _) _)).l (wq1.heap.size,.int .i64 8) (by simp)) ((SB.o.step (zB (Below.refl _ _) _)).l (wq1.heap.size+1,_) (by simp)) (zQ _ _)).mono ?_;rintro e wq3 ⟨rfl,hB⟩;replace SB:=Z ((SB.o.step (zB (Below.refl _ _) _)).step hB);clear hB;clear a0 a1 a2 a3 a4 a5 a6;obtain⟨a0,a1,a2,a3,a4,a5,a6⟩:=SB.o.x.al))
  all_goals (
   go_wp2_with fail
   go_meet
   exact⟨rfl,⟨SB.o.sub (by simp)⟩⟩)
 obtain⟨rfl,SB2⟩:=hcut;clear SB a0 a1 a2 a3 a4 a5 a6;have SB:=SB2;clear SB2;generalize wc=W2 at SB⊢;by_cases b:EE=0;rotate_left
 ·have hn:=HN.o b;simp only[Prod.mk.injEq,q0,Q.mk.injEq,St.mk.injEq]at hn;obtain⟨⟨⟨rfl,rfl⟩,rfl,rfl,rfl,rfl,rfl⟩,rfl⟩:=hn;have b1:(er != 0)=true:=by simpa using b
  clear HN HY HG HFI b;obtain⟨z0,z1,z2,z3,z4,z5,z6⟩:=SB.o.z.al;obtain⟨f0,f1,f2,f3,f4,f5,f6⟩:=SB.o.z.fr;go_wp2;refine bodyPost_ret (Tm.zO (cs:=#[.int .i64 0,.slice none 0 0,.int .i64 0,.int .u64 0,.int .u64 0,.int .i64 0,.slice none 0 0]) rfl _ _ (w.heap.size+1+1+1) 30 (0,0) _ rfl (zW SB.o.z.o rfl _ _ _ _ _ _ _) Tryz.underlying30 rfl (by kernel_rfl)) rfl ?_;exact⟨_,rfl,SB.o.zero HQ.o.sl (by omega)⟩
 have hqw:=HY.o b;simp only[Prod.mk.injEq]at hqw;obtain⟨hqw,rfl⟩:=hqw;have HGG:=Z (HG.o b);subst b;have HQW:=Z hqw;clear HN HY HG HFI hqw;have HW:=Z (fun(A:Option Addr) (c:Nat) (S:Nat→Prop) (W:World) (h:QIn S A c B d W ⟨⟨ns,rt⟩,cur,v,mn,load,ws⟩)=>(show Calls Tryz.prog 38 #[.agg #[.int .i64 rt,.slice A ns.length c,.int .i64 cur,.int .u64 v,.int .u64 mn,.int .i64 load,.slice B ws.length d],.int .i64 id,.int .i64 x] W fun e w'=>∃u,e=.returned u∧yY S W ⟨⟨ns7,rt7⟩,cur7,v7,mn7,load7,ws7⟩ u w' from by rw[HQW.o];exact weigh_ id x h HGG.o.1 HGG.o.2.2));obtain⟨a0,a1,a2,a3,a4,a5,a6⟩:=SB.o.x.al;have cid:=SB.o.l (w.heap.size+1,.int .i64 id) (by simp);have cx:=SB.o.l (w.heap.size+1+1,.int .i64 x) (by simp);go_wp2_with (go_at_call 38;go_loud (refine(HW.o _ _ _ _ SB.o.q).mono ?_;rintro e w7 ⟨u,rfl,hp⟩;obtain⟨A7,c7,B7,d7,rfl,hq7,hb7⟩:=hp.o;have HQ7:=Z hq7;replace SB:=Z (SB.o.step hb7);clear hp hq7 hb7;clear a0 a1 a2 a3 a4 a5 a6;obtain⟨z0,z1,z2,z3,z4,z5,z6⟩:=SB.o.z.al;obtain⟨f0,f1,f2,f3,f4,f5,f6⟩:=SB.o.z.fr));refine bodyPost_ret (Tm.zO (cs:=#[.int .i64 rt7,.slice A7 ns7.length c7,.int .i64 cur7,.int .u64 v7,.int .u64 mn7,.int .i64 load7,.slice B7 ws7.length d7]) rfl _ _ (w.heap.size+1+1+1) 30 (0,0) _ rfl (zW SB.o.z.o rfl _ _ _ _ _ _ _) Tryz.underlying30 rfl (by kernel_rfl)) rfl ?_;exact⟨_,rfl,SB.o.fin2 HQ7.o (by omega) (by omega)⟩
theorem Put_ (h:QIn S A c B d w q) (hT:Emp w) (r:Q × Int × Int) (hf:putA q=some r):Calls Tryz.prog 18 #[.agg (qc A c B d q)] w fun e w'=>∃u,e=.returned (.tuple #[u,.int .i64 r.2.1,.int .i64 r.2.2])∧yY S w r.1 u w':=by
 have HQ:=Z h;have HT:=Z hT;have HN:=Z (fun h:putE q≠0=>Option.some.inj (hf.symm.trans (putE_no h)));have HY:=Z (fun h:putE q=0=>(put_E hf).2.2.1 (zbQ h).1 (zbQ h).2);have HBK:=Z (fun(h:putE q=0) (x:Q) (hx:kX q=some x) (S':Nat→Prop) (W:World) (hq:QIn S' A c B d W q) (hT:Emp W)=>back_ hq hT (zbQ h).1 x hx);have HFI:=Z (fun{n z:Nat}{W:World}{L:List (Nat × Value)}(h:KB S n z A c B d q w W L)=>putFirst_ h);generalize putE q=EE at HN HY HBK HFI;clear h hT hf;obtain⟨⟨⟨ns7,rt7⟩,cur7,v7,mn7,load7,ws7⟩,lr,er⟩:=r;obtain⟨⟨ns,rt⟩,cur,v,mn,load,ws⟩:=q;replace HFI:=Z (fun{n z:Nat}{W:World}{L:List (Nat × Value)}(h:KB S n z A c B d ⟨⟨ns,rt⟩,cur,v,mn,load,ws⟩ w W L)=>HFI.o h);show Calls Tryz.prog 18 #[.agg #[.int .i64 rt,.slice A ns.length c,.int .i64 cur,.int .u64 v,.int .u64 mn,.int .i64 load,.slice B ws.length d]] w _;go_enter Tryz.func18,Tryz.ntmps18;go_upto_region 1 with(fail);obtain⟨W1,hW,SB⟩:=KB.st0 HQ.o HT.o
 dsimp only at hW
 rw[hW];replace SB:=Z SB;clear hW;obtain⟨a0,a1,a2,a3,a4,a5,a6⟩:=SB.o.x.al;go_cut [5] (fun s10 wx=>s10=.int .i64 EE∧zA (KB S 2 (w.heap.size+1) A c B d ⟨⟨ns,rt⟩,cur,v,mn,load,ws⟩ w wx []))
 case first=>
  go_region_held3 (fun w'=>w'.cell? ⟨w.heap.size,0,none⟩=some (.int .i64 rt)∧w'.cell? ⟨w.heap.size,1,none⟩=some (.slice A ns.length c)∧w'.cell? ⟨w.heap.size,2,none⟩=some (.int .i64 cur)∧w'.cell? ⟨w.heap.size,3,none⟩=some (.int .u64 v)∧w'.cell? ⟨w.heap.size,4,none⟩=some (.int .u64 mn)∧w'.cell? ⟨w.heap.size,5,none⟩=some (.int .i64 load)∧w'.cell? ⟨w.heap.size,6,none⟩=some (.slice B ws.length d)) (first|exact⟨a0,a1,a2,a3,a4,a5,a6⟩|exact⟨(SB.o.step (zB (Below.refl _ _) _)).x.c0,(SB.o.step (zB (Below.refl _ _) _)).x.c1,(SB.o.step (zB (Below.refl _ _) _)).x.c2,(SB.o.step (zB (Below.refl _ _) _)).x.c3,(SB.o.step (zB (Below.refl _ _) _)).x.c4,(SB.o.step (zB (Below.refl _ _) _)).x.c5,(SB.o.step (zB (Below.refl _ _) _)).x.c6⟩) (first
   | (go_at_call 56;refine(idle_ (ns:=ns) (rt:=rt) (A:=A) (c:=c) (cur:=cur) (v:=v) (mn:=mn) (load:=load) (B:=B) (ws:=ws) (d:=d) _).mono ?_;rintro e wq2 ⟨ih,ie,rfl,hc1,hc2,hqb,hB⟩;(first|replace SB:=Z (((SB.o.step hB).more hc1).more hc2)|replace SB:=Z (((SB.o.drew.step hB).more hc1).more hc2));have HIB:=Z (And.intro (show _=wq2 from rfl) hqb.c2);clear hc1 hc2 hqb hB;clear a0 a1 a2 a3 a4 a5 a6;obtain⟨a0,a1,a2,a3,a4,a5,a6⟩:=SB.o.x.al)
   | (go_at_call 27;refine(HFI.o (SB.o.step (zB (Below.refl _ _) _)) W1.drew.heap.size (zJ (zB (Below.refl _ _) _) HIB.o.2) ih ie wq2.heap.size ((SB.o.step (zB (Below.refl _ _) _)).l (ie,.int .i64 8) (by simp)) ((SB.o.step (zB (Below.refl _ _) _)).l (ih,_) (by simp)) (zQ _ _)).mono ?_;rintro e wq3 ⟨rfl,hB⟩;replace SB:=Z ((SB.o.step (zB (Below.refl _ _) _)).step hB);clear hB;clear a0 a1 a2 a3 a4 a5 a6;obtain⟨a0,a1,a2,a3,a4,a5,a6⟩:=SB.o.x.al))
  all_goals (
   go_wp2_with fail
   go_meet
   exact⟨rfl,⟨SB.o.sub (by simp)⟩⟩)
 obtain⟨rfl,SB2⟩:=hcut;clear SB a0 a1 a2 a3 a4 a5 a6;have SB:=SB2;clear SB2;generalize wc=W2 at SB⊢;by_cases b:EE=0;rotate_left
 ·have hn:=HN.o b;simp only[Prod.mk.injEq,q0,Q.mk.injEq,St.mk.injEq]at hn;obtain⟨⟨⟨rfl,rfl⟩,rfl,rfl,rfl,rfl,rfl⟩,rfl,rfl⟩:=hn;have b1:(er != 0)=true:=by simpa using b
  clear HN HY HBK HFI b;obtain⟨z0,z1,z2,z3,z4,z5,z6⟩:=SB.o.z.al;obtain⟨f0,f1,f2,f3,f4,f5,f6⟩:=SB.o.z.fr;go_wp2;refine bodyPost_ret (PA.yB (cs:=#[.int .i64 0,.slice none 0 0,.int .i64 0,.int .u64 0,.int .u64 0,.int .i64 0,.slice none 0 0]) rfl _ _ (w.heap.size+1) 30 (0,0) _ rfl (zW SB.o.z.o rfl _ _ _ _ _ _ _) Tryz.underlying30 rfl (by kernel_rfl)) rfl ?_;exact⟨_,rfl,SB.o.zero HQ.o.sl (by omega)⟩
 obtain⟨x,e1,e2⟩:=HY.o b;have HBX:=Z (HBK.o b _ e1);subst b;replace e2:=e2.symm;simp only[Prod.mk.injEq]at e2;obtain⟨rfl,rfl,rfl⟩:=e2;replace HBX:zA (∀(S':Nat→Prop) (W:World),QIn S' A c B d W ⟨⟨ns,rt⟩,cur,v,mn,load,ws⟩→Emp W→Calls Tryz.prog 30 #[.agg #[.int .i64 rt,.slice A ns.length c,.int .i64 cur,.int .u64 v,.int .u64 mn,.int .i64 load,.slice B ws.length d]] W fun e w'=>∃u,e=.returned u∧yY S' W ⟨⟨ns7,rt7⟩,cur7,v7,mn7,load7,ws7⟩ u w'):=HBX;clear HN HY HBK HFI e1;go_upto_region 4 with(fail);replace SB:=Z SB.o.drew;refine bg 7 (S:=fun w'=>HS rt A ns.length c cur v mn load B ws.length d w.heap.size w') SB.o.x.al ?_;generalize World.drew _=V0 at SB⊢;refine ld 0 15 SB.o.x.al ?_;refine pu 2 17 ?_;refine ld 3 18 SB.o.x.al ?_;refine ca 1 16 Tryz.func30 (HBX.o _ _ SB.o.q SB.o.t) ?_;rintro e wq ⟨u,rfl,hp⟩;obtain⟨A7,c7,B7,d7,rfl,hq7,hB⟩:=hp.o;have HQ7:=Z hq7;replace SB:=Z (SB.o.step hB);clear hp hq7 hB;refine⟨_,rfl,SB.o.x.al,?_⟩;obtain⟨z0,z1,z2,z3,z4,z5,z6⟩:=SB.o.z.al;obtain⟨f0,f1,f2,f3,f4,f5,f6⟩:=SB.o.z.fr;refine so 4 (SB.o.x.far7 (k:=w.heap.size+1) (by omega) _ _ _ _ _ _ _).al ?_;refine pu 5 3 ?_;refine pu 6 4 ?_;refine qG (by kernel_rfl) ?_;go_wp2;refine bodyPost_ret (PA.yB (cs:=#[.int .i64 rt7,.slice A7 ns7.length c7,.int .i64 cur7,.int .u64 v7,.int .u64 mn7,.int .i64 load7,.slice B7 ws7.length d7]) rfl _ _ (w.heap.size+1) 30 (0,0) _ rfl (zW SB.o.z.o rfl _ _ _ _ _ _ _) Tryz.underlying30 rfl (by kernel_rfl)) rfl ?_;exact⟨_,rfl,SB.o.fin2 HQ7.o (by omega) (by omega)⟩
end Go.Proofs.YtnkhnnojdlgfjaaGreatDoor.Qw
end
section
namespace Go.Proofs.YtnkhnnojdlgfjaaGreatDoor.Qw
open RowKit Tr Tk Tm Qu PA PB PC
variable {S : Nat → Prop} {A B : Option Addr} {c d : Nat} {w w' : World} {q : Q}
theorem rsame8_ {A1 A2:Option Addr}{c1 c2:Nat}(l:List K) (h1:kp.C w A1 l.length l) (h2:kp.C w A2 l.length l) (hl:l.length≤1000000):Calls Tryz.prog 12 #[.slice A1 l.length c1,.slice A2 l.length c2] w fun e w'=>e=.returned (.bool true)∧Below w.heap.size w w':=by
 have H1:=Z h1;have H2:=Z h2;have HL:=Z hl;clear h1 h2 hl;go_enter Tryz.func12,Tryz.ntmps12;go_wp2
 go_loopw [5] (fun i wr=>Sl1 (fun i wr=>i≤l.length∧zA (Below w.heap.size w wr)) i wr) (fun i _=>l.length-(intOf i).toNat)
 case atStart=>exact⟨0,by simp,Nat.zero_le _,⟨Below.refl _ _⟩⟩
 case round=>
  obtain⟨i,rfl,h1,HB⟩:=hrel.o;by_cases hlt:i<l.length;rotate_left
  ·obtain rfl:i=l.length:=by omega
   go_wp2;go_ret;exact⟨rfl,HB.o⟩
  obtain⟨a1,e1,x0,x1⟩:=Tk.C_at (Kd.zU H1.o HB.o) i hlt;subst e1;obtain⟨a2,e2,y0,y1⟩:=Tk.C_at (Kd.zU H2.o HB.o) i hlt;subst e2;generalize gt l i=x at x0 x1 y0 y1;have n1:(i:Int)<(l.length:Int):=by omega
  have hkn:i<1000001:=by have:=HL.o;omega
  go_wp2
  repeat (go_quiet (fail);try go_wp2)
  refine⟨⟨i+1,by simp,by omega,by first|exact⟨HB.o⟩|exact⟨zL HB.o _⟩⟩,?_⟩;show l.length-((i:Int)+1).toNat<l.length-(i:Int).toNat;omega
theorem rsame9_ {A1 A2:Option Addr}{c1 c2:Nat}(t:St) (h1:kn.C w A1 t.ns.length t.ns) (h2:kn.C w A2 t.ns.length t.ns) (hl:t.ns.length≤1000000):Calls Tryz.prog 96 #[.agg #[.int .i64 t.rt,.slice A1 t.ns.length c1],.agg #[.int .i64 t.rt,.slice A2 t.ns.length c2]] w fun e w'=>e=.returned (.bool true)∧Below w.heap.size w w':=by
 have H1:=Z h1;have H2:=Z h2;have HL:=Z hl;clear h1 h2 hl;obtain⟨ns,rt⟩:=t;simp only at H1 H2 HL⊢;have HX:=Z (zH (zQ w (.cells #[.int .i64 rt,.slice A1 ns.length c1] 27)) (zB (Below.refl _ _) (.cells #[.int .i64 rt,.slice A2 ns.length c2] 27)));have HY:=Z (zQ (w.alloc (.cells #[.int .i64 rt,.slice A1 ns.length c1] 27)) (.cells #[.int .i64 rt,.slice A2 ns.length c2] 27));have HB:=Z (zB (zB (Below.refl w.heap.size w) (.cells #[.int .i64 rt,.slice A1 ns.length c1] 27)) (.cells #[.int .i64 rt,.slice A2 ns.length c2] 27));simp only[World.size_alloc]at HY;go_enter Tryz.func96,Tryz.ntmps96;go_upto_region 1 with(fail);generalize(w.alloc (.cells #[.int .i64 rt,.slice A1 ns.length c1] 27)).alloc (.cells #[.int .i64 rt,.slice A2 ns.length c2] 27)=W1 at HX HY HB⊢;have a0:=(show W1.cell? ⟨w.heap.size,0,none⟩=some (.int .i64 rt)from(zC HX.o 0).trans rfl);have a1:=(show W1.cell? ⟨w.heap.size,1,none⟩=some (.slice A1 ns.length c1)from(zC HX.o 1).trans rfl);have b0:=(show W1.cell? ⟨w.heap.size+1,0,none⟩=some (.int .i64 rt)from(zC HY.o 0).trans rfl);have b1:=(show W1.cell? ⟨w.heap.size+1,1,none⟩=some (.slice A2 ns.length c2)from(zC HY.o 1).trans rfl);go_wp2;clear a0 a1 b0 b1
 go_loopw [5] (fun i wr=>Sl1 (fun i wr=>i≤ns.length∧zA (Below W1.heap.size W1 wr)) i wr) (fun i _=>ns.length-(intOf i).toNat)
 case atStart=>exact⟨0,by simp,Nat.zero_le _,⟨Below.refl _ _⟩⟩
 case round=>
  obtain⟨i,rfl,h1,HBW⟩:=hrel.o;have HB2:=Z (zD HB.o HBW.o);have a1:=(show wr.cell? ⟨w.heap.size,1,none⟩=some (.slice A1 ns.length c1)from(zC (zH HX.o HBW.o) 1).trans rfl);have b1:=(show wr.cell? ⟨w.heap.size+1,1,none⟩=some (.slice A2 ns.length c2)from(zC (zH HY.o HBW.o) 1).trans rfl);by_cases hlt:i<ns.length;rotate_left
  ·obtain rfl:i=ns.length:=by omega
   go_wp2;go_ret;exact⟨rfl,HB2.o⟩
  have n1:(i:Int)<(ns.length:Int):=by omega
  have hkn:i<1000001:=by have:=HL.o;omega
  obtain⟨p1,e1,x0,x1,x2,x3,x4,x5⟩:=kV (Kd.zU H1.o HB2.o) (i:Int) (Int.natCast_nonneg i) n1;replace e1:A1=some p1:=e1;subst e1;obtain⟨p2,e2,y0,y1,y2,y3,y4,y5⟩:=kV (Kd.zU H2.o HB2.o) (i:Int) (Int.natCast_nonneg i) n1;replace e2:A2=some p2:=e2;subst e2;rw[Int.toNat_natCast]at x0 x1 x2 x3 x4 x5 y0 y1 y2 y3 y4 y5;generalize ns.getD i emp=x at x0 x1 x2 x3 x4 x5 y0 y1 y2 y3 y4 y5;go_wp2
  repeat (go_quiet (fail);try go_wp2)
  refine⟨⟨i+1,by simp,by omega,by first|exact⟨HBW.o⟩|exact⟨zL HBW.o _⟩⟩,?_⟩;show ns.length-((i:Int)+1).toNat<ns.length-(i:Int).toNat;omega
theorem zbb {S2:Nat→Prop}{A2 B2:Option Addr}{c2 d2:Nat}(h1:QIn S A c B d w q) (h2:QIn S2 A2 c2 B2 d2 w q):Calls Tryz.prog 50 #[.agg (qc A c B d q),.agg (qc A2 c2 B2 d2 q)] w fun e w'=>e=.returned (.bool true)∧Below w.heap.size w w':=by
 have H1:=Z h1;have H2:=Z h2;clear h1 h2;obtain⟨⟨ns,rt⟩,cur,v,mn,load,ws⟩:=q;show Calls Tryz.prog 50 #[.agg #[.int .i64 rt,.slice A ns.length c,.int .i64 cur,.int .u64 v,.int .u64 mn,.int .i64 load,.slice B ws.length d],.agg #[.int .i64 rt,.slice A2 ns.length c2,.int .i64 cur,.int .u64 v,.int .u64 mn,.int .i64 load,.slice B2 ws.length d2]] w _;have HX:=Z ((QB.new w rt A ns.length c cur v mn load B ws.length d).below (zB (Below.refl _ _) (.cells #[.int .i64 rt,.slice A2 ns.length c2,.int .i64 cur,.int .u64 v,.int .u64 mn,.int .i64 load,.slice B2 ws.length d2] 30)));have HY:=Z (QB.new (w.alloc (.cells #[.int .i64 rt,.slice A ns.length c,.int .i64 cur,.int .u64 v,.int .u64 mn,.int .i64 load,.slice B ws.length d] 30)) rt A2 ns.length c2 cur v mn load B2 ws.length d2);have HB:=Z (zB (zB (Below.refl w.heap.size w) (.cells #[.int .i64 rt,.slice A ns.length c,.int .i64 cur,.int .u64 v,.int .u64 mn,.int .i64 load,.slice B ws.length d] 30)) (.cells #[.int .i64 rt,.slice A2 ns.length c2,.int .i64 cur,.int .u64 v,.int .u64 mn,.int .i64 load,.slice B2 ws.length d2] 30));simp only[World.size_alloc]at HY;go_enter Tryz.func50,Tryz.ntmps50;go_upto_region 1 with(fail);generalize(w.alloc (.cells #[.int .i64 rt,.slice A ns.length c,.int .i64 cur,.int .u64 v,.int .u64 mn,.int .i64 load,.slice B ws.length d] 30)).alloc (.cells #[.int .i64 rt,.slice A2 ns.length c2,.int .i64 cur,.int .u64 v,.int .u64 mn,.int .i64 load,.slice B2 ws.length d2] 30)=W1 at HX HY HB⊢;have a0:=HX.o.c0;have a1:=HX.o.c1;have b0:=HY.o.c0;have b1:=HY.o.c1;have HT1:=Z (fun(W:World) (hb:Below w.heap.size w W)=>rsame9_ (w:=W) (c1:=c) (c2:=c2) ⟨ns,rt⟩ (Kd.zU H1.o.trC hb) (Kd.zU H2.o.trC hb) H1.o.tl);go_upto_region 2 with(go_at_call 96;go_loud (refine(HT1.o _ HB.o).mono ?_;rintro e w2 ⟨rfl,hb⟩;have HX2:=Z (HX.o.below hb);have HY2:=Z (HY.o.below hb);have HB2:=Z (zD HB.o hb);clear hb a0 a1 b0 b1));obtain⟨a0,a1,a2,a3,a4,a5,a6⟩:=HX2.o.al;have b1:=HY2.o.c1;have b2:=HY2.o.c2;have b3:=HY2.o.c3;have b4:=HY2.o.c4;have b5:=HY2.o.c5;have b6:=HY2.o.c6;go_wp2;clear a0 a1 a2 a3 a4 a5 a6 b1 b2 b3 b4 b5 b6
 go_loopw [6] (fun i wr=>Sl1 (fun i wr=>i≤ws.length∧zA (Below w2.heap.size w2 wr)) i wr) (fun i _=>ws.length-(intOf i).toNat)
 case atStart=>exact⟨0,by simp,Nat.zero_le _,⟨Below.refl _ _⟩⟩
 case round=>
  obtain⟨i,rfl,h1,HBW⟩:=hrel.o;have HB3:=Z (zD HB2.o HBW.o);have a6:=(HX2.o.below HBW.o).c6;have b6:=(HY2.o.below HBW.o).c6;have hwl:ws.length≤1000000:=H1.o.wl;by_cases hlt:i<ws.length;rotate_left
  ·obtain rfl:i=ws.length:=by omega
   go_wp2;go_ret;exact⟨rfl,HB3.o⟩
  have n1:(i:Int)<(ws.length:Int):=by omega
  have hkn:i<1000001:=by omega
  obtain⟨p1,e1,x0⟩:=wK (Kd.zU H1.o.wrC HB3.o) i hlt;replace e1:B=some p1:=e1;subst e1;obtain⟨p2,e2,y0⟩:=wK (Kd.zU H2.o.wrC HB3.o) i hlt;replace e2:B2=some p2:=e2;subst e2;replace x0:wr.cell? (p1.add i)=some (.int .i64 (ws.getD i 0)):=x0;replace y0:wr.cell? (p2.add i)=some (.int .i64 (ws.getD i 0)):=y0;generalize ws.getD i 0=x at x0 y0;go_wp2
  repeat (go_quiet (fail);try go_wp2)
  refine⟨⟨i+1,by simp,by omega,by first|exact⟨HBW.o⟩|exact⟨zL HBW.o _⟩⟩,?_⟩;show ws.length-((i:Int)+1).toNat<ws.length-(i:Int).toNat;omega
end Go.Proofs.YtnkhnnojdlgfjaaGreatDoor.Qw
end
section
namespace Go.Proofs.YtnkhnnojdlgfjaaGreatDoor.Qw
open RowKit Tr Tk Tm Qu
structure FQ (q:Q) (rt:Int) (n:Nat) (cur v mn load:Int) (m:Nat):Prop where
 h0:q.t.rt=rt
 h1:q.t.ns.length=n
 h2:q.cur=cur
 h3:q.v=v
 h4:q.mn=mn
 h5:q.load=load
 h6:q.ws.length=m
def aq:Q:=(newQ 5 18446744073709551613).1
def aa:Q:=((jZ aq 3 1024 0).getD (q0,0)).1
def ab:Q:=((jZ aa 1 1024 0).getD (q0,0)).1
def ac:Q:=((vJ ab).getD (q0,0,0)).1
def ad:Q:=(jW ac 5).1
def ax:Q:=((vJ ad).getD (q0,0,0)).1
theorem a_q:newQ 5 18446744073709551613=(aq,0):=by kernel_rfl
theorem a_a:jZ aq 3 1024 0=some (aa,0):=by kernel_rfl
theorem a_b:jZ aa 1 1024 0=some (ab,0):=by kernel_rfl
theorem a_c:vJ ab=some (ac,1,0):=by kernel_rfl
theorem a_d:jW ac 5=(ad,true,0):=by kernel_rfl
theorem a_x:vJ ad=some (ax,3,0):=by kernel_rfl
theorem a_k:jZ ax 3 1024 0=some (q0,9):=by kernel_rfl
theorem a_l:vG ax 0=some (q0,0,8):=by kernel_rfl
theorem a_y:(zao ax).length=2:=by kernel_rfl
theorem a_r:zP ax=true:=by kernel_rfl
theorem f_q:FQ aq (-1) 5 (-1) 0 18446744073709551613 0 5:=⟨by kernel_rfl,by kernel_rfl,by kernel_rfl,by kernel_rfl,by kernel_rfl,by kernel_rfl,by kernel_rfl⟩
theorem f_a:FQ aa 3 5 (-1) 0 18446744073709551613 1024 5:=⟨by kernel_rfl,by kernel_rfl,by kernel_rfl,by kernel_rfl,by kernel_rfl,by kernel_rfl,by kernel_rfl⟩
theorem f_b:FQ ab 3 5 (-1) 0 18446744073709551613 2048 5:=⟨by kernel_rfl,by kernel_rfl,by kernel_rfl,by kernel_rfl,by kernel_rfl,by kernel_rfl,by kernel_rfl⟩
theorem f_c:FQ ac 3 5 1 18446744073709551613 18446744073709551613 2048 5:=⟨by kernel_rfl,by kernel_rfl,by kernel_rfl,by kernel_rfl,by kernel_rfl,by kernel_rfl,by kernel_rfl⟩
theorem f_d:FQ ad 3 5 1 2 18446744073709551613 2048 5:=⟨by kernel_rfl,by kernel_rfl,by kernel_rfl,by kernel_rfl,by kernel_rfl,by kernel_rfl,by kernel_rfl⟩
theorem f_x:FQ ax 1 5 3 18446744073709551613 18446744073709551613 2048 5:=⟨by kernel_rfl,by kernel_rfl,by kernel_rfl,by kernel_rfl,by kernel_rfl,by kernel_rfl,by kernel_rfl⟩
theorem f_0:FQ q0 0 0 0 0 0 0 0:=⟨rfl,rfl,rfl,rfl,rfl,rfl,rfl⟩
end Go.Proofs.YtnkhnnojdlgfjaaGreatDoor.Qw
end
