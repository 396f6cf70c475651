/- Parts of the proof, joined: Q4, Q5. -/
import Derived.Test.YtnkhnnojdlgfjaaGreatDoorUI20
set_option linter.unusedVariables false
set_option linter.unusedSimpArgs false
set_option maxHeartbeats 32000000
set_option maxRecDepth 100000
section
namespace Go.Proofs.YtnkhnnojdlgfjaaGreatDoor.Qw
open RowKit Tr Tk Tm Qu PA PB PC
variable {S : Nat → Prop} {A B : Option Addr} {c d : Nat} {w w' : World} {q : Q}
theorem up_ (h:QIn S A c B d w q) (hr:yJ q.t q.mn=true) (hc:kH q) (hT:Emp w):Calls Tryz.prog 33 #[.agg (qc A c B d q)] w fun e w'=>∃u,e=.returned u∧yY S w (upA q) u w':=by
 have HQ:=Z h;have HT:=Z hT;have HK:=Z (fun(W:World) (h:QIn S A c B d W q) (hT:Emp W)=>keys_ h hr hc hT);clear h hT hr hc;have HU:=Z (show upA q=match yH q with | []=>q|k::_=>{ q with mn:=xB q.mn k.1 }from rfl);generalize hu:upA q=qu at HU⊢;generalize yH q=K1 at HK HU;clear hu;obtain⟨⟨ns,rt⟩,cur,v,mn,load,ws⟩:=q;replace HK:zA (∀(W:World),QIn S A c B d W ⟨⟨ns,rt⟩,cur,v,mn,load,ws⟩→Emp W→Calls Tryz.prog 26 #[.agg #[.int .i64 rt,.slice A ns.length c,.int .i64 cur,.int .u64 v,.int .u64 mn,.int .i64 load,.slice B ws.length d]] W fun e w'=>jU W K1 e w'):=HK;show Calls Tryz.prog 33 #[.agg #[.int .i64 rt,.slice A ns.length c,.int .i64 cur,.int .u64 v,.int .u64 mn,.int .i64 load,.slice B ws.length d]] w _;go_enter Tryz.func33,Tryz.ntmps33;go_upto_region 1 with(fail);have HX:=Z ((QB.new w rt A ns.length c cur v mn load B ws.length d).below (zB (Below.refl _ _) (.cells #[.int .i64 0,.slice none 0 0,.int .i64 0,.int .u64 0,.int .u64 0,.int .i64 0,.slice none 0 0] 30)));have HZ:=Z (QB.new (w.alloc (.cells #[.int .i64 rt,.slice A ns.length c,.int .i64 cur,.int .u64 v,.int .u64 mn,.int .i64 load,.slice B ws.length d] 30)) 0 none 0 0 0 0 0 0 none 0 0);have HB:=Z (zB (zB (Below.refl w.heap.size w) (.cells #[.int .i64 rt,.slice A ns.length c,.int .i64 cur,.int .u64 v,.int .u64 mn,.int .i64 load,.slice B ws.length d] 30)) (.cells #[.int .i64 0,.slice none 0 0,.int .i64 0,.int .u64 0,.int .u64 0,.int .i64 0,.slice none 0 0] 30));simp only[World.size_alloc]at HZ;generalize(w.alloc (.cells #[.int .i64 rt,.slice A ns.length c,.int .i64 cur,.int .u64 v,.int .u64 mn,.int .i64 load,.slice B ws.length d] 30)).alloc (.cells #[.int .i64 0,.slice none 0 0,.int .i64 0,.int .u64 0,.int .u64 0,.int .i64 0,.slice none 0 0] 30)=W1 at HX HZ HB⊢;obtain⟨a0,a1,a2,a3,a4,a5,a6⟩:=HX.o.al;have HQ1:=Z (HQ.o.below HB.o);have HT1:=Z (HT.o.below HB.o);go_upto_region 2 with(go_at_call 26;refine(HK.o _ HQ1.o HT1.o).mono ?_;rintro e w2 ⟨v1,rfl,hR,hb⟩;obtain⟨A2,c2,hv2,hlc2,hC2⟩:=Kd.yE hR;subst hv2;have HC2:=Z hC2;have HX2:=Z (HX.o.below hb);have HZ2:=Z (HZ.o.below hb);have HB2:=Z (zD HB.o hb);clear hR hb hC2 hlc2);clear a0 a1 a2 a3 a4 a5 a6;cases K1 with
 | nil=>
  obtain rfl:qu=⟨⟨ns,rt⟩,cur,v,mn,load,ws⟩:=HU.o;obtain⟨a0,a1,a2,a3,a4,a5,a6⟩:=HX2.o.al;obtain⟨z0,z1,z2,z3,z4,z5,z6⟩:=HZ2.o.al;obtain⟨f0,f1,f2,f3,f4,f5,f6⟩:=HZ2.o.fr;go_wp2;refine bodyPost_ret (yK (cs:=#[.int .i64 rt,.slice A ns.length c,.int .i64 cur,.int .u64 v,.int .u64 mn,.int .i64 load,.slice B ws.length d]) rfl _ _ (w.heap.size+1) 30 (0,0) _ rfl (zW HZ2.o.o rfl _ _ _ _ _ _ _) Tryz.underlying30 rfl (by kernel_rfl)) rfl ?_;have HBE:=yS HB2.o (g:=w.heap.size+1) (by omega) (.int .i64 rt) (.slice A ns.length c) (.int .i64 cur) (.int .u64 v) (.int .u64 mn) (.int .i64 load) (.slice B ws.length d);exact⟨_,rfl,_,_,_,_,rfl,HQ.o.below HBE,HBE⟩
 | cons k R=>
  obtain rfl:qu=⟨⟨ns,rt⟩,cur,v,xB mn k.1,load,ws⟩:=HU.o;obtain⟨ad,e1,k0,k1⟩:=Tk.C_at HC2.o 0 (by simp);subst e1;have a4:=HX2.o.c4;have f4:=HX2.o.frozen 4;replace k0:w2.cell? ad=some (.int .u64 k.1):=by simpa [gt,Addr.add]using k0
  clear k1;go_upto_region 3 with(fail)
  go_region_with (go_at_call 85;refine(later_ mn k.1 _).mono ?_;rintro e w3 ⟨rfl,hb0⟩;have hb:Below w2.heap.size w2 w3:=(Below.drew (Below.refl _ _)).trans hb0;clear hb0;have HX3:=Z (HX2.o.below hb);have HZ3:=Z (HZ2.o.below hb);have HB3:=Z (zD HB2.o hb);clear hb;have a4:=HX3.o.c4;have f4:=HX3.o.frozen 4)
  all_goals (
   have HX4:=Z (HX3.o.st4 (xB mn k.1));have HZ4:=Z (HZ3.o.far (k:=w.heap.size) (by omega) 4 (.int .u64 (xB mn k.1)));have HB4:=Z (Below.setCell HB3.o (p:=⟨w.heap.size,4,none⟩) (Nat.le_refl _) (.int .u64 (xB mn k.1)));clear a4 f4 k0;generalize w3.setCell ⟨w.heap.size,4,none⟩ (.int .u64 (xB mn k.1))=w4 at HX4 HZ4 HB4⊢;obtain⟨a0,a1,a2,a3,a4,a5,a6⟩:=HX4.o.al;obtain⟨z0,z1,z2,z3,z4,z5,z6⟩:=HZ4.o.al;obtain⟨f0,f1,f2,f3,f4,f5,f6⟩:=HZ4.o.fr;go_wp2;refine bodyPost_ret (yK (cs:=#[.int .i64 rt,.slice A ns.length c,.int .i64 cur,.int .u64 v,.int .u64 (xB mn k.1),.int .i64 load,.slice B ws.length d]) rfl _ _ (w.heap.size+1) 30 (0,0) _ rfl (zW HZ4.o.o rfl _ _ _ _ _ _ _) Tryz.underlying30 rfl (by kernel_rfl)) rfl ?_;have HBE:=yS HB4.o (g:=w.heap.size+1) (by omega) (.int .i64 rt) (.slice A ns.length c) (.int .i64 cur) (.int .u64 v) (.int .u64 (xB mn k.1)) (.int .i64 load) (.slice B ws.length d);exact⟨_,rfl,_,_,_,_,rfl,(HQ.o.below HBE).fields rfl rfl,HBE⟩)
theorem far_eq (lag:Int):(lag != q9 lag (-1125899906842624) 1125899906842624)=(decide (lag < -1125899906842624) || decide (1125899906842624<lag)):=by
 refine bool_ext ?_;rw[bne_iff_ne,Bool.or_eq_true,decide_eq_true_iff,decide_eq_true_iff];unfold q9
 repeat' split
 all_goals omega
theorem far_ (k:K) (g:Nat) (mn:Int) (w:World) (hm:w.cell? ⟨g,4,none⟩=some (.int .u64 mn)):Calls Tryz.prog 68 #[.agg #[.int .u64 k.1,.int .i64 k.2],.pointer (some ⟨g,0,none⟩)] w fun e w'=>e=.returned (.bool (farA mn k))∧Below w.heap.size w w':=by
 have HB:=Z (zB (Below.refl w.heap.size w) (.cells #[.int .u64 k.1,.int .i64 k.2] 38));have hlt:=World.block_lt_of_cell? w _ hm;unfold farA;have HLG:=Z (fun W=>lag_ k.1 mn W);generalize lagf mn k.1=lg at HLG⊢;have HF:=Z (far_eq lg);go_enter Tryz.func68,Tryz.ntmps68;go_wp2_with (first
  | (go_at_call 39;refine(HLG.o _).mono ?_;rintro e w2 ⟨rfl,hb⟩;have HB2:=Z (zD HB.o hb);clear hb)
  | (go_at_call 44;refine(clamp_ lg (-1125899906842624) 1125899906842624 _).mono ?_;rintro e w3 ⟨rfl,hb⟩;have HB3:=Z (zD HB2.o hb);clear hb))
 go_ret;exact⟨by rw[←HF.o];rfl,HB3.o⟩
theorem index_ (p:K→Bool) (A0:Option Addr) (c0:Nat) (l:List K) (w:World) (g:Nat) (hr:kp.C w A0 l.length l) (hl:l.length≤1000000)
  (hp:∀(W:World) (x:K),Below w.heap.size w W→Calls Tryz.prog 68 #[.agg #[.int .u64 x.1,.int .i64 x.2],.pointer (some ⟨g,0,none⟩)] W fun e w'=>e=.returned (.bool (p x))∧Below W.heap.size W w') :
  Calls Tryz.prog 115 #[.slice A0 l.length c0,.func (.func 68) #[] #[.pointer (some ⟨g,0,none⟩)]] w fun e w'=>∃r,e=.returned (.int .i64 r)∧decide (0≤r)=l.any p∧Below w.heap.size w w':=by
 have HR:=Z hr;have HP:=Z hp;clear hr hp;go_enter Tryz.func115,Tryz.ntmps115;go_wp2
 go_loopw [8] (fun i wr=>Sl1 (fun i wr=>i≤l.length∧zA (Below w.heap.size w wr)∧zA (∀t,t<i→p (gt l t)=false)) i wr) (fun i _=>l.length-(intOf i).toNat)
 case atStart=>exact⟨0,by simp,Nat.zero_le _,⟨Below.refl _ _⟩,⟨fun t ht=>by omega⟩⟩
 case round=>
  obtain⟨i,rfl,h1,HB,HN⟩:=hrel.o;by_cases hlt:i<l.length
  ·obtain⟨ad2,e2,c1,c2⟩:=Tk.C_at (Kd.zU HR.o HB.o) i hlt;subst e2;have HM:=Z (gt_mem l i hlt);generalize hx:gt l i=x at c1 c2 HM;have HX:=Z hx;have n1:(i:Int)<(l.length:Int):=by omega
   clear hx;cases hpx:p x with
   | true=>
    have HPX:=Z hpx;clear hpx;go_wp2_with (go_at_call 68;(with_reducible refine(HP.o _ x HB.o).mono ?_);rintro e w3 ⟨rfl,hb⟩;have HB2:=Z (zD HB.o hb);clear hb;rw[HPX.o]);go_ret;exact⟨_,rfl,by rw[List.any_eq_true.2 ⟨x,HM.o,HPX.o⟩];exact decide_eq_true (Int.natCast_nonneg i),HB2.o⟩
   | false=>
    have HPX:=Z hpx;clear hpx;go_wp2_with (go_at_call 68;(with_reducible refine(HP.o _ x HB.o).mono ?_);rintro e w3 ⟨rfl,hb⟩;have HB2:=Z (zD HB.o hb);clear hb;rw[HPX.o]);refine⟨⟨i+1,by simp,by omega,HB2,⟨fun t ht=>?_⟩⟩,?_⟩
    ·by_cases e:t=i
     ·subst e;rw[HX.o];exact HPX.o
     ·exact HN.o t (by omega)
    ·show l.length-((i:Int)+1).toNat<l.length-(i:Int).toNat;omega
  ·obtain rfl:i=l.length:=by omega
   go_wp2;go_ret;refine⟨_,rfl,?_,HB.o⟩;rw[show l.any p=false from List.any_eq_false.2 fun x hx=>by
    obtain⟨t,ht,rfl⟩:=List.mem_iff_getElem.1 hx;have:=HN.o t ht;rw[qV l t ht]at this;simp[this]]
   rfl
theorem contains_ (p:K→Bool) (A0:Option Addr) (c0:Nat) (l:List K) (w:World) (g:Nat) (hr:kp.C w A0 l.length l) (hl:l.length≤1000000)
  (hp:∀(W:World) (x:K),Below w.heap.size w W→Calls Tryz.prog 68 #[.agg #[.int .u64 x.1,.int .i64 x.2],.pointer (some ⟨g,0,none⟩)] W fun e w'=>e=.returned (.bool (p x))∧Below W.heap.size W w') :
  Calls Tryz.prog 69 #[.slice A0 l.length c0,.func (.func 68) #[] #[.pointer (some ⟨g,0,none⟩)]] w fun e w'=>e=.returned (.bool (l.any p))∧Below w.heap.size w w':=by
 have HR:=Z hr;have HP:=Z hp;clear hr hp;go_enter Tryz.func69,Tryz.ntmps69;go_wp2_with (go_at_call 115;refine(index_ p A0 c0 l _ g HR.o hl HP.o).mono ?_;rintro e w2 ⟨r,rfl,hr,hb⟩;have HRR:=Z hr;have HB:=Z hb;clear hr hb);go_ret;exact⟨by rw[←HRR.o];rfl,HB.o⟩
end Go.Proofs.YtnkhnnojdlgfjaaGreatDoor.Qw
end
section
namespace Go.Proofs.YtnkhnnojdlgfjaaGreatDoor.Qw
open RowKit Tr Tk Tm Qu PA PB PC
variable {S : Nat → Prop} {A B : Option Addr} {c d : Nat} {w w' : World} {q : Q}
theorem right_T {q:Q}(h:okT q=false):zP q=false:=by
 unfold zP;rw[h,Bool.false_and]
theorem right_C {q:Q}(h:okC q=false):zP q=false:=by
 unfold zP;rw[h,Bool.false_and,Bool.and_false]
theorem right_W {q:Q}(i:Nat) (hi:i<q.ws.length) (h:okI q i=false):zP q=false:=by
 have e:okW q=false:=by
  unfold okW;refine Bool.eq_false_iff.2 fun e=>?_
  rw[List.all_eq_true]at e;have:=e i (List.mem_range.2 hi);rw[h]at this;cases this
 unfold zP;rw[e,Bool.false_and,Bool.and_false,Bool.and_false]
theorem right_E {q:Q}(h1:okT q=true) (h2:okC q=true) (h3:∀i,i<q.ws.length→okI q i=true):zP q=(sumA q.ws 0==q.load&&!((yH q).any (farA q.mn))):=by
 unfold zP;rw[h1,h2,show okW q=true from by
  unfold okW;rw[List.all_eq_true];exact fun i hi=>h3 i (List.mem_range.1 hi)]
 simp
theorem sum_app:∀(l:List Int) (x s:Int),sumA (l++[x]) s=wrap64 (sumA l s+x)
 | [],x,s=>rfl
 | w::l,x,s=>sum_app l x _
theorem sum_take (l:List Int) (k:Nat) (h:k<l.length):sumA (l.take (k+1)) 0=wrap64 (sumA (l.take k) 0+l.getD k 0):=by
 rw[List.take_succ_eq_append_getElem h,sum_app,List.getD_eq_getElem?_getD,List.getElem?_eq_getElem h]
 rfl
structure SRel (q:Q) (ws:List Int) (w:World) (s i:Value) (k:Nat) (wr:World):Prop where mk::
 le:k≤ws.length
 hi:i=.int .i64 (k:Int)
 hs:s=.int .i64 (sumA (ws.take k) 0)
 ok:∀j,j<k→okI q j=true
 hb:Below w.heap.size w wr
structure SRl (q:Q) (ws:List Int) (w:World) (s i:Value) (wr:World):Prop where mk::
 o:∃k,SRel q ws w s i k wr
theorem zcP (h:QIn S A c B d w q) (hT:Emp w):Calls Tryz.prog 22 #[.agg (qc A c B d q)] w fun e w'=>e=.returned (.bool (zP q))∧Below w.heap.size w w':=by
 have HQ:=Z h;have HT:=Z hT;clear h hT;have E1:=Z (fun h:okT q=false=>right_T h);have E2:=Z (fun h:okC q=false=>right_C h);have E3:=Z (fun i (hi:i<q.ws.length) (h:okI q i=false)=>right_W i hi h);have E4:=Z (fun(h1:okT q=true) (h2:okC q=true) (h3:∀i,i<q.ws.length→okI q i=true)=>right_E h1 h2 h3);have ET:=Z (show okT q=(decide (q.ws.length=q.t.ns.length)&&(decide (-1≤q.cur)&&(decide (q.cur<(q.t.ns.length:Int))&&yJ q.t q.mn)))from rfl);have EC:=Z (show okC q=if q.cur=-1 then q.v==0 else !(inA q.t q.cur)from rfl);obtain⟨qq,hqq⟩:∃qq,qq=q:=⟨_,rfl⟩;have HQQ:=Z hqq;generalize hrq:zP q=RQ at E1 E2 E3 E4⊢;generalize hot:okT q=OT at E1 E4 ET;generalize hoc:okC q=OC at E2 E4 EC;clear hrq hot hoc hqq;obtain⟨⟨ns,rt⟩,cur,v,mn,load,ws⟩:=q;replace HQQ:zA (qq=⟨⟨ns,rt⟩,cur,v,mn,load,ws⟩):=HQQ;have HK:=Z (fun(W:World) (h:QIn S A c B d W ⟨⟨ns,rt⟩,cur,v,mn,load,ws⟩) (hr:yJ ⟨ns,rt⟩ mn=true) (hc:kH qq) (hT:Emp W)=>(show Calls Tryz.prog 26 #[.agg #[.int .i64 rt,.slice A ns.length c,.int .i64 cur,.int .u64 v,.int .u64 mn,.int .i64 load,.slice B ws.length d]] W fun e w'=>jU W (yH qq) e w' from by
  rw[HQQ.o]at hc⊢;exact keys_ h hr hc hT))
 have HH:=Z (fun(W:World) (id:Int) (h:QIn S A c B d W ⟨⟨ns,rt⟩,cur,v,mn,load,ws⟩) (h0:0≤id) (h1:id<(ns.length:Int))=>(show Calls Tryz.prog 37 #[.agg #[.int .i64 rt,.slice A ns.length c,.int .i64 cur,.int .u64 v,.int .u64 mn,.int .i64 load,.slice B ws.length d],.int .i64 id] W fun e w'=>e=.returned (.bool (yV qq id))∧Below W.heap.size W w' from by
  rw[HQQ.o];exact here_ id h h0 h1))
 have HLN:=Z (fun(h1:yJ ⟨ns,rt⟩ mn=true) (hc:kH qq)=>(show(yH qq).length≤65 from by
  rw[HQQ.o]at hc⊢;exact zbW h1 hc))
 have HOI:=Z (fun i:Nat=>(show okI qq i=((yV qq (i:Int)==yF (ws.getD i 0))&&(yV qq (i:Int) || ws.getD i 0==0))from by rw[HQQ.o];rfl));replace E3:zA (∀i,i<ws.length→okI qq i=false→RQ=false):=by rw[HQQ.o];exact E3
 replace E4:zA (OT=true→OC=true→(∀i,i<ws.length→okI qq i=true)→RQ=(sumA ws 0==load&&!((yH qq).any (farA mn)))):=by rw[HQQ.o];exact E4
 have HCO:=Z (fun h:(cur=-1∨0≤cur∧inA ⟨ns,rt⟩ cur=false)=>(show kH qq from by rw[HQQ.o];exact⟨h⟩));replace ET:zA (OT=(decide (ws.length=ns.length)&&(decide (-1≤cur)&&(decide (cur<(ns.length:Int))&&yJ ⟨ns,rt⟩ mn)))):=ET;replace EC:zA (OC=if cur=-1 then v==0 else !(inA ⟨ns,rt⟩ cur)):=EC;show Calls Tryz.prog 22 #[.agg #[.int .i64 rt,.slice A ns.length c,.int .i64 cur,.int .u64 v,.int .u64 mn,.int .i64 load,.slice B ws.length d]] w _;go_enter Tryz.func22,Tryz.ntmps22;go_upto_region 1 with(fail);have HX:=Z (QB.new w rt A ns.length c cur v mn load B ws.length d);have HB:=Z (zB (Below.refl w.heap.size w) (.cells #[.int .i64 rt,.slice A ns.length c,.int .i64 cur,.int .u64 v,.int .u64 mn,.int .i64 load,.slice B ws.length d] 30));generalize w.alloc (.cells #[.int .i64 rt,.slice A ns.length c,.int .i64 cur,.int .u64 v,.int .u64 mn,.int .i64 load,.slice B ws.length d] 30)=W1 at HX HB⊢;have HQ1:=Z (HQ.o.below HB.o);have HT1:=Z (HT.o.below HB.o);obtain⟨a0,a1,a2,a3,a4,a5,a6⟩:=HX.o.al;go_upto_region 2 with(fail);by_cases b1:ws.length=ns.length
 case neg=>
  have HR:=Z (E1.o (by rw[ET.o,decide_eq_false b1,Bool.false_and]));have b2:((ws.length:Int) != (ns.length:Int))=true:=bne_iff_ne.2 (by omega);clear b1;go_wp2;go_ret;exact⟨by rw[HR.o];rfl,HB.o⟩
 have HL:=Z b1;have b2:((ws.length:Int) != (ns.length:Int))=false:=bne_eq_false_iff_eq.2 (by omega);clear b1;by_cases b3:cur < -1
 ·have HR:=Z (E1.o (by rw[ET.o,show decide (-1≤cur)=false from decide_eq_false (by omega),Bool.false_and,Bool.and_false]));go_wp2;go_ret;exact⟨by rw[HR.o];rfl,HB.o⟩
 have b3':decide (cur < -1)=false:=decide_eq_false b3;by_cases b4:cur<(ns.length:Int)
 case neg=>
  have HR:=Z (E1.o (by rw[ET.o,decide_eq_false b4,Bool.false_and,Bool.and_false,Bool.and_false]));have b4':decide ((ns.length:Int)≤cur)=true:=decide_eq_true (by omega);have b4'':(ns.length:Int)≤cur:=by omega
  go_wp2;go_ret;exact⟨by rw[HR.o];rfl,HB.o⟩
 have b4':decide ((ns.length:Int)≤cur)=false:=decide_eq_false (by omega);have b4'':¬(ns.length:Int)≤cur:=by omega
 cases b5:yJ ⟨ns,rt⟩ mn with
 | false=>
  have HR:=Z (E1.o (by rw[ET.o,b5,Bool.and_false,Bool.and_false,Bool.and_false]));have HB5:=Z b5;clear b5;go_wp2_with (go_at_call 67;refine(zbf (t:=⟨ns,rt⟩) A c mn HQ1.o.trC HQ1.o.tl HT1.o).mono ?_;rintro e w2 ⟨rfl,hb⟩;have HB2:=Z (zD HB.o hb);clear hb;rw[HB5.o]);go_ret;exact⟨by rw[HR.o];rfl,HB2.o⟩
 | true=>
  have HOT:=Z (show OT=true by rw[ET.o,b5,decide_eq_true HL.o,decide_eq_true b4,decide_eq_true (show -1≤cur by omega)];rfl);have HB5:=Z b5;clear b5;go_upto_region 4 with(go_at_call 67;refine(zbf (t:=⟨ns,rt⟩) A c mn HQ1.o.trC HQ1.o.tl HT1.o).mono ?_;rintro e w2 ⟨rfl,hb⟩;have HX2:=Z (HX.o.below hb);have HB2:=Z (zD HB.o hb);have HQ2:=Z (HQ1.o.below hb);have HT2:=Z (HT1.o.below hb);clear hb;rw[HB5.o]);clear a0 a1 a2 a3 a4 a5 a6;obtain⟨a0,a1,a2,a3,a4,a5,a6⟩:=HX2.o.al;go_cut [59] (fun s59 wx=>s59=.bool (!OC)∧wx=w2)
  case first=>
   by_cases d1:cur=-1
   ·have d2:(cur==-1)=true:=by simpa using d1
    have d3:(cur != -1)=false:=by simpa using d1
    have HO:=Z (EC.o.trans (if_pos d1));clear d1;cases d4:v==0 with
    | true=>
     have d5:(v != 0)=false:=by unfold bne;rw[d4];rfl
     rw[d4]at HO;go_wp2_with fail
     go_meet
     exact⟨by rw[HO.o];rfl,rfl⟩
    | false=>
     have d5:(v != 0)=true:=by unfold bne;rw[d4];rfl
     rw[d4]at HO;go_wp2_with fail
     go_meet
     exact⟨by rw[HO.o];rfl,rfl⟩
   have d2:(cur==-1)=false:=by simpa using d1
   have d3:(cur != -1)=true:=by simpa using d1
   have HO:=Z (EC.o.trans (if_neg d1));have h0:0≤cur:=by omega
   obtain⟨ad,e0,n0,n1,n2,n3,n4,n5⟩:=kV HQ2.o.trC cur h0 b4'';clear n1 n2 n3 n4 n5;replace e0:A=some ad:=e0;subst e0;replace n0:w2.cell? (ad.add (cur.toNat*6))=some (.bool (inA ⟨ns,rt⟩ cur)):=n0;clear d1;generalize inA ⟨ns,rt⟩ cur=bi at n0 HO;go_wp2_with fail
   go_meet
   exact⟨by rw[HO.o,Bool.not_not],rfl⟩
  case rest=>
   obtain⟨rfl,rfl⟩:=hcut;cases OC with
   | false=>
    have HR:=Z (E2.o rfl);go_wp2;go_ret;exact⟨by rw[HR.o];rfl,HB2.o⟩
   | true=>
    have HCU:=Z (HCO.o (by
     have he:=EC.o;by_cases d1:cur=-1
     ·exact Or.inl d1
     rw[if_neg d1]at he;exact Or.inr ⟨by omega,by simpa using he.symm⟩))
    clear E2 EC;go_wp2
    go_loopw [4,63] (fun s i wr=>SRl qq ws wc s i wr) (fun s i wr=>ws.length-(intOf i).toNat)
    case atStart=>exact⟨0,Nat.zero_le _,rfl,rfl,fun j hj=>by omega,Below.refl _ _⟩
    case round=>
     obtain⟨k,hle,rfl,rfl,hok,hb⟩:=hrel.o;clear hrel a0 a1 a2 a3 a4 a5 a6;have HOK:=Z hok;have HX3:=Z (HX2.o.below hb);have HQ3:=Z (HQ2.o.below hb);have HT3:=Z (HT2.o.below hb);have HB3:=Z (zD HB2.o hb);have HBW:=Z hb;clear hok hb;obtain⟨a0,a1,a2,a3,a4,a5,a6⟩:=HX3.o.al;by_cases hlt:k<ws.length;rotate_left
     ·obtain rfl:k=ws.length:=by omega
      have HE:=Z (E4.o HOT.o (by first|rfl|trivial) HOK.o);rw[List.take_length];generalize sumA ws 0=sm at HE⊢;cases hs:sm==load with
      | false=>
       rw[hs]at HE;go_wp2;go_ret;exact⟨by rw[HE.o];rfl,HB3.o⟩
      | true=>
       rw[hs]at HE;have HLK:=Z (HLN.o HB5.o HCU.o);have HFA:=Z (fun(W:World) (x:K) (h:W.cell? ⟨w.heap.size,4,none⟩=some (.int .u64 mn))=>far_ x w.heap.size mn W h);generalize yH qq=KL at HK HE HLK;generalize farA mn=fa at HFA HE;go_wp2_with (first
        | (go_at_call 26;refine(HK.o _ HQ3.o HB5.o HCU.o HT3.o).mono ?_;rintro e w5 ⟨v1,rfl,hR,hb⟩;obtain⟨A5,c5,hv5,hlc5,hC5⟩:=Kd.yE hR;subst hv5;have HC5:=Z hC5;have HX5:=Z (HX3.o.below hb);have HBK:=Z (zD HB3.o hb);clear hR hb hC5 hlc5)
        | (go_at_call 69;refine(contains_ fa A5 c5 KL _ w.heap.size HC5.o (by have:=HLK.o;omega) (fun W x hW=>HFA.o W x (HX5.o.below hW).c4)).mono ?_;rintro e w6 ⟨rfl,hb⟩;have HBF:=Z (zD HBK.o hb);clear hb))
       go_ret;exact⟨by rw[HE.o];rfl,HBF.o⟩
     have hki:(k:Int)<(ws.length:Int):=by omega
     obtain⟨ad,e1,x0⟩:=wK HQ3.o.wrC k hlt;replace e1:B=some ad:=e1;subst e1;have HST:=Z (sum_take ws k hlt);have HOX:=Z (HOI.o k);have HE3:=Z (E3.o k hlt);have HKL:=Z hlt;have hkn:k<1000000:=by have:=HQ3.o.wl;have e:(⟨⟨ns,rt⟩,cur,v,mn,load,ws⟩:Q).ws.length=ws.length:=rfl;omega
     replace x0:wr.cell? (ad.add k)=some (.int .i64 (ws.getD k 0)):=x0;generalize ws.getD k 0=x at x0 HST HOX;have HHK:=Z (fun(W:World) (h:QIn S A c (some ad) d W ⟨⟨ns,rt⟩,cur,v,mn,load,ws⟩)=>HH.o W (k:Int) h (Int.natCast_nonneg k) (by have:=HL.o;omega));have HWX:=Z (weighed_ x);generalize yV qq (k:Int)=bh at HHK HOX;generalize yF x=wx at HWX HOX;generalize hsm:sumA (ws.take k) 0=sm at HST⊢;clear hlt hsm;cases bh with
     | true=>
      cases wx with
      | true=>
       have HOT2:=Z (HOX.o.trans rfl);go_wp2_with (first
       | (go_at_call 37;refine(HHK.o _ HQ3.o).mono ?_;rintro e w4 ⟨rfl,hb⟩;have HX4:=Z (HX3.o.below hb);have HBH:=Z hb;clear hb)
       | (go_at_call 41;refine(HWX.o _).mono ?_;rintro e w5 ⟨rfl,hb⟩;have HBX:=Z (zD HBW.o (zD HBH.o hb));have HBY:=Z (zD HB3.o (zD HBH.o hb));clear hb))
       refine⟨⟨k+1,by have:=HKL.o;omega,by simp,by rw[HST.o],fun j hj=>?_,HBX.o⟩,?_⟩
       ·by_cases e:j=k
        ·subst e;exact HOT2.o
        ·exact HOK.o j (by omega)
       ·show ws.length-((k:Int)+1).toNat<ws.length-(k:Int).toNat;have:=HKL.o;omega
      | false=>
       have HR:=Z (HE3.o (HOX.o.trans rfl));go_wp2_with (first
       | (go_at_call 37;refine(HHK.o _ HQ3.o).mono ?_;rintro e w4 ⟨rfl,hb⟩;have HX4:=Z (HX3.o.below hb);have HBH:=Z hb;clear hb)
       | (go_at_call 41;refine(HWX.o _).mono ?_;rintro e w5 ⟨rfl,hb⟩;have HBX:=Z (zD HBW.o (zD HBH.o hb));have HBY:=Z (zD HB3.o (zD HBH.o hb));clear hb))
       go_ret;exact⟨by rw[HR.o];rfl,HBY.o⟩
     | false=>
      cases wx with
      | true=>
       have HR:=Z (HE3.o (HOX.o.trans rfl));go_wp2_with (first
       | (go_at_call 37;refine(HHK.o _ HQ3.o).mono ?_;rintro e w4 ⟨rfl,hb⟩;have HX4:=Z (HX3.o.below hb);have HBH:=Z hb;clear hb)
       | (go_at_call 41;refine(HWX.o _).mono ?_;rintro e w5 ⟨rfl,hb⟩;have HBX:=Z (zD HBW.o (zD HBH.o hb));have HBY:=Z (zD HB3.o (zD HBH.o hb));clear hb))
       go_ret;exact⟨by rw[HR.o];rfl,HBY.o⟩
      | false=>
       cases hx:x==0 with
       | false=>
        rw[hx]at HOX;have hx2:(x != 0)=true:=by unfold bne;rw[hx];rfl
        have HR:=Z (HE3.o (HOX.o.trans rfl));clear hx;go_wp2_with (first
       | (go_at_call 37;refine(HHK.o _ HQ3.o).mono ?_;rintro e w4 ⟨rfl,hb⟩;have HX4:=Z (HX3.o.below hb);have HBH:=Z hb;clear hb)
       | (go_at_call 41;refine(HWX.o _).mono ?_;rintro e w5 ⟨rfl,hb⟩;have HBX:=Z (zD HBW.o (zD HBH.o hb));have HBY:=Z (zD HB3.o (zD HBH.o hb));clear hb))
        go_ret;exact⟨by rw[HR.o];rfl,HBY.o⟩
       | true=>
        rw[hx]at HOX;have hx2:(x != 0)=false:=by unfold bne;rw[hx];rfl
        have HOT2:=Z (HOX.o.trans rfl);clear hx;go_wp2_with (first
       | (go_at_call 37;refine(HHK.o _ HQ3.o).mono ?_;rintro e w4 ⟨rfl,hb⟩;have HX4:=Z (HX3.o.below hb);have HBH:=Z hb;clear hb)
       | (go_at_call 41;refine(HWX.o _).mono ?_;rintro e w5 ⟨rfl,hb⟩;have HBX:=Z (zD HBW.o (zD HBH.o hb));have HBY:=Z (zD HB3.o (zD HBH.o hb));clear hb))
        refine⟨⟨k+1,by have:=HKL.o;omega,by simp,by rw[HST.o],fun j hj=>?_,HBX.o⟩,?_⟩
        ·by_cases e:j=k
         ·subst e;exact HOT2.o
         ·exact HOK.o j (by omega)
        ·show ws.length-((k:Int)+1).toNat<ws.length-(k:Int).toNat;have:=HKL.o;omega
end Go.Proofs.YtnkhnnojdlgfjaaGreatDoor.Qw
end
