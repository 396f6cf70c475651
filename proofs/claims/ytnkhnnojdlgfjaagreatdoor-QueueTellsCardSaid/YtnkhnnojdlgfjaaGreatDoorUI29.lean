/- Parts of the proof, joined: Rm9, Rm10. -/
import Derived.Test.YtnkhnnojdlgfjaaGreatDoorUI28
import Derived.Test.YtnkhnnojdlgfjaaGreatDoorUI11
set_option linter.unusedVariables false
set_option linter.unusedSimpArgs false
set_option maxHeartbeats 32000000
set_option maxRecDepth 100000
section
namespace Go.Proofs.YtnkhnnojdlgfjaaGreatDoor.Tm
open RowKit Tr Tk PA PB PC
variable {w : World} {t : St}
attribute [local go_sem high] eqN
theorem rempty_:Calls Tryz.prog 117 #[] w fun e w'=>e=.returned (.agg #[.bool false,.bool false,.int .u64 0,.int .i64 (-1),.int .i64 (-1),.int .i64 (-1)])∧Below w.heap.size w w':=by
 go_enter Tryz.func117,Tryz.ntmps117;go_wp2;refine bodyPost_ret (yK (cs:=#[.bool false,.bool false,.int .u64 0,.int .i64 (-1),.int .i64 (-1),.int .i64 (-1)]) rfl _ _ w.heap.size 72 (0,0) _ rfl (zQ _ _) Tryz.underlying72 rfl (by kernel_rfl)) rfl ?_;exact⟨rfl,zB (Below.refl _ _) _⟩
theorem wS {t:St}:∀{a:T}{u:Option Int},Lay t a u→∀z∈a.ids,(gn t z).inn=true
 | .E,_,_,z,hz=>by cases hz
 | .B c l x r,u,⟨h1,h2,h3,h4,h5,h6,h7,h8⟩,z,hz=>by
  rcases List.mem_append.1 hz with h|h
  ·exact wS h7 z h
  ·rcases List.mem_cons.1 h with rfl|h
   ·exact h2
   ·exact wS h8 z h
def cntI (t:St) (i:Nat):Nat:=((List.range i).filter fun z=>(gn t z).inn).length
theorem cntI_succ (t:St) (i:Nat):cntI t (i+1)=cntI t i+if (gn t i).inn=true then 1 else 0:=by
 unfold cntI;rw[List.range_succ,List.filter_append,List.length_append]
 congr 1
 cases h:(gn t i).inn<;>simp[h]
theorem cntI_le (t:St) (i:Nat):cntI t i≤i:=by
 unfold cntI;have:=List.length_filter_le (fun z=>(gn t z).inn) (List.range i);rw[List.length_range]at this;exact this
theorem ord_none_emp {i:Nat}(hi:i<t.ns.length) (h1:(gn t i).inn=false) (h2:gn t i≠emp):ordA t=none:=by
 cases h:ordA t with
 | none=>rfl
 | some a=>
  have hw:=(xS.1 h).2;refine absurd (hw.o i hi (fun hm=>?_)) h2;rw[wS hw.lay i hm]at h1;cases h1
theorem ord_none_walk {M:Nat→Bool}{L:List Int}(h:WRes t t.rt (-1) (mOf []) [] false M L):ordA t=none:=by
 cases hO:ordA t with
 | none=>rfl
 | some a=>
  have hw:=(xS.1 hO).2;exact absurd ⟨a,hw.lay,hw.rt.symm,hw.nd,fun z hz=>rfl⟩ (h.no rfl)
theorem ids_count {a:T}(hL:Lay t a (some (-1))) (hn:a.ids.Nodup) (h:∀z,z<t.ns.length→(gn t z).inn=true→z∈a.ids):cntI t t.ns.length=a.ids.length:=by
 unfold cntI;refine((List.perm_ext_iff_of_nodup (List.nodup_range.filter _) hn).2 (fun z=>?_)).length_eq;rw[List.mem_filter,List.mem_range];exact⟨fun hz=>h z hz.1 hz.2,fun hz=>⟨hL.lt z hz,wS hL z hz⟩⟩
theorem count_ids {a:T}(hL:Lay t a (some (-1))) (hn:a.ids.Nodup) (h:cntI t t.ns.length=a.ids.length):∀z,z<t.ns.length→(gn t z).inn=true→z∈a.ids:=by
 intro z hz hi;by_cases hm:z∈a.ids
 ·exact hm
 have h1:=List.Nodup.length_le_of_subset (l₁:=a.ids++[z]) (l₂:=(List.range t.ns.length).filter fun z=>(gn t z).inn) (zaG hn hm) (fun y hy=>by
  rw[List.mem_filter,List.mem_range];rcases List.mem_append.1 hy with hy|hy
  ·exact⟨hL.lt y hy,wS hL y hy⟩
  ·rw[List.mem_singleton.1 hy];exact⟨hz,hi⟩)
 rw[List.length_append]at h1;unfold cntI at h;simp only[List.length_cons,List.length_nil]at h1;omega
theorem ord_of_walk {M:Nat→Bool}{L:List Int}(hl:t.ns.length≤64) (h:WRes t t.rt (-1) (mOf []) [] true M L) (he:∀z,z<t.ns.length→(gn t z).inn=true∨gn t z=emp) :
  ∃a,L=iz a.ids∧Lay t a (some (-1))∧(cntI t t.ns.length=L.length→ordA t=some a)∧(cntI t t.ns.length≠L.length→ordA t=none):=by
 obtain⟨a,h1,h2,h3,h4,h5,h6⟩:=h.yes rfl;refine⟨a,by rw[h5];rfl,h1,fun hc=>?_,fun hc=>?_⟩
 ·rw[h5]at hc;simp only[List.nil_append,wJ]at hc;refine xS.2 ⟨hl,h1,h2.symm,h3,fun z hz hm=>?_⟩;rcases he z hz with h|h
  ·exact absurd (count_ids h1 h3 hc z hz h) hm
  ·exact h
 ·cases hO:ordA t with
  | none=>rfl
  | some b=>
   exfalso;have hw:=(xS.1 hO).2;have hab:b=a:=Lay.uniq hw.lay h1 (hw.rt.symm.trans h2.symm);subst hab;apply hc;rw[h5];simp only[List.nil_append,wJ];refine ids_count h1 h3 (fun z hz hi=>?_);by_cases hm:z∈b.ids
   ·exact hm
   rw[hw.o z hz hm]at hi;cases hi
theorem rgather0 (w:World) (A:Option Addr) (c:Nat) (x u:Int) (hr:kn.C w A t.ns.length t.ns) (hl:t.ns.length≤1000000) :
  Calls Tryz.prog 139 #[.agg #[.int .i64 t.rt,.slice A t.ns.length c],.int .i64 x,.int .i64 u,.slice none 0 0] w fun e w'=>vK w t [] x u e w':=
 rgather_ t.ns.length w A c x u [] none 0 (by simp) hr hl ⟨rfl,by simp,fun h=>absurd h (by simp)⟩ List.nodup_nil (fun z hz=>by cases hz)
structure yY (w:World) (t:St) (e:Ending) (w':World):Prop where mk::
 below:Below w.heap.size w w'
 no:ordA t=none→e=.returned (.tuple #[.slice none 0 0,.bool false])
 yes:∀a,ordA t=some a→∃A c,e=.returned (.tuple #[.slice A a.ids.length c,.bool true])∧(Kd.int .i64).C w' A a.ids.length (iz a.ids)
theorem zcH (A:Option Addr) (c:Nat) (hr:kn.C w A t.ns.length t.ns) (hl:t.ns.length≤1000000) :
  Calls Tryz.prog 107 #[.agg #[.int .i64 t.rt,.slice A t.ns.length c]] w fun e w'=>yY w t e w':=by
 have SB:=Z (Hb.start (c:=c) hr);have HL:=Z hl;clear hr;go_enter Tryz.func107,Tryz.ntmps107;go_upto_region 1 with(fail);generalize w.alloc (.cells #[.int .i64 t.rt,.slice A t.ns.length c] 27)=W1 at SB⊢;have a0:=SB.o.a0;have a1:=SB.o.a1;by_cases hn:64<t.ns.length
 ·have hd:(64:Int)<(t.ns.length:Int):=by omega
  have HO:=Z (show ordA t=none by unfold ordA;rw[if_neg (by omega)]);clear hn hl;go_wp2
  go_ret2
  exact⟨SB.o.bb,fun _=>rfl,fun a h=>by rw[HO.o]at h;cases h⟩
 have hd:¬(64:Int)<(t.ns.length:Int):=by omega
 have hdd:decide ((64:Int)<(t.ns.length:Int))=false:=decide_eq_false hd;have HN:=Z (show t.ns.length≤64 by omega);clear hn hl;go_upto_region 5 with(go_at_call 139;with_reducible refine(rgather0 _ A c t.rt (-1) SB.o.rd HL.o).mono ?_;rintro e wq ⟨B1,e1,B2,e2,L,Ms,r,rfl,hL,hM,hn1,hl1,hs1,hW1,hB⟩;replace SB:=Z (SB.o.below hB);have HC:=Z hL;have HW:=Z hW1;have HLE:=Z (show L.length≤64 by have:=xC hn1 hl1;have:=HN.o;simp at hs1;omega);clear hL hM hn1 hl1 hs1 hW1 hB a0 a1);clear hd hdd;go_wp2
 go_loopw [7,8] (fun vm vi wr=>∃i:Nat,i≤t.ns.length∧vm=.int .i64 (cntI t i)∧vi=.int .i64 i∧zA (Hb w wr w.heap.size t A c)∧zA (Below wq.heap.size wq wr)∧zA (∀z,z<i→(gn t z).inn=true∨gn t z=emp)) (fun vm vi _=>t.ns.length-(intOf vi).toNat)
 case atStart=>exact⟨0,Nat.zero_le _,rfl,rfl,SB,⟨Below.refl _ _⟩,⟨fun z hz=>by omega⟩⟩
 case round=>
  clear SB;obtain⟨i,hi,rfl,rfl,SB,HB,HP⟩:=hrel;have a0:=SB.o.a0;have a1:=SB.o.a1;have h64:=HN.o;by_cases hlt:i<t.ns.length;rotate_left
  ·obtain rfl:i=t.ns.length:=by omega
   have hcl:cntI t t.ns.length≤64:=by have:=cntI_le t t.ns.length;have:=HN.o;omega
   cases r with
   | false=>
    have HO:=Z (ord_none_walk HW.o);generalize cntI t t.ns.length=m at hcl;go_wp2
    go_ret2
    exact⟨SB.o.bb,fun _=>rfl,fun a h=>by rw[HO.o]at h;cases h⟩
   | true=>
    obtain⟨a,ha,haL,hy,hnn⟩:=ord_of_walk HN.o HW.o HP.o;have HA:=Z ha;have HY:=Z hy;have HNO:=Z hnn;clear ha haL hy hnn;generalize cntI t t.ns.length=m at hcl HY HNO;by_cases hm:m=L.length;rotate_left
    ·have HO:=Z (HNO.o hm);have hq:((m:Int) != (L.length:Int))=true:=by
      have:(m:Int)≠(L.length:Int):=by omega
      simpa using this
     clear hm;go_wp2
     go_ret2
     exact⟨SB.o.bb,fun _=>rfl,fun a h=>by rw[HO.o]at h;cases h⟩
    have HO:=Z (HY.o hm);have hq:((m:Int) != (L.length:Int))=false:=by rw[hm];simp
    clear hm;have HCC:=Z (Kd.zU HC.o HB.o);go_wp2
    go_ret2
    refine⟨SB.o.bb,(fun h=>by rw[HO.o]at h;cases h),fun b h=>?_⟩;rw[HO.o]at h;obtain rfl:=Option.some.inj h;have e:=wJ a.ids;rw[←HA.o]at e;exact⟨B1,e1,by rw[←e];rfl,by rw[←e,←HA.o];exact HCC.o⟩
  have hin:(i:Int)<(t.ns.length:Int):=by omega
  have HN1:=Z (show((i:Int)+1).toNat=i+1 by omega);have HCS:=Z (cntI_succ t i);have hcl:cntI t i≤64:=by have:=cntI_le t i;have:=HN.o;omega
  obtain⟨ad,e1,d0,d1,d2,d3,d4,d5⟩:=kV SB.o.rd (i:Int) (by omega) hin;subst e1;rw[Int.toNat_natCast]at d0 d1 d2 d3 d4 d5;obtain⟨n,hnn⟩:∃n,n=gn t i:=⟨_,rfl⟩;have hnn2:t.ns.getD i emp=n:=hnn.symm;rw[hnn2]at d0 d1 d2 d3 d4 d5;have HG:=Z hnn.symm;clear hnn hnn2;cases hni:n.inn with
  | true=>
   rw[hni]at d0;have HI:=Z hni;rw[HG.o,hni,if_pos rfl]at HCS;generalize cntI t i=m at HCS hcl;clear hni;go_wp2;refine⟨⟨i+1,by omega,by rw[HCS.o];simp,by simp,SB,HB,⟨fun z hz=>?_⟩⟩,?_⟩
   ·rcases Nat.lt_or_ge z i with h|h
    ·exact HP.o z h
    ·obtain rfl:z=i:=by omega
     exact Or.inl (by rw[HG.o];exact HI.o)
   ·show t.ns.length-((i:Int)+1).toNat<t.ns.length-(i:Int).toNat;rw[HN1.o];omega
  | false=>
   rw[hni]at d0;have HI:=Z hni;rw[HG.o,hni,if_neg (by simp),Nat.add_zero]at HCS;generalize cntI t i=m at HCS hcl;have HD:=Z (show wr.cell? (ad.add (i*6))=some (.bool false)∧wr.cell? ⟨(ad.add (i*6)).block,(ad.add (i*6)).off+1,none⟩=some (.bool n.red)∧wr.cell? ⟨(ad.add (i*6)).block,(ad.add (i*6)).off+2,none⟩=some (.int .u64 n.v)∧wr.cell? ⟨(ad.add (i*6)).block,(ad.add (i*6)).off+3,none⟩=some (.int .i64 n.l)∧wr.cell? ⟨(ad.add (i*6)).block,(ad.add (i*6)).off+4,none⟩=some (.int .i64 n.r)∧wr.cell? ⟨(ad.add (i*6)).block,(ad.add (i*6)).off+5,none⟩=some (.int .i64 n.u)from⟨d0,d1,d2,d3,d4,d5⟩);clear hni;go_upto_region 10 with(fail);have HDd:=Z (show wr.drew.cell? (ad.add (i*6))=some (.bool false)∧wr.drew.cell? ⟨(ad.add (i*6)).block,(ad.add (i*6)).off+1,none⟩=some (.bool n.red)∧wr.drew.cell? ⟨(ad.add (i*6)).block,(ad.add (i*6)).off+2,none⟩=some (.int .u64 n.v)∧wr.drew.cell? ⟨(ad.add (i*6)).block,(ad.add (i*6)).off+3,none⟩=some (.int .i64 n.l)∧wr.drew.cell? ⟨(ad.add (i*6)).block,(ad.add (i*6)).off+4,none⟩=some (.int .i64 n.r)∧wr.drew.cell? ⟨(ad.add (i*6)).block,(ad.add (i*6)).off+5,none⟩=some (.int .i64 n.u)from HD.o);refine qK (n:=7) (S:=fun w'=>w'.cell? ⟨w.heap.size,1,none⟩=some (.slice (some ad) t.ns.length c)∧w'.cell? (ad.add (i*6))=some (.bool false)∧w'.cell? ⟨(ad.add (i*6)).block,(ad.add (i*6)).off+1,none⟩=some (.bool n.red)∧w'.cell? ⟨(ad.add (i*6)).block,(ad.add (i*6)).off+2,none⟩=some (.int .u64 n.v)∧w'.cell? ⟨(ad.add (i*6)).block,(ad.add (i*6)).off+3,none⟩=some (.int .i64 n.l)∧w'.cell? ⟨(ad.add (i*6)).block,(ad.add (i*6)).off+4,none⟩=some (.int .i64 n.r)∧w'.cell? ⟨(ad.add (i*6)).block,(ad.add (i*6)).off+5,none⟩=some (.int .i64 n.u)) (ds:=[]) #[false,false,false,false,false,false,false] (by kernel_rfl) rfl rfl ⟨SB.o.drew.a1,HDd.o⟩ (fun hHeld=>?_);replace SB:=Z SB.o.drew;replace HB:=Z (Below.drew HB.o);clear a0 a1 d0 d1 d2 d3 d4 d5 HD;generalize wr.drew=V0 at SB HB HDd hHeld⊢;refine pu_ 0 36 ?_;refine ld_ 1 37 hHeld ?_;refine pu_ 2 38 ?_;refine pu_ 3 39 ?_;refine ld_ 4 40 hHeld ?_;refine one_ (i:=5) (N:=some 41) #[true,true,true,true,true,true,false] rfl rfl (by kernel_rfl) (by decide) (fun K hK=>?_);refine qY Tryz.func117 (by kernel_rfl) rfl #[] (by rfl) rfl rfl (by(try simp only[List.map_toArray,List.map_cons,List.map_nil]);first|done|rfl) ?_
   with_reducible refine(rempty_).mono ?_
   rintro e wx ⟨rfl,hb⟩;refine⟨_,rfl,?_⟩;replace SB:=Z (SB.o.below hb);replace HB:=Z (zD HB.o hb);refine hK.out _ _ ⟨SB.o.a1,yC HDd.o.1 hb,yC HDd.o.2.1 hb,yC HDd.o.2.2.1 hb,yC HDd.o.2.2.2.1 hb,yC HDd.o.2.2.2.2.1 hb,yC HDd.o.2.2.2.2.2 hb⟩ (fun hHeld=>?_);clear hK K;refine xG (a':=?_) ?_ ?_;rotate_left
   ·(show Act.put _ (some 41) _=_;(simp only[Act.put,List.setIfInBounds_toArray,List.set_cons_zero,List.set_cons_succ,yO,yP];rfl))
   refine pu_ 6 42 ?_;refine qG (by kernel_rfl) ?_;clear hHeld HDd;go_wp2
   case roundEnd=>
    rename_i h
    have HE:=Z (show gn t i=emp by
     rw[HG.o];have hni:=HI.o;obtain⟨n0,n1,n2,n3,n4,n5⟩:=n;simp only at h hni;subst hni;simp at h;obtain⟨h1,h2,h3,h4,h5⟩:=h;subst h1 h2 h3 h4 h5
     rfl)
    clear h;refine⟨⟨i+1,by omega,by rw[HCS.o];rfl,by simp,SB,HB,⟨fun z hz=>?_⟩⟩,?_⟩
    ·rcases Nat.lt_or_ge z i with h|h
     ·exact HP.o z h
     ·obtain rfl:z=i:=by omega
      exact Or.inr HE.o
    ·show t.ns.length-((i:Int)+1).toNat<t.ns.length-(i:Int).toNat;rw[HN1.o];omega
   ·rename_i h
    have HO:=Z (ord_none_emp hlt (by rw[HG.o];exact HI.o) (by rw[HG.o];intro he;rw[he]at h;simp[emp]at h))
    go_ret2
    exact⟨SB.o.bb,fun _=>rfl,fun a h=>by rw[HO.o]at h;cases h⟩
end Go.Proofs.YtnkhnnojdlgfjaaGreatDoor.Tm
end
section
namespace Go.Proofs.YtnkhnnojdlgfjaaGreatDoor.Tm
open RowKit Tr Tk PA PB PC
variable {w : World} {t : St}
theorem rblacks_v (a:T) {u:Option Int}(A:Option Addr) (c:Nat) (hr:kn.C w A t.ns.length t.ns) (hL:Lay t a u) (hs:a.size≤1000000) (x:Int) (hx:x=a.rt) :
  Calls Tryz.prog 109 #[.agg #[.int .i64 t.rt,.slice A t.ns.length c],.int .i64 x] w fun e w'=>e=.returned (.int .i64 (blR a))∧Below w.heap.size w w':=by
 rw[hx];exact rblacks_ a w u A c hr hL hs
theorem rWalk_ (A:Option Addr) (c:Nat) (hr:kn.C w A t.ns.length t.ns) (hl:t.ns.length≤1000000) :
  Calls Tryz.prog 110 #[.agg #[.int .i64 t.rt,.slice A t.ns.length c]] w fun e w'=>jU w (yA t) e w':=by
 have SB:=Z (Hb.start (c:=c) hr);have HL:=Z hl;clear hr;go_enter Tryz.func110,Tryz.ntmps110;go_upto_region 1 with(fail);generalize w.alloc (.cells #[.int .i64 t.rt,.slice A t.ns.length c] 27)=W1 at SB⊢;have a0:=SB.o.a0;have a1:=SB.o.a1;cases hO:ordA t with
 | none=>
  have HO:=Z hO;clear hO;go_wp2_with (go_at_call 107;with_reducible refine(zcH (t:=t) A c SB.o.rd HL.o).mono ?_;rintro e wq ⟨hB,hno,hyes⟩;obtain rfl:=hno HO.o;replace SB:=Z (SB.o.below hB);clear hB hno hyes);go_ret;exact⟨_,rfl,by rw[walkA_none HO.o];exact Kd.jT _ _ _ _ _,SB.o.bb⟩
 | some a=>
  have HO:=Z hO;have hwh:=(xS.1 hO).2;have HKE:=Z (kM hO);have HID:=Z (show ∀z∈a.ids,z<t.ns.length from fun z hz=>hwh.lay.lt z hz);have HLI:=Z (show a.ids.length≤64 from Nat.le_trans (xC hwh.nd HID.o) (xS.1 hO).1);clear hO hwh;go_upto_region 4 with(go_at_call 107;with_reducible refine(zcH (t:=t) A c SB.o.rd HL.o).mono ?_;rintro e wq ⟨hB,hno,hyes⟩;obtain⟨A3,c3,rfl,hC⟩:=hyes a HO.o;replace SB:=Z (SB.o.below hB);have HC:=Z hC;clear hB hno hyes hC);clear a0 a1;go_wp2
  go_loopw [5,6] (fun v i wr=>∃k:Nat,k≤a.ids.length∧i=.int .i64 k∧zA (Hb w wr w.heap.size t A c)∧zA (Below wq.heap.size wq wr)∧zA (kp.R 38 wr wq.heap.size (fun _=>True) v (keysOf t (a.ids.take k)))) (fun v i wr=>a.ids.length-(intOf i).toNat)
  case atStart=>exact⟨0,Nat.zero_le _,rfl,SB,⟨Below.refl _ _⟩,⟨Kd.jT _ _ _ _ _⟩⟩
  case round=>
   have HSZ:=Z SB.o.bb.size;have HSBQ:=Z SB.o;clear SB;obtain⟨k,hk,rfl,SB,HB,HR⟩:=hrel;have h64:=HLI.o;by_cases hlt:k<a.ids.length;rotate_left
   ·obtain rfl:k=a.ids.length:=by omega
    go_wp2;go_ret;refine⟨_,rfl,?_,SB.o.bb⟩;rw[HKE.o,←List.take_length (l:=a.ids)];exact Kd.qW HR.o HSZ.o
   have hn1:(k:Int)<(a.ids.length:Int):=by omega
   have HN1:=Z (show((k:Int)+1).toNat=k+1 by omega);obtain⟨ad,e1,c1⟩:=wK (Kd.zU HC.o HB.o) k hlt;subst e1;rw[iz_at _ _ hlt]at c1;have HKT:=Z (keys_take t a.ids k hlt);have HXI:=Z (HID.o a.ids[k] (List.getElem_mem hlt));have HXK:=Z (iz_at a.ids k hlt);generalize a.ids[k]=x at c1 HKT HXI HXK;have hxn:=HXI.o;have hxi:(x:Int)<(t.ns.length:Int):=by omega
   obtain⟨ad2,e2,d0,d1,d2,d3,d4,d5⟩:=kV SB.o.rd (x:Int) (by omega) hxi;subst e2;rw[Int.toNat_natCast]at d2;have d6:wr.cell? ⟨(ad2.add (x*6)).block,(ad2.add (x*6)).off+2,none⟩=some (.int .u64 (gn t x).v):=d2;have a1:=SB.o.a1;clear d0 d1 d2 d3 d4 d5;obtain⟨vx,hvx⟩:∃vx,vx=(gn t x).v:=⟨_,rfl⟩;have HXV:=Z hvx.symm;rw[←hvx]at d6 HKT;clear hvx;obtain⟨A6,c6,hv6,_,_⟩:=Kd.yE HR.o;have HLK:=Z (show(keysOf t (a.ids.take k)).length=k by unfold keysOf;rw[List.length_map,List.length_take];omega);subst hv6;go_upto_region 8 with(fail);have C1:=Z (show wr.drew.cell? (ad.add k)=some (.int .i64 (x:Int))from c1);have D6:=Z (show wr.drew.cell? ⟨(ad2.add (x*6)).block,(ad2.add (x*6)).off+2,none⟩=some (.int .u64 vx)from d6);refine qK (n:=18) (S:=fun w'=>w'.cell? ⟨w.heap.size,1,none⟩=some (.slice (some ad2) t.ns.length c)∧w'.cell? (ad.add k)=some (.int .i64 (x:Int))∧w'.cell? ⟨(ad2.add (x*6)).block,(ad2.add (x*6)).off+2,none⟩=some (.int .u64 vx)) (ds:=[]) #[false,false,false,false,false,false,false,false,false,false,false,false,false,false,false,false,false,false] (by kernel_rfl) rfl rfl ⟨SB.o.drew.a1,C1.o,D6.o⟩ (fun hHeld=>?_);replace SB:=Z SB.o.drew;replace HB:=Z (Below.drew HB.o);replace HR:=Z (Kd.wC HR.o (Below.drew (Below.refl _ _)));clear a1 c1 d6;generalize wr.drew=V0 at SB HB HR C1 D6 hHeld⊢;refine pu_ 0 20 ?_;refine pu_ 1 21 ?_;refine ld_ 2 22 hHeld ?_;refine pu_ 3 23 ?_;refine pu_ 4 24 ?_;refine pu_ 5 25 ?_;refine ld_ 6 26 hHeld ?_;refine pu_ 7 27 ?_;refine pu_ 8 28 ?_;refine ld_ 9 29 hHeld ?_;refine pu_ 10 30 ?_;refine pu_ 11 31 ?_;refine pu_ 12 32 ?_;refine ld_ 13 33 hHeld ?_;refine pu_ 14 34 ?_;refine one_ (i:=15) (N:=some 35) #[true,true,true,true,true,true,true,true,true,true,true,true,true,true,true,true,false,false] rfl rfl (by kernel_rfl) (by decide) (fun K hK=>?_);have HVS:=Z (Nat.le_refl V0.heap.size);refine Kd.jR kp (w0:=V0) V0.heap.size 38 ?hg (N:=35) ?hd (xs:=([(vx,(x:Int))]:List (Int × Int))) (inner:=[.int .u64 vx,.int .i64 (x:Int)]) (ok:=fun _=>True) (okp:=fun _=>True) ?hr ?hp (fun _ hk=>hk) trivial (Below.refl _ _) (Nat.le_refl _) (by simp) ?_;(case hd=>rfl);(case hg=>rfl);(case hr=>first|(go_simp;done)|(go_simp;rfl));(case hp=>exact(by have h_:=Reps.snoc (Reps.none (kp.M V0 V0.heap.size (fun _=>True)) 2) (jD V0 V0.heap.size (fun _=>True) (vx,(x:Int))) rfl;exact h_))
   intro v2 w2 hR2 hB2 hg2 hn2;have HRV:=Z HR.o;have HLT:=Z (Kd.R_lt HR.o);replace SB:=Z (SB.o.below hB2);replace HR:=Z (Kd.wC HR.o hB2);have HBV:=Z HB.o;replace HB:=Z (HB.o.trans (hB2.mono HB.o.size));replace C1:=Z (yC C1.o hB2);replace D6:=Z (yC D6.o hB2);refine hK.out _ _ ⟨SB.o.a1,C1.o,D6.o⟩ (fun hHeld=>?_);clear hK K;refine xG (a':=?_) ?_ ?_;rotate_left
   ·(show Act.put _ (some 35) _=_;(simp only[Act.put,List.setIfInBounds_toArray,List.set_cons_zero,List.set_cons_succ,yO,yP];rfl))
   obtain⟨A9,c9,rfl,hl9,hC9⟩:=Kd.yE hR2;obtain⟨b9,e9,l9⟩:=hn2;refine one_ (i:=16) (N:=some 36) #[true,true,true,true,true,true,true,true,true,true,true,true,true,true,true,true,true,false] rfl rfl (by kernel_rfl) (by decide) (fun K hK=>?_);refine Kd.xI kp (Rr:=fun p cs=>kp.K w2 p cs) (w0:=wq) wq.heap.size (by rfl) (.tmp 20) (.tmp 35) 32 38 (.agg #[(.int .u64 0),(.int .i64 0)]) 16 rfl Tryz.underlying32 kJ rfl (show 0<kp.sz by show 0<2;omega) (by omega) _ (keysOf t (a.ids.take k)) [(vx,(x:Int))] A9 1 c9 (fun k_=>some k_≠(.slice A9 1 c9:Value).ownBlock) (fun _=>False) rfl rfl (Kd.zbg rfl HR.o (fun k_ hk_ he_=>by have:=HLT.o k_ hk_;rw[show(Value.slice A9 1 c9).ownBlock=some b9 from e9]at he_;have:=Option.some.inj he_;omega)) hC9 (fun p cs h=>by rw[vZ h];exact jD _ _ _ _) (fun _ h=>h.elim) (fun k_ hk_ he_=>by have:=Kd.R_lt hR2 k_ he_.symm;omega) HB.o HB.o.size (by rw[HLK.o];omega) ?_;intro v3 w3 hR3 hB3 hg3 hat3;have hBW:Below wq.heap.size wq w3:=hB3;have SBw:=HSBQ.o.below hBW;replace SB:=Z SBw;replace HB:=Z hBW;replace C1:=Z (show w3.cell? (ad.add k)=some (.int .i64 (x:Int))from by
    obtain⟨ad',e',c'⟩:=wK (Kd.zU HC.o hBW) k hlt;obtain rfl:=Option.some.inj e';rw[c',HXK.o])
   replace D6:=Z (show w3.cell? ⟨(ad2.add (x*6)).block,(ad2.add (x*6)).off+2,none⟩=some (.int .u64 vx)from by
    have:=(jY (t:=t) SB.o.rd (x:Int) (by omega) hxi).2.2.1;rw[Int.toNat_natCast]at this;rw[this,HXV.o])
   refine hK.out _ _ ⟨SB.o.a1,C1.o,D6.o⟩ (fun hHeld=>?_);clear hK K;refine xG (a':=?_) ?_ ?_;rotate_left
   ·(show Act.put _ (some 36) _=_;(simp only[Act.put,List.setIfInBounds_toArray,List.set_cons_zero,List.set_cons_succ,yO,yP];rfl))
   refine pu_ 17 5 ?_;refine qG (by kernel_rfl) ?_;replace HR:=Z (Kd.zbg (ok:=fun _=>True) rfl hR3 (fun _ _=>trivial));clear hHeld hR3 hB3 hg3 hat3 hR2 hB2 hg2 hC9 hl9;go_wp2;refine⟨⟨k+1,by omega,by simp,SB,HB,⟨by rw[HKT.o];exact HR.o⟩⟩,?_⟩;show a.ids.length-((k:Int)+1).toNat<a.ids.length-(k:Int).toNat;rw[HN1.o];omega
theorem zbE (A:Option Addr) (c:Nat) (mn:Int) (hr:kn.C w A t.ns.length t.ns) (hl:t.ns.length≤1000000) :
  Calls Tryz.prog 63 #[.agg #[.int .i64 t.rt,.slice A t.ns.length c],.int .u64 mn] w fun e w'=>e=.returned (.bool (yJ t mn))∧Below w.heap.size w w':=by
 have SB:=Z (Hb.start (c:=c) hr);have HL:=Z hl;clear hr;go_enter Tryz.func63,Tryz.ntmps63;go_upto_region 1 with(fail);generalize w.alloc (.cells #[.int .i64 t.rt,.slice A t.ns.length c] 27)=W1 at SB⊢;have a0:=SB.o.a0;have a1:=SB.o.a1;cases hO:ordA t with
 | none=>
  have HO:=Z hO;clear hO;go_wp2_with (go_at_call 107;with_reducible refine(zcH (t:=t) A c SB.o.rd HL.o).mono ?_;rintro e wq ⟨hB,hno,hyes⟩;obtain rfl:=hno HO.o;replace SB:=Z (SB.o.below hB);clear hB hno hyes);go_ret;rw[zaV mn HO.o];exact⟨rfl,SB.o.bb⟩
 | some a=>
  have HO:=Z hO;have hwh:=(xS.1 hO).2;have HE:=Z (zbw mn hO);have HLY:=Z hwh.lay;have HRT:=Z hwh.rt;have HS:=Z (size_le hO);have HRTN:=Z (show t.rt<(t.ns.length:Int)by rw[hwh.rt];exact wX hwh.lay.loose);have HRED:=Z (show redA t t.rt=a.red by rw[hwh.rt];exact jP hwh.lay);have HWL:=Z (show(yA t).length≤1000000 by
   rw[kM hO];unfold keysOf;rw[List.length_map];have:=xC hwh.nd (fun x hx=>hwh.lay.lt x hx);have:=HL.o;omega)
  clear hO hwh;go_upto_region 2 with(go_at_call 107;with_reducible refine(zcH (t:=t) A c SB.o.rd HL.o).mono ?_;rintro e wq ⟨hB,hno,hyes⟩;obtain⟨A3,c3,rfl,hC⟩:=hyes a HO.o;replace SB:=Z (SB.o.below hB);replace a0:=SB.o.a0;replace a1:=SB.o.a1;clear hB hno hyes hC);cases hred:a.red with
  | true=>
   have HR2:=Z (HRED.o.trans hred);rw[hred,if_pos rfl]at HE;clear hred;go_wp2_with (go_at_call 108;with_reducible refine(xK (t:=t) A c SB.o.rd t.rt HRTN.o true HR2.o).mono ?_;rintro e wq ⟨rfl,hB⟩;replace SB:=Z (SB.o.below hB);clear hB);go_ret;rw[HE.o];exact⟨rfl,SB.o.bb⟩
  | false=>
   have HR2:=Z (HRED.o.trans hred);rw[hred,if_neg (by simp)]at HE;clear hred;cases hbl:(blA a).2 with
   | false=>
    have HB2:=Z ((blR_iff a).trans hbl);rw[hbl,if_pos rfl]at HE;clear hbl;obtain⟨z,hz⟩:∃z,z=blR a:=⟨_,rfl⟩;have HZ:=Z hz.symm;have hd:decide (0≤z)=false:=by rw[hz];exact HB2.o
    clear hz;go_wp2_with (first
     | (go_at_call 108;with_reducible refine(xK (t:=t) A c SB.o.rd t.rt HRTN.o false HR2.o).mono ?_;rintro e wq ⟨rfl,hB⟩;replace SB:=Z (SB.o.below hB);replace a0:=SB.o.a0;replace a1:=SB.o.a1;clear hB)
     | (go_at_call 109;with_reducible refine(rblacks_v (t:=t) a A c SB.o.rd HLY.o HS.o t.rt HRT.o).mono ?_;rintro e wq ⟨rfl,hB⟩;rw[HZ.o];replace SB:=Z (SB.o.below hB);clear hB))
    go_ret;rw[HE.o];exact⟨rfl,SB.o.bb⟩
   | true=>
    have HB2:=Z ((blR_iff a).trans hbl);rw[hbl,if_neg (by simp)]at HE;clear hbl;obtain⟨z,hz⟩:∃z,z=blR a:=⟨_,rfl⟩;have HZ:=Z hz.symm;have hd:decide (0≤z)=true:=by rw[hz];exact HB2.o
    clear hz;go_wp2_with (first
     | (go_at_call 108;with_reducible refine(xK (t:=t) A c SB.o.rd t.rt HRTN.o false HR2.o).mono ?_;rintro e wq ⟨rfl,hB⟩;replace SB:=Z (SB.o.below hB);replace a0:=SB.o.a0;replace a1:=SB.o.a1;clear hB)
     | (go_at_call 109;with_reducible refine(rblacks_v (t:=t) a A c SB.o.rd HLY.o HS.o t.rt HRT.o).mono ?_;rintro e wq ⟨rfl,hB⟩;rw[HZ.o];replace SB:=Z (SB.o.below hB);replace a0:=SB.o.a0;replace a1:=SB.o.a1;clear hB)
     | (go_at_call 110;with_reducible refine(rWalk_ (t:=t) A c SB.o.rd HL.o).mono ?_;rintro e wq ⟨v,rfl,hv,hB⟩;obtain⟨A7,c7,rfl,_,hC7⟩:=Kd.yE hv;have HC7:=Z hC7;replace SB:=Z (SB.o.below hB);clear hB hv hC7)
     | (go_at_call 46;with_reducible refine(rsorted_ mn A7 c7 (yA t) HC7.o HWL.o).mono ?_;rintro e wq ⟨rfl,hB⟩;replace SB:=Z (SB.o.below hB);clear hB))
    go_ret;rw[HE.o];exact⟨rfl,SB.o.bb⟩
theorem rFirst_ (A:Option Addr) (c:Nat) (hr:kn.C w A t.ns.length t.ns) (hl:t.ns.length≤1000000) :
  Calls Tryz.prog 99 #[.agg #[.int .i64 t.rt,.slice A t.ns.length c]] w fun e w'=>e=.returned (.tuple #[.agg #[.int .u64 ((yA t).getD 0 (0,0)).1,.int .i64 ((yA t).getD 0 (0,0)).2],.bool (decide (0<(yA t).length))])∧Below w.heap.size w w':=by
 have HB1:=Z (zB (zB (Below.refl w.heap.size w) (.cells #[.int .i64 t.rt,.slice A t.ns.length c] 27)) (.cells #[.int .u64 0,.int .i64 0] 38));have HZ:zA (((w.alloc (.cells #[.int .i64 t.rt,.slice A t.ns.length c] 27)).alloc (.cells #[.int .u64 0,.int .i64 0] 38)).heap[w.heap.size+1]?=some (.cells #[.int .u64 0,.int .i64 0] 38 (0,0))):=⟨by have:=zQ (w.alloc (.cells #[.int .i64 t.rt,.slice A t.ns.length c] 27)) (.cells #[.int .u64 0,.int .i64 0] 38);simpa using this⟩;have HR:=Z hr;have HL:=Z hl;clear hr hl;go_enter Tryz.func99,Tryz.ntmps99;go_upto_region 2 with(go_at_call 110;refine(rWalk_ A c (Kd.zU HR.o HB1.o) HL.o).mono ?_;rintro e w6 ⟨v,rfl,hR6,hB6⟩;obtain⟨A6,c6,hv6,hlc6,hC6⟩:=Kd.yE hR6;subst hv6;have HC6:=Z hC6;have HB6:=Z (zD HB1.o hB6);have HZ6:=Z (zH HZ.o hB6);clear hR6 hB6 hC6 hlc6);have f0:=zK HZ6.o 0;have f1:=zK HZ6.o 1;have c3:=(show w6.cell? ⟨w.heap.size+1,0,none⟩=some (.int .u64 0)from(zC HZ6.o 0).trans rfl);have c4:=(show w6.cell? ⟨w.heap.size+1,1,none⟩=some (.int .i64 0)from(zC HZ6.o 1).trans rfl);obtain⟨x,hx⟩:∃x,x=(yA t).getD 0 (0,0):=⟨_,rfl⟩;obtain⟨n,hn⟩:∃n,n=(yA t).length:=⟨_,rfl⟩;have HX:=Z hx.symm;have HNL:=Z hn.symm;have HBX:=Z (show Below w.heap.size w ((w6.setCell ⟨w.heap.size+1,0,none⟩ (.int .u64 x.1)).setCell ⟨w.heap.size+1,1,none⟩ (.int .i64 x.2))from Below.setCell (Below.setCell HB6.o (p:=⟨w.heap.size+1,0,none⟩) (by simp) _) (p:=⟨w.heap.size+1,1,none⟩) (by simp) _);rcases Nat.eq_zero_or_pos n with h0|h0
 ·have hd3:(yA t).length=0:=by omega
  rw[hd3];have hx0:x=(0,0):=by rw[hx,List.eq_nil_of_length_eq_zero (hn.symm.trans h0)];rfl
  have HX0:=Z hx0;have hzz:((0:Int)==0)=true:=by simp
  clear hx hn hx0;go_wp2;refine bodyPost_ret (zO (cs:=#[.int .u64 0,.int .i64 0]) rfl _ _ (w.heap.size+1) 38 (0,0) _ rfl (set2 HZ6.o rfl _ _) Tryz.underlying38 rfl (by kernel_rfl)) rfl ?_;refine⟨?_,by have:=HBX.o;rw[HX0.o]at this;exact this⟩;rw[HX.o,HX0.o,HNL.o,h0]
  rfl
 ·have hd:(0:Int)<((yA t).length:Int):=by omega
  have hzz:(((yA t).length:Int)==0)=false:=by
   have:((yA t).length:Int)≠0:=by omega
   simpa using this
  obtain⟨ad,e1,d0,d1⟩:=Tk.C_at HC6.o 0 (by omega);subst e1;have ex:Tk.gt (yA t) 0=x:=hx.symm;rw[ex]at d0 d1;simp only[Nat.zero_mul,Addr.add_zero']at d0 d1;clear hx hn ex;go_wp2;refine bodyPost_ret (zO (cs:=#[.int .u64 x.1,.int .i64 x.2]) rfl _ _ (w.heap.size+1) 38 (0,0) _ rfl (set2 HZ6.o rfl _ _) Tryz.underlying38 rfl (by kernel_rfl)) rfl ?_;refine⟨?_,HBX.o⟩;rw[HX.o,HNL.o,decide_eq_true h0]
  rfl
end Go.Proofs.YtnkhnnojdlgfjaaGreatDoor.Tm
end
