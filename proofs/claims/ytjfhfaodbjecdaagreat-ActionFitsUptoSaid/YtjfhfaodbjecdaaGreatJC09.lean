/-
  Layer 10's document, walked: mayInst.
-/
import Derived.Test.YtjfhfaodbjecdaaGreatJC05
import Derived.Test.YtjfhfaodbjecdaaGreatJC08
set_option maxHeartbeats 12800000
set_option maxRecDepth 100000
namespace Go.Proofs.YtjfhfaodbjecdaaGreat
open Go.RowKit
def isV (k a b:Int) (ep:Option Addr) (en ec:Nat) (to:Int):Value:= .agg #[.int .u8 k, .int .i64 a, .int .i64 b, .slice ep en ec, .int .i64 to]
def IBox (w:World) (g:Nat) (k a b:Int) (ep:Option Addr) (en ec:Nat) (to:Int):Prop:=w.heap[g]?=some (.cells #[.int .u8 k, .int .i64 a, .int .i64 b, .slice ep en ec, .int .i64 to] 75 (0,0))
theorem IBox.cells {w:World} {g:Nat} {k a b:Int} {ep:Option Addr} {en ec:Nat} {to:Int} (h:IBox w g k a b ep en ec to):w.cell? ⟨g,0,none⟩=some (.int .u8 k)/\w.cell? ⟨g,1,none⟩=some (.int .i64 a)/\w.cell? ⟨g,2,none⟩=some (.int .i64 b)/\w.cell? ⟨g,3,none⟩=some (.slice ep en ec)/\w.cell? ⟨g,4,none⟩=some (.int .i64 to):=by
 unfold IBox at h;refine ⟨?_,?_,?_,?_,?_⟩<;>simp[World.cell?,h]
theorem IBox.below {w w':World} {g:Nat} {k a b:Int} {ep:Option Addr} {en ec:Nat} {to:Int} (h:IBox w g k a b ep en ec to) (hb:Below w.heap.size w w'):IBox w' g k a b ep en ec to:=(hb.block g (Array.getElem?_eq_some_iff.1 h).1).trans h
def tailP (k to:Int) (i many en:Nat) (o:Option Int) (W:Int):Bool:=(if k=7\/k=8 then decide ((i:Int)<to/\to<=(many:Int)) else decide (to=0))&&(if W=0 then decide (en=0) else decide (o=some W))
theorem mayInst_some {p:Prg} {act:Int} {x:Ist} {i many:Nat} {W:Int} (h:instW p act x=some W):mayInstP p act x i many=tailP x.k x.to i many x.e.length (widthP p act x.e) W:=by
 unfold mayInstP tailP;rw[h]
theorem mayInst_none {p:Prg} {act:Int} {x:Ist} {i many:Nat} (h:instW p act x=none):mayInstP p act x i many=false:=by
 unfold mayInstP;rw[h]
theorem mayInst_any (s:PgS) (p:Prg) (act:Int) (x:Ist) (ep:Option Addr) (en ec i many:Nat) (w:World) (hp:PgOk w s p) (hS:Sm p) (he:CRow w (.slice ep en ec) x.e) (hen:en<=6000):
 Calls Tryz.prog 59 #[pgV s, .int .i64 act,isV x.k x.a x.b ep en ec x.to, .int .i64 (i:Int), .int .i64 (many:Int)] w fun e w'=>e= .returned (.bool (mayInstP p act x i many))/\Below w.heap.size w w':=by
 obtain ⟨k,a,b,c,to⟩:=x;dsimp only at he⊢;obtain ⟨R,hR⟩:∃R,R=mayInstP p act ⟨k,a,b,c,to⟩ i many:=⟨_,rfl⟩;rw[<- hR];obtain ⟨o,ho⟩:∃o,o=widthP p act c:=⟨_,rfl⟩;obtain ⟨hec,-,-,-⟩:=he.ln;have HSO:Hid (∀ W,instW p act ⟨k,a,b,c,to⟩=some W->R=tailP k to i many en o W):=fun W h=>by rw[hR,mayInst_some h,ho,hec]
 have HNO:Hid (instW p act ⟨k,a,b,c,to⟩=none->R=false):=fun h=>by rw[hR,mayInst_none h]
 have HP:=hD hp;have HS:=hD hS;have HWI:Hid (∀ W,Below w.heap.size w W->Calls Tryz.prog 60 #[pgV s, .int .i64 act, .slice ep en ec] W fun e w'=>e= .returned (wRes o)/\Below W.heap.size W w'):=fun W h=>by rw[ho];exact width_any s p act c ep en ec W (hp.below h) hS (he.below keepNd h) hen
 obtain ⟨hd1,hd2,hd3,-⟩:=hp.heads.ln;obtain ⟨hm1,hm2,hm3,-⟩:=hp.metas.ln;obtain ⟨ht1,ht2,ht3,-⟩:=hp.tabs.ln;have hds:=hS.heads;have hms:=hS.metas;have hts:=hS.tabs;rw[<- hd1] at hds;rw[<- hm1] at hms;rw[<- ht1] at hts;have HL:=hD (And.intro hd1 (And.intro hm1 ht1));clear hR ho hec hp hS he hd1 hm1 ht1;unfold pgV at HWI⊢;unfold isV;go_enter Tryz.func59,Tryz.ntmps59;go_upto_region 2 with fail
 obtain ⟨W0,hW0⟩:∃W0,W0=(w.alloc (.cells (pA s) 33)).alloc (.cells #[.int .u8 k, .int .i64 a, .int .i64 b, .slice ep en ec, .int .i64 to] 75):=⟨_,rfl⟩;have HB0:Hid (Below w.heap.size w W0):=by show Below _ _ _;rw[hW0];exact (by repeat (first|exact Below.refl _ _|assumption|refine Below.drew ?_|refine blA ?_|refine blS ?_|refine blT ?_ (by assumption)))
 have HPB:Hid (PBox W0 w.heap.size s):=by show _=_;rw[hW0,Below.heap_alloc _ _ _ (by simp)];exact heap_new _ _
 have HIB:Hid (IBox W0 (w.heap.size+1) k a b ep en ec to):=by
  show _=_;rw[hW0];have:=heap_new (w.alloc (.cells (pA s) 33)) (.cells #[.int .u8 k, .int .i64 a, .int .i64 b, .slice ep en ec, .int .i64 to] 75);simp only[World.size_alloc] at this;exact this
 rw[<- hW0];clear hW0;obtain ⟨q0,q1,q2,q3,q4,q5,q6,q7,q8,q9,q10,q11⟩:=HPB.out.cells;obtain ⟨i0,i1,i2,i3,i4⟩:=HIB.out.cells;by_cases k1:k=1
 ·subst k1;by_cases ha:0<=a/\a<(s.hn:Int)
  ·obtain ⟨ha1,ha2⟩:=ha;obtain ⟨j,rfl⟩:∃j:Nat,a=(j:Int):=⟨a.toNat,by omega⟩;obtain ⟨hb,ho,p1,nr,c1,hps,hbl,hcell,hrow⟩:=IsRow.el HP.out.heads (j:=j) (by have:=HL.out.1;omega);have hlen:(p.heads.getD j []).length<=6000:=HS.out.head _ (List.mem_of_getElem? (some_getD [] (by have:=HL.out.1;omega)));obtain ⟨hln,hln2,-,-⟩:=hrow.ln;have hW:instW p act ⟨1,(j:Int),b,c,to⟩=if 0<=b/\b<(nr:Int) then some ((p.heads.getD j []).getD b.toNat 0) else none:=by
    have e1:(0:Int)<=(j:Int)/\(j:Int)<(p.heads.length:Int):=by have:=HL.out.1;omega
    unfold instW;dsimp only;rw[if_pos rfl];simp only[e1,true_and,Int.toNat_natCast, <-hln]
   have HW:=hD hW;have hnr:nr<=6000:=by omega
   have HCE:Hid (∀ W,Below W0.heap.size W0 W->W.cell? ⟨w.heap.size,0,none⟩=some (.slice (some ⟨hb,ho,none⟩) s.hn s.hc)/\W.cell? ⟨w.heap.size+1,1,none⟩=some (.int .i64 (j:Int))/\W.cell? ⟨w.heap.size+1,2,none⟩=some (.int .i64 b)/\W.cell? ⟨hb,ho+j,none⟩=some (.slice p1 nr c1)):=fun W h=>by
    obtain ⟨a0,-⟩:=(HPB.out.below h).cells;obtain ⟨-,a2,a3,-,-⟩:=(HIB.out.below h).cells;rw[hps] at a0;exact ⟨a0,a2,a3,((HB0.out.trans (h.mono HB0.out.size)).cell (p:=⟨hb,ho+j,none⟩) hbl).trans hcell⟩
   have HROW:=hD hrow;have HLN:=hD hln;rw[hps] at q0 HWI⊢;clear hW hrow hln hlen hcell;go_upto_region 6 with fail
   by_cases hb0:b<0
   ·skip;refine roB W0 ?_;refine stq ?_ (fun aa ww ll hh=>?_) ?_;rotate_left
    ·have e12:=hh.oL 12;refine ov ?_;rw[xmv e12]
    refine stq ?_ (fun aa ww ll hh=>?_) ?_;rotate_left
    ·have e30:=hh.gt 0 0;exact ov gX
    refine stm 1 0 ?_;refine stq ?_ (fun aa ww ll hh=>?_) ?_;rotate_left
    ·have e7:=hh.oL 7;exact hh.og 0 gX
    refine stq ?_ (fun aa ww ll hh=>?_) ?_;rotate_left
    ·have e33:=hh.gt 3 0;obtain ⟨c0,c1,c2,c3⟩:=HCE.out ww hh.inv;exact hh.og 1 gX
    refine stq ?_ (fun aa ww ll hh=>?_) ?_;rotate_left
    ·have e34:=hh.gt 4 0;have ec:=evc aa;exact hh.og 2 gX
    refine stq ?_ (fun aa ww ll hh=>?_) ?_;rotate_left
    ·have e32:=hh.gt 2 3;have e35:=hh.gt 5 0;have ec:=evc aa;exact ov gX
    refine stm 6 0 ?_;refine stk 0 ?_;refine stk 1 ?_;refine stk 2 ?_;refine stk 3 ?_;refine stk 4 ?_;refine stk 5 ?_;refine stk 6 ?_;refine stk 7 ?_;refine stk 8 ?_;refine stk 9 ?_;refine stq ?_ (fun aa ww ll hh=>?_) ?_;rotate_left
    ·have e37:=hh.gt 7 10;have e47:=hh.gt 17 0;have ec:=evc aa;exact ov gX
    intro ll w3 hS hok;clear hok;simp only[List.reverse_cons,List.reverse_nil,List.nil_append,List.cons_append,layO,Out.val,Act.put,List.setIfInBounds_toArray,List.set_cons_zero,List.set_cons_succ];have hr:R=false:=HNO.out (HW.out.trans (if_neg (by omega)));go_wp2_with fail;go_ret;exact ⟨by first|rfl|(rw[hr];rfl),HB0.out.trans (hS.mono HB0.out.size)⟩
   ·by_cases hb1:(nr:Int)<=b
    ·skip;refine roB W0 ?_;refine stq ?_ (fun aa ww ll hh=>?_) ?_;rotate_left
     ·have e12:=hh.oL 12;refine ov ?_;rw[xmv e12]
     refine stq ?_ (fun aa ww ll hh=>?_) ?_;rotate_left
     ·have e30:=hh.gt 0 0;exact ov gX
     refine stm 1 0 ?_;refine stq ?_ (fun aa ww ll hh=>?_) ?_;rotate_left
     ·have e7:=hh.oL 7;exact hh.og 0 gX
     refine stq ?_ (fun aa ww ll hh=>?_) ?_;rotate_left
     ·have e33:=hh.gt 3 0;obtain ⟨c0,c1,c2,c3⟩:=HCE.out ww hh.inv;exact hh.og 1 gX
     refine stq ?_ (fun aa ww ll hh=>?_) ?_;rotate_left
     ·have e34:=hh.gt 4 0;have ec:=evc aa;exact hh.og 2 gX
     refine stq ?_ (fun aa ww ll hh=>?_) ?_;rotate_left
     ·have e32:=hh.gt 2 3;have e35:=hh.gt 5 0;have ec:=evc aa;exact ov gX
     refine stm 6 0 ?_;refine stq ?_ (fun aa ww ll hh=>?_) ?_;rotate_left
     ·have e7:=hh.oL 7;exact hh.og 0 gX
     refine stq ?_ (fun aa ww ll hh=>?_) ?_;rotate_left
     ·have e38:=hh.gt 8 0;obtain ⟨c0,c1,c2,c3⟩:=HCE.out ww hh.inv;exact hh.og 1 gX
     refine stq ?_ (fun aa ww ll hh=>?_) ?_;rotate_left
     ·have e5:=hh.oL 5;exact hh.og 2 gX
     refine stq ?_ (fun aa ww ll hh=>?_) ?_;rotate_left
     ·have e40:=hh.gt 10 0;obtain ⟨c0,c1,c2,c3⟩:=HCE.out ww hh.inv;exact hh.og 3 gX
     refine stq ?_ (fun aa ww ll hh=>?_) ?_;rotate_left
     ·have e7:=hh.oL 7;exact hh.og 4 gX
     refine stq ?_ (fun aa ww ll hh=>?_) ?_;rotate_left
     ·have e42:=hh.gt 12 0;obtain ⟨c0,c1,c2,c3⟩:=HCE.out ww hh.inv;exact hh.og 5 gX
     refine stq ?_ (fun aa ww ll hh=>?_) ?_;rotate_left
     ·have e41:=hh.gt 11 2;have e43:=hh.gt 13 0;exact hh.og 6 gX
     refine stq ?_ (fun aa ww ll hh=>?_) ?_;rotate_left
     ·have e44:=hh.gt 14 0;obtain ⟨c0,c1,c2,c3⟩:=HCE.out ww hh.inv;exact hh.og 7 gX
     refine stq ?_ (fun aa ww ll hh=>?_) ?_;rotate_left
     ·have e45:=hh.gt 15 0;obtain ⟨c0,c1,c2,c3⟩:=HCE.out ww hh.inv;exact hh.og 8 gX
     refine stq ?_ (fun aa ww ll hh=>?_) ?_;rotate_left
     ·have e39:=hh.gt 9 7;have e46:=hh.gt 16 0;exact hh.og 9 gX
     refine stq ?_ (fun aa ww ll hh=>?_) ?_;rotate_left
     ·have e37:=hh.gt 7 10;have e47:=hh.gt 17 0;have ec:=evc aa;exact ov gX
     intro ll w3 hS hok;clear hok;simp only[List.reverse_cons,List.reverse_nil,List.nil_append,List.cons_append,layO,Out.val,Act.put,List.setIfInBounds_toArray,List.set_cons_zero,List.set_cons_succ];have hr:R=false:=HNO.out (HW.out.trans (if_neg (by omega)));go_wp2_with fail;go_ret;exact ⟨by first|rfl|(rw[hr];rfl),HB0.out.trans (hS.mono HB0.out.size)⟩
    ·obtain ⟨z,rfl⟩:∃z:Nat,b=(z:Int):=⟨b.toNat,by omega⟩;obtain ⟨rb,ro,rfl,hrb,hrc⟩:=IRow.el HROW.out (j:=z) (by have:=HLN.out;omega);obtain ⟨V,hV⟩:∃V,V=(p.heads.getD j []).getD z 0:=⟨_,rfl⟩;rw[<- hV] at hrc;have HR:=hD (HSO.out V (HW.out.trans ((if_pos (by omega)).trans (by rw[hV];rfl))));have hzn:(z:Int)<(nr:Int):=by omega
     have HCF:Hid (∀ W,Below W0.heap.size W0 W->W.cell? ⟨rb,ro+z,none⟩=some (.int .i64 V)):=fun W h=>((HB0.out.trans (h.mono HB0.out.size)).cell (p:=⟨rb,ro+z,none⟩) hrb).trans hrc
     clear hV hrc;refine roB W0 ?_;refine stq ?_ (fun aa ww ll hh=>?_) ?_;rotate_left
     ·have e12:=hh.oL 12;refine ov ?_;rw[xmv e12]
     refine stq ?_ (fun aa ww ll hh=>?_) ?_;rotate_left
     ·have e30:=hh.gt 0 0;exact ov gX
     refine stm 1 0 ?_;refine stq ?_ (fun aa ww ll hh=>?_) ?_;rotate_left
     ·have e7:=hh.oL 7;exact hh.og 0 gX
     refine stq ?_ (fun aa ww ll hh=>?_) ?_;rotate_left
     ·have e33:=hh.gt 3 0;obtain ⟨c0,c1,c2,c3⟩:=HCE.out ww hh.inv;exact hh.og 1 gX
     refine stq ?_ (fun aa ww ll hh=>?_) ?_;rotate_left
     ·have e34:=hh.gt 4 0;have ec:=evc aa;exact hh.og 2 gX
     refine stq ?_ (fun aa ww ll hh=>?_) ?_;rotate_left
     ·have e32:=hh.gt 2 3;have e35:=hh.gt 5 0;have ec:=evc aa;exact ov gX
     refine stm 6 0 ?_;refine stq ?_ (fun aa ww ll hh=>?_) ?_;rotate_left
     ·have e7:=hh.oL 7;exact hh.og 0 gX
     refine stq ?_ (fun aa ww ll hh=>?_) ?_;rotate_left
     ·have e38:=hh.gt 8 0;obtain ⟨c0,c1,c2,c3⟩:=HCE.out ww hh.inv;exact hh.og 1 gX
     refine stq ?_ (fun aa ww ll hh=>?_) ?_;rotate_left
     ·have e5:=hh.oL 5;exact hh.og 2 gX
     refine stq ?_ (fun aa ww ll hh=>?_) ?_;rotate_left
     ·have e40:=hh.gt 10 0;obtain ⟨c0,c1,c2,c3⟩:=HCE.out ww hh.inv;exact hh.og 3 gX
     refine stq ?_ (fun aa ww ll hh=>?_) ?_;rotate_left
     ·have e7:=hh.oL 7;exact hh.og 4 gX
     refine stq ?_ (fun aa ww ll hh=>?_) ?_;rotate_left
     ·have e42:=hh.gt 12 0;obtain ⟨c0,c1,c2,c3⟩:=HCE.out ww hh.inv;exact hh.og 5 gX
     refine stq ?_ (fun aa ww ll hh=>?_) ?_;rotate_left
     ·have e41:=hh.gt 11 2;have e43:=hh.gt 13 0;exact hh.og 6 gX
     refine stq ?_ (fun aa ww ll hh=>?_) ?_;rotate_left
     ·have e44:=hh.gt 14 0;obtain ⟨c0,c1,c2,c3⟩:=HCE.out ww hh.inv;exact hh.og 7 gX
     refine stq ?_ (fun aa ww ll hh=>?_) ?_;rotate_left
     ·have e45:=hh.gt 15 0;obtain ⟨c0,c1,c2,c3⟩:=HCE.out ww hh.inv;exact hh.og 8 gX
     refine stq ?_ (fun aa ww ll hh=>?_) ?_;rotate_left
     ·have e39:=hh.gt 9 7;have e46:=hh.gt 16 0;exact hh.og 9 gX
     refine stq ?_ (fun aa ww ll hh=>?_) ?_;rotate_left
     ·have e37:=hh.gt 7 10;have e47:=hh.gt 17 0;have ec:=evc aa;exact ov gX
     intro ll w3 hS hok;clear hok;simp only[List.reverse_cons,List.reverse_nil,List.nil_append,List.cons_append,layO,Out.val,Act.put,List.setIfInBounds_toArray,List.set_cons_zero,List.set_cons_succ];go_upto_region 8 with fail
     refine roB w3 ?_;refine stq ?_ (fun aa ww ll hh=>?_) ?_;rotate_left
     ·have e5:=hh.oL 5;exact ov gX
     refine stq ?_ (fun aa ww ll hh=>?_) ?_;rotate_left
     ·have e49:=hh.gt 0 0;obtain ⟨c0,c1,c2,c3⟩:=HCE.out ww (hS.trans (hh.inv.mono hS.size));have c4:=HCF.out ww (hS.trans (hh.inv.mono hS.size));exact ov gX
     refine stq ?_ (fun aa ww ll hh=>?_) ?_;rotate_left
     ·have e7:=hh.oL 7;exact ov gX
     refine stq ?_ (fun aa ww ll hh=>?_) ?_;rotate_left
     ·have e51:=hh.gt 2 0;obtain ⟨c0,c1,c2,c3⟩:=HCE.out ww (hS.trans (hh.inv.mono hS.size));have c4:=HCF.out ww (hS.trans (hh.inv.mono hS.size));exact ov gX
     refine stq ?_ (fun aa ww ll hh=>?_) ?_;rotate_left
     ·have e50:=hh.gt 1 2;have e52:=hh.gt 3 0;exact ov gX
     refine stq ?_ (fun aa ww ll hh=>?_) ?_;rotate_left
     ·have e53:=hh.gt 4 0;obtain ⟨c0,c1,c2,c3⟩:=HCE.out ww (hS.trans (hh.inv.mono hS.size));have c4:=HCF.out ww (hS.trans (hh.inv.mono hS.size));exact ov gX
     refine stq ?_ (fun aa ww ll hh=>?_) ?_;rotate_left
     ·have e7:=hh.oL 7;exact ov gX
     refine stq ?_ (fun aa ww ll hh=>?_) ?_;rotate_left
     ·have e55:=hh.gt 6 0;obtain ⟨c0,c1,c2,c3⟩:=HCE.out ww (hS.trans (hh.inv.mono hS.size));have c4:=HCF.out ww (hS.trans (hh.inv.mono hS.size));exact ov gX
     refine stq ?_ (fun aa ww ll hh=>?_) ?_;rotate_left
     ·have e54:=hh.gt 5 2;have e56:=hh.gt 7 0;exact ov gX
     refine stq ?_ (fun aa ww ll hh=>?_) ?_;rotate_left
     ·have e57:=hh.gt 8 0;obtain ⟨c0,c1,c2,c3⟩:=HCE.out ww (hS.trans (hh.inv.mono hS.size));have c4:=HCF.out ww (hS.trans (hh.inv.mono hS.size));exact ov gX
     refine stm 9 0 ?_;intro ll w4 hS2 hok;clear hok;simp only[List.reverse_cons,List.reverse_nil,List.nil_append,List.cons_append,layO,Out.val,Act.put,List.setIfInBounds_toArray,List.set_cons_zero,List.set_cons_succ];obtain ⟨q0,q1,q2,q3,q4,q5,q6,q7,q8,q9,q10,q11⟩:=(HPB.out.below (hS.trans (hS2.mono hS.size))).cells;obtain ⟨i0,i1,i2,i3,i4⟩:=(HIB.out.below (hS.trans (hS2.mono hS.size))).cells;have HB4:Hid (Below w.heap.size w w4):=HB0.out.trans ((hS.trans (hS2.mono hS.size)).mono HB0.out.size);clear hS hS2;cases o
     all_goals
      go_wp2_with (go_at_call 60;refine (HWI.out _ HB4.out).mono ?_;rintro e w5 ⟨rfl,hb5⟩;unfold wRes;have HB5:=hD hb5;clear hb5)
      all_goals
       go_ret;refine ⟨?_,by first|exact HB4.out|exact (HB4.out).trans (HB5.out.mono (HB4.out).size)⟩;show Ending.returned (.bool _)=_;congr 2;rw[HR.out];clear HB0 HPB HIB HP HS HNO HSO HR
       try simp only[bne_iff_ne,ne_eq,beq_iff_eq,beq_eq_false_iff_ne,bne_eq_false_iff_eq,Int.not_lt] at*
       unfold tailP
       first|(simp_all;done)|(simp_all;omega)|(simp_all;rw[Bool.eq_iff_iff,beq_iff_eq,decide_eq_true_eq];try first|exact Iff.rfl|omega)
  ·have hr:R=false:=HNO.out (by
    unfold instW;dsimp only;rw[if_pos rfl,if_neg (by have:=HL.out.1;omega)])
   have HCE:Hid (∀ W,Below W0.heap.size W0 W->W.cell? ⟨w.heap.size,0,none⟩=some (.slice s.hp s.hn s.hc)/\W.cell? ⟨w.heap.size+1,1,none⟩=some (.int .i64 a)/\W.cell? ⟨w.heap.size+1,2,none⟩=some (.int .i64 b)/\W.cell? ⟨w.heap.size,0,none⟩=some (.slice s.hp s.hn s.hc)):=fun W h=>by
    obtain ⟨a0,-⟩:=(HPB.out.below h).cells;obtain ⟨-,a2,a3,-,-⟩:=(HIB.out.below h).cells;exact ⟨a0,a2,a3,a0⟩
   rcases (show (a<0/\¬0<=a)\/(0<=a/\¬a<(s.hn:Int)) by omega) with ⟨ha1,ha2⟩|⟨ha1,ha2⟩
   all_goals
    go_upto_region 6 with fail
    refine roB W0 ?_;refine stq ?_ (fun aa ww ll hh=>?_) ?_;rotate_left
    ·have e12:=hh.oL 12;refine ov ?_;rw[xmv e12]
    refine stq ?_ (fun aa ww ll hh=>?_) ?_;rotate_left
    ·have e30:=hh.gt 0 0;exact ov gX
    refine stm 1 0 ?_;refine stk 0 ?_;refine stk 1 ?_;refine stk 2 ?_;refine stq ?_ (fun aa ww ll hh=>?_) ?_;rotate_left
    ·have e32:=hh.gt 2 3;have e35:=hh.gt 5 0;have ec:=evc aa;exact ov gX
    refine stm 6 0 ?_;refine stk 0 ?_;refine stk 1 ?_;refine stk 2 ?_;refine stk 3 ?_;refine stk 4 ?_;refine stk 5 ?_;refine stk 6 ?_;refine stk 7 ?_;refine stk 8 ?_;refine stk 9 ?_;refine stq ?_ (fun aa ww ll hh=>?_) ?_;rotate_left
    ·have e37:=hh.gt 7 10;have e47:=hh.gt 17 0;have ec:=evc aa;exact ov gX
    intro ll w3 hS hok;clear hok;simp only[List.reverse_cons,List.reverse_nil,List.nil_append,List.cons_append,layO,Out.val,Act.put,List.setIfInBounds_toArray,List.set_cons_zero,List.set_cons_succ];go_wp2_with fail;go_ret;exact ⟨by first|rfl|(rw[hr];rfl),HB0.out.trans (hS.mono HB0.out.size)⟩
 by_cases k2:k=2
 ·subst k2;by_cases ha:(0<=a/\a<(s.mn:Int))/\b=0
  ·obtain ⟨⟨ha1,ha2⟩,rfl⟩:=ha;obtain ⟨j,rfl⟩:∃j:Nat,a=(j:Int):=⟨a.toNat,by omega⟩;obtain ⟨rb,ro,hps,hrb,hrc⟩:=IRow.el HP.out.metas (j:=j) (by have:=HL.out.2.1;omega);obtain ⟨V,hV⟩:∃V,V=p.metas.getD j 0:=⟨_,rfl⟩;rw[<- hV] at hrc;have HR:=hD (HSO.out V (by
    unfold instW;dsimp only;rw[if_neg (by simp),if_pos rfl,if_pos (by have:=HL.out.2.1;omega),hV];rfl))
   have hrc0:=(HB0.out.cell (p:=⟨rb,ro+j,none⟩) hrb).trans hrc;rw[hps] at q1 HWI⊢;clear hV hrc;cases o
   all_goals
    go_wp2_with (go_at_call 60;refine (HWI.out _ HB0.out).mono ?_;rintro e w5 ⟨rfl,hb5⟩;unfold wRes;have HB5:=hD hb5;clear hb5)
    all_goals
     go_ret;refine ⟨?_,by first|exact HB0.out|exact (HB0.out).trans (HB5.out.mono (HB0.out).size)⟩;show Ending.returned (.bool _)=_;congr 2;rw[HR.out];clear HB0 HPB HIB HP HS HNO HSO HR
     try simp only[bne_iff_ne,ne_eq,beq_iff_eq,beq_eq_false_iff_ne,bne_eq_false_iff_eq,Int.not_lt] at*
     unfold tailP
     first|(simp_all;done)|(simp_all;omega)|(simp_all;rw[Bool.eq_iff_iff,beq_iff_eq,decide_eq_true_eq];try first|exact Iff.rfl|omega)
  ·have hr:R=false:=HNO.out (by
    unfold instW;dsimp only;rw[if_neg (by simp),if_pos rfl,if_neg (by have:=HL.out.2.1;omega)])
   rcases (show a<0\/(0<=a/\(s.mn:Int)<=a)\/(0<=a/\a<(s.mn:Int)/\¬b=0) by omega) with ha1|⟨ha1,ha2⟩|⟨ha1,ha2,ha3⟩
   all_goals
    try have hb8:(b !=0)=true:=bne_iff_ne.2 (by omega)
    try have hb9:(b !=1)=true:=bne_iff_ne.2 (by omega)
    try have ha8:(a !=0)=true:=bne_iff_ne.2 (by omega)
    go_wp2_with fail
    all_goals
     go_ret;exact ⟨by first|rfl|(rw[hr];rfl),HB0.out⟩
 by_cases k3:k=3
 ·subst k3;by_cases ha:act<0/\(0<=a/\a<(s.tn:Int))/\b=0
  ·obtain ⟨hac,⟨ha1,ha2⟩,rfl⟩:=ha;have HR:=hD (HSO.out 0 (by
    unfold instW;dsimp only;rw[if_neg (by simp),if_neg (by simp),if_pos rfl,if_pos (by have:=HL.out.2.2;omega)]))
   go_wp2_with (go_at_call 60;refine (HWI.out _ HB0.out).mono ?_;rintro e w5 ⟨rfl,hb5⟩;unfold wRes;have HB5:=hD hb5;clear hb5)
   all_goals
    go_ret;refine ⟨?_,by first|exact HB0.out|exact (HB0.out).trans (HB5.out.mono (HB0.out).size)⟩;show Ending.returned (.bool _)=_;congr 2;rw[HR.out];clear HB0 HPB HIB HP HS HNO HSO HR
    try simp only[bne_iff_ne,ne_eq,beq_iff_eq,beq_eq_false_iff_ne,bne_eq_false_iff_eq,Int.not_lt] at*
    unfold tailP
    first|(simp_all;done)|(simp_all;omega)|(simp_all;rw[Bool.eq_iff_iff,beq_iff_eq,decide_eq_true_eq];try first|exact Iff.rfl|omega)
  ·have hr:R=false:=HNO.out (by
    unfold instW;dsimp only;rw[if_neg (by simp),if_neg (by simp),if_pos rfl,if_neg (by have:=HL.out.2.2;omega)])
   rcases (show 0<=act\/(act<0/\a<0)\/(act<0/\0<=a/\(s.tn:Int)<=a)\/(act<0/\0<=a/\a<(s.tn:Int)/\¬b=0) by omega) with ha1|⟨ha1,ha2⟩|⟨ha1,ha2,ha3⟩|⟨ha1,ha2,ha3,ha4⟩
   all_goals
    try have hb8:(b !=0)=true:=bne_iff_ne.2 (by omega)
    try have hb9:(b !=1)=true:=bne_iff_ne.2 (by omega)
    try have ha8:(a !=0)=true:=bne_iff_ne.2 (by omega)
    go_wp2_with fail
    all_goals
     go_ret;exact ⟨by first|rfl|(rw[hr];rfl),HB0.out⟩
 by_cases k6:k=6
 ·subst k6;by_cases ha:(0<=a/\a<(s.hn:Int))/\(b=0\/b=1)
  ·obtain ⟨⟨ha1,ha2⟩,hb01⟩:=ha;have HR:=hD (HSO.out 0 (by
    unfold instW;dsimp only;rw[if_neg (by simp),if_neg (by simp),if_neg (by simp),if_pos rfl,if_pos (by have:=HL.out.1;omega)]))
   rcases hb01 with rfl|rfl
   all_goals
    go_wp2_with (go_at_call 60;refine (HWI.out _ HB0.out).mono ?_;rintro e w5 ⟨rfl,hb5⟩;unfold wRes;have HB5:=hD hb5;clear hb5)
    all_goals
     go_ret;refine ⟨?_,by first|exact HB0.out|exact (HB0.out).trans (HB5.out.mono (HB0.out).size)⟩;show Ending.returned (.bool _)=_;congr 2;rw[HR.out];clear HB0 HPB HIB HP HS HNO HSO HR
     try simp only[bne_iff_ne,ne_eq,beq_iff_eq,beq_eq_false_iff_ne,bne_eq_false_iff_eq,Int.not_lt] at*
     unfold tailP
     first|(simp_all;done)|(simp_all;omega)|(simp_all;rw[Bool.eq_iff_iff,beq_iff_eq,decide_eq_true_eq];try first|exact Iff.rfl|omega)
  ·have hr:R=false:=HNO.out (by
    unfold instW;dsimp only;rw[if_neg (by simp),if_neg (by simp),if_neg (by simp),if_pos rfl,if_neg (by have:=HL.out.1;omega)])
   rcases (show (a<0/\¬0<=a)\/(0<=a/\(s.hn:Int)<=a/\¬a<(s.hn:Int))\/(0<=a/\a<(s.hn:Int)/\¬b=0/\¬b=1) by omega) with ⟨ha1,ha2⟩|⟨ha1,ha2,ha3⟩|⟨ha1,ha2,ha3,ha4⟩
   all_goals
    try have hb8:(b !=0)=true:=bne_iff_ne.2 (by omega)
    try have hb9:(b !=1)=true:=bne_iff_ne.2 (by omega)
    try have ha8:(a !=0)=true:=bne_iff_ne.2 (by omega)
    go_wp2_with fail
    all_goals
     go_ret;exact ⟨by first|rfl|(rw[hr];rfl),HB0.out⟩
 by_cases k7:k=7
 ·subst k7;by_cases ha:a=0/\b=0
  ·obtain ⟨rfl,rfl⟩:=ha;have HR:=hD (HSO.out 1 (by simp[instW]));cases o
   all_goals
    go_wp2_with (go_at_call 60;refine (HWI.out _ HB0.out).mono ?_;rintro e w5 ⟨rfl,hb5⟩;unfold wRes;have HB5:=hD hb5;clear hb5)
    all_goals
     go_ret;refine ⟨?_,by first|exact HB0.out|exact (HB0.out).trans (HB5.out.mono (HB0.out).size)⟩;show Ending.returned (.bool _)=_;congr 2;rw[HR.out];clear HB0 HPB HIB HP HS HNO HSO HR
     try simp only[bne_iff_ne,ne_eq,beq_iff_eq,beq_eq_false_iff_ne,bne_eq_false_iff_eq,Int.not_lt] at*
     unfold tailP
     first|(simp_all;done)|(simp_all;omega)|(simp_all;rw[Bool.eq_iff_iff,beq_iff_eq,decide_eq_true_eq];try first|exact Iff.rfl|omega)
  ·have hr:R=false:=HNO.out (by
    unfold instW;dsimp only;rw[if_neg (by simp),if_neg (by simp),if_neg (by simp),if_neg (by simp),if_pos (by simp),if_neg ha])
   rcases (show ¬a=0\/(a=0/\¬b=0) by omega) with ha1|⟨ha1,ha2⟩
   all_goals
    try have hb8:(b !=0)=true:=bne_iff_ne.2 (by omega)
    try have hb9:(b !=1)=true:=bne_iff_ne.2 (by omega)
    try have ha8:(a !=0)=true:=bne_iff_ne.2 (by omega)
    go_wp2_with fail
    all_goals
     go_ret;exact ⟨by first|rfl|(rw[hr];rfl),HB0.out⟩
 by_cases k5:k=5
 ·subst k5;by_cases ha:a=0/\b=0
  ·obtain ⟨rfl,rfl⟩:=ha;have HR:=hD (HSO.out 9 (by simp[instW]));cases o
   all_goals
    go_wp2_with (go_at_call 60;refine (HWI.out _ HB0.out).mono ?_;rintro e w5 ⟨rfl,hb5⟩;unfold wRes;have HB5:=hD hb5;clear hb5)
    all_goals
     go_ret;refine ⟨?_,by first|exact HB0.out|exact (HB0.out).trans (HB5.out.mono (HB0.out).size)⟩;show Ending.returned (.bool _)=_;congr 2;rw[HR.out];clear HB0 HPB HIB HP HS HNO HSO HR
     try simp only[bne_iff_ne,ne_eq,beq_iff_eq,beq_eq_false_iff_ne,bne_eq_false_iff_eq,Int.not_lt] at*
     unfold tailP
     first|(simp_all;done)|(simp_all;omega)|(simp_all;rw[Bool.eq_iff_iff,beq_iff_eq,decide_eq_true_eq];try first|exact Iff.rfl|omega)
  ·have hr:R=false:=HNO.out (by
    unfold instW;dsimp only;rw[if_neg (by simp),if_neg (by simp),if_neg (by simp),if_neg (by simp),if_pos (by simp),if_neg ha])
   rcases (show ¬a=0\/(a=0/\¬b=0) by omega) with ha1|⟨ha1,ha2⟩
   all_goals
    try have hb8:(b !=0)=true:=bne_iff_ne.2 (by omega)
    try have hb9:(b !=1)=true:=bne_iff_ne.2 (by omega)
    try have ha8:(a !=0)=true:=bne_iff_ne.2 (by omega)
    go_wp2_with fail
    all_goals
     go_ret;exact ⟨by first|rfl|(rw[hr];rfl),HB0.out⟩
 by_cases k4:k=4
 ·subst k4;by_cases ha:a=0/\b=0
  ·obtain ⟨rfl,rfl⟩:=ha;have HR:=hD (HSO.out 0 (by simp[instW]));cases o
   all_goals
    go_wp2_with (go_at_call 60;refine (HWI.out _ HB0.out).mono ?_;rintro e w5 ⟨rfl,hb5⟩;unfold wRes;have HB5:=hD hb5;clear hb5)
    all_goals
     go_ret;refine ⟨?_,by first|exact HB0.out|exact (HB0.out).trans (HB5.out.mono (HB0.out).size)⟩;show Ending.returned (.bool _)=_;congr 2;rw[HR.out];clear HB0 HPB HIB HP HS HNO HSO HR
     try simp only[bne_iff_ne,ne_eq,beq_iff_eq,beq_eq_false_iff_ne,bne_eq_false_iff_eq,Int.not_lt] at*
     unfold tailP
     first|(simp_all;done)|(simp_all;omega)|(simp_all;rw[Bool.eq_iff_iff,beq_iff_eq,decide_eq_true_eq];try first|exact Iff.rfl|omega)
  ·have hr:R=false:=HNO.out (by
    unfold instW;dsimp only;rw[if_neg (by simp),if_neg (by simp),if_neg (by simp),if_neg (by simp),if_pos (by simp),if_neg ha])
   rcases (show ¬a=0\/(a=0/\¬b=0) by omega) with ha1|⟨ha1,ha2⟩
   all_goals
    try have hb8:(b !=0)=true:=bne_iff_ne.2 (by omega)
    try have hb9:(b !=1)=true:=bne_iff_ne.2 (by omega)
    try have ha8:(a !=0)=true:=bne_iff_ne.2 (by omega)
    go_wp2_with fail
    all_goals
     go_ret;exact ⟨by first|rfl|(rw[hr];rfl),HB0.out⟩
 by_cases k8:k=8
 ·subst k8;by_cases ha:a=0/\b=0
  ·obtain ⟨rfl,rfl⟩:=ha;have HR:=hD (HSO.out 0 (by simp[instW]));cases o
   all_goals
    go_wp2_with (go_at_call 60;refine (HWI.out _ HB0.out).mono ?_;rintro e w5 ⟨rfl,hb5⟩;unfold wRes;have HB5:=hD hb5;clear hb5)
    all_goals
     go_ret;refine ⟨?_,by first|exact HB0.out|exact (HB0.out).trans (HB5.out.mono (HB0.out).size)⟩;show Ending.returned (.bool _)=_;congr 2;rw[HR.out];clear HB0 HPB HIB HP HS HNO HSO HR
     try simp only[bne_iff_ne,ne_eq,beq_iff_eq,beq_eq_false_iff_ne,bne_eq_false_iff_eq,Int.not_lt] at*
     unfold tailP
     first|(simp_all;done)|(simp_all;omega)|(simp_all;rw[Bool.eq_iff_iff,beq_iff_eq,decide_eq_true_eq];try first|exact Iff.rfl|omega)
  ·have hr:R=false:=HNO.out (by
    unfold instW;dsimp only;rw[if_neg (by simp),if_neg (by simp),if_neg (by simp),if_neg (by simp),if_pos (by simp),if_neg ha])
   rcases (show ¬a=0\/(a=0/\¬b=0) by omega) with ha1|⟨ha1,ha2⟩
   all_goals
    try have hb8:(b !=0)=true:=bne_iff_ne.2 (by omega)
    try have hb9:(b !=1)=true:=bne_iff_ne.2 (by omega)
    try have ha8:(a !=0)=true:=bne_iff_ne.2 (by omega)
    go_wp2_with fail
    all_goals
     go_ret;exact ⟨by first|rfl|(rw[hr];rfl),HB0.out⟩
 have hr:R=false:=HNO.out (by
  unfold instW;dsimp only;rw[if_neg k1,if_neg k2,if_neg k3,if_neg k6,if_neg (by omega)])
 go_wp2_with fail
 all_goals
  go_ret;exact ⟨by first|rfl|(rw[hr];rfl),HB0.out⟩
end Go.Proofs.YtjfhfaodbjecdaaGreat
