/-
  Layer 10's document, walked: mayInst.
-/
import Derived.Test.YtikilcbpogfgkaaGreatJI05
import Derived.Test.YtikilcbpogfgkaaGreatJI08
set_option maxHeartbeats 12800000
set_option maxRecDepth 100000
namespace Go.Proofs.YtikilcbpogfgkaaGreat
open Go.RowKit
variable {w:World} {g en ec i many:Nat} {k a b tq act:Int} {ep:Option Addr} {x:Ist}
def isV (k a b:Int) (ep:Option Addr) (en ec:Nat) (tq:Int):Value:= .agg #[.int .u8 k, .int .i64 a, .int .i64 b, .slice ep en ec, .int .i64 tq]
def IBox (w:World) (g:Nat) (k a b:Int) (ep:Option Addr) (en ec:Nat) (tq:Int):Prop:=w.heap[g]?=some (.cells #[.int .u8 k, .int .i64 a, .int .i64 b, .slice ep en ec, .int .i64 tq] 86 (0,0))
theorem IBox.cells (h:IBox w g k a b ep en ec tq):w.cell? ⟨g,0,none⟩=some (.int .u8 k)/\w.cell? ⟨g,1,none⟩=some (.int .i64 a)/\w.cell? ⟨g,2,none⟩=some (.int .i64 b)/\w.cell? ⟨g,3,none⟩=some (.slice ep en ec)/\w.cell? ⟨g,4,none⟩=some (.int .i64 tq):=by
 unfold IBox at h;exact gQ3
theorem IBox.below {w':World} (h:IBox w g k a b ep en ec tq) (hb:Bl w w'):IBox w' g k a b ep en ec tq:=(hb.block g (gA_ h).1).trans h
def tailP (k tq:Int) (i many en:Nat) (o:Option Int) (W:Int):Bool:=(if k=7\/k=8 then decide ((i:Int)<tq/\tq<=(many:Int)) else decide (tq=0))&&(if W=0 then decide (en=0) else decide (o=some W))
theorem mayInst_some {p:Prg} {W:Int} (h:instW p act x=some W):mayInstP p act x i many=tailP x.k x.to i many x.e.length (widthP p act x.e) W:=by
 unfold mayInstP tailP;rw[h]
theorem mayInst_none {p:Prg} (h:instW p act x=none):mayInstP p act x i many=false:=by
 unfold mayInstP;rw[h]
theorem mayInst_any (s:PgS) (p:Prg) (act:Int) (x:Ist) (ep:Option Addr) (en ec i many:Nat) (w:World) (hp:PgOk w s p) (hS:Sm p) (he:CRow w (.slice ep en ec) x.e) (hen:en<=6000):
 Calls Tryz.prog 81 #[pgV s, .int .i64 act,isV x.k x.a x.b ep en ec x.to, .int .i64 (i:Int), .int .i64 (many:Int)] w fun e w'=>e= .returned (.bool (mayInstP p act x i many))/\Bl w w':=by
 obtain ⟨k,a,b,c,tq⟩:=x;dsimp only at he⊢;obtain ⟨R,hR⟩:=nm (mayInstP p act ⟨k,a,b,c,tq⟩ i many);rw[<- hR];obtain ⟨o,ho⟩:=nm (widthP p act c);obtain ⟨hec,-,-,-⟩:=he.ln;have HSO:Hd (∀ W,instW p act ⟨k,a,b,c,tq⟩=some W->R=tailP k tq i many en o W):=fun W h=>by rw[hR,mayInst_some h,ho,hec]
 have HNO:Hd (instW p act ⟨k,a,b,c,tq⟩=none->R=false):=fun h=>by rw[hR,mayInst_none h]
 have HP:=hD hp;have HS:=hD hS;have HWI:Hd (∀ W,Bl w W->CR 82 #[pgV s, .int .i64 act, .slice ep en ec] W (wRes o)):=fun W h=>by rw[ho];exact width_any s p act c ep en ec W (hp.below h) hS (he.below keepNd h) hen
 obtain ⟨hd1,hd2,hd3,-⟩:=hp.heads.ln;obtain ⟨hm1,hm2,hm3,-⟩:=hp.metas.ln;obtain ⟨ht1,ht2,ht3,-⟩:=hp.tabs.ln;have hds:=hS.heads;have hms:=hS.metas;have hts:=hS.tabs;rw[<- hd1] at hds;rw[<- hm1] at hms;rw[<- ht1] at hts;have HL:=hD (And.intro hd1 (And.intro hm1 ht1));clear hR ho hec hp hS he hd1 hm1 ht1;unfold pgV at HWI⊢;unfold isV;go_enter Tryz.func81,Tryz.ntmps81;go_upto_region 2 with fail;obtain ⟨W0,hW0⟩:=nm ((w.alloc (.cells (pA s) 33)).alloc (.cells #[.int .u8 k, .int .i64 a, .int .i64 b, .slice ep en ec, .int .i64 tq] 86));have HB0:Hd (Bl w W0):=by show Below _ _ _;rw[hW0];exact bL
 have HPB:Hd (PBox W0 w.heap.size s):=by show _=_;rw[hW0,Below.heap_alloc _ _ _ sm];exact heap_new _ _
 have HIB:Hd (IBox W0 (w.heap.size+1) k a b ep en ec tq):=by
  exact gZ
 rw[<- hW0];clear hW0;obtain ⟨q0,q1,q2,q3,q4,q5,q6,q7,q8,q9,q10,q11⟩:=HPB.o.cells;obtain ⟨i0,i1,i2,i3,i4⟩:=HIB.o.cells;by_cases k1:k=1
 ·subst k1;by_cases ha:0<=a/\a<(s.hn:Int)
  ·obtain ⟨ha1,ha2⟩:=ha;obtain ⟨j,rfl⟩:∃j:Nat,a=(j:Int):=⟨a.toNat,om⟩;obtain ⟨hb,ho,p1,nr,c1,hps,hbl,hcell,hrow⟩:=IsRow.el HP.o.heads (j:=j) (by have:=HL.o.1;omega);have hlen:(p.heads.getD j []).length<=6000:=HS.o.head _ (gM_ (some_getD [] (by have:=HL.o.1;omega)));obtain ⟨hln,hln2,-,-⟩:=hrow.ln;have hW:instW p act ⟨1,(j:Int),b,c,tq⟩=if 0<=b/\b<(nr:Int) then some ((p.heads.getD j []).getD b.toNat 0) else none:=by
    have e1:(0:Int)<=(j:Int)/\(j:Int)<(p.heads.length:Int):=by have:=HL.o.1;omega
    unfold instW;dsimp only;rw[if_pos rfl];simp only[e1,true_and,Int.toNat_natCast, <-hln]
   have HW:=hD hW;have hnr:nr<=6000:=om;have HCE:Hd (∀ W,Bl W0 W->Cl W w.heap.size 0 (.slice (some ⟨hb,ho,none⟩) s.hn s.hc)/\Cl W (w.heap.size+1) 1 (.int .i64 (j:Int))/\Cl W (w.heap.size+1) 2 (.int .i64 b)/\Cl W hb (ho+j) (.slice p1 nr c1)):=fun W h=>by
    obtain ⟨a0,-⟩:=(HPB.o.below h).cells;obtain ⟨-,a2,a3,-,-⟩:=(HIB.o.below h).cells;rw[hps] at a0;exact ⟨a0,a2,a3,((HB0.o.trans (h.mono HB0.o.size)).cell (p:=⟨hb,ho+j,none⟩) hbl).trans hcell⟩
   have HROW:=hD hrow;have HLN:=hD hln;rw[hps] at q0 HWI⊢;clear hW hrow hln hlen hcell;go_upto_region 6 with fail;by_cases hb0:b<0
   ·skip;refine roB W0 ?_;refine sq (fun aa ww ll hh=>by exact ov (xmv (hh.oL 12))) ?_;refine sq (fun aa ww ll hh=>by have:=hh.gt 0 0;exact ov gX) ?_;refine stm 1 0 ?_;refine sq (fun aa ww ll hh=>by have:=hh.oL 7;exact hh.og 0 gX) ?_;refine sq (fun aa ww ll hh=>by have:=hh.gt 3 0;exact hh.og 1 (fC (HCE.o ww hh.inv))) ?_;refine sq (fun aa ww ll hh=>by have:=hh.gt 4 0;have ec:=evc aa;exact hh.og 2 gX) ?_;refine sq (fun aa ww ll hh=>by have:=hh.gt 2 3;have:=hh.gt 5 0;have ec:=evc aa;exact ov gX) ?_;refine stm 6 0 ?_;refine stk 0 ?_;refine stk 1 ?_;refine stk 2 ?_;refine stk 3 ?_;refine stk 4 ?_;refine stk 5 ?_;refine stk 6 ?_;refine stk 7 ?_;refine stk 8 ?_;refine stk 9 ?_;exact gY1
   by_cases hb1:(nr:Int)<=b
   ·skip;refine roB W0 ?_;refine sq (fun aa ww ll hh=>by exact ov (xmv (hh.oL 12))) ?_;refine sq (fun aa ww ll hh=>by have:=hh.gt 0 0;exact ov gX) ?_;refine stm 1 0 ?_;refine sq (fun aa ww ll hh=>by have:=hh.oL 7;exact hh.og 0 gX) ?_;refine sq (fun aa ww ll hh=>by have:=hh.gt 3 0;exact hh.og 1 (fC (HCE.o ww hh.inv))) ?_;refine sq (fun aa ww ll hh=>by have:=hh.gt 4 0;have ec:=evc aa;exact hh.og 2 gX) ?_;refine sq (fun aa ww ll hh=>by have:=hh.gt 2 3;have:=hh.gt 5 0;have ec:=evc aa;exact ov gX) ?_;refine stm 6 0 ?_;refine sq (fun aa ww ll hh=>by have:=hh.oL 7;exact hh.og 0 gX) ?_;refine sq (fun aa ww ll hh=>by have:=hh.gt 8 0;exact hh.og 1 (fC (HCE.o ww hh.inv))) ?_;refine sq (fun aa ww ll hh=>by have:=hh.oL 5;exact hh.og 2 gX) ?_;refine sq (fun aa ww ll hh=>by have:=hh.gt 10 0;exact hh.og 3 (fC (HCE.o ww hh.inv))) ?_;refine sq (fun aa ww ll hh=>by have:=hh.oL 7;exact hh.og 4 gX) ?_;refine sq (fun aa ww ll hh=>by have:=hh.gt 12 0;exact hh.og 5 (fC (HCE.o ww hh.inv))) ?_;refine sq (fun aa ww ll hh=>by have:=hh.gt 11 2;have:=hh.gt 13 0;exact hh.og 6 gX) ?_;refine sq (fun aa ww ll hh=>by have:=hh.gt 14 0;exact hh.og 7 (fC (HCE.o ww hh.inv))) ?_;refine sq (fun aa ww ll hh=>by have:=hh.gt 15 0;exact hh.og 8 (fC (HCE.o ww hh.inv))) ?_;refine sq (fun aa ww ll hh=>by have:=hh.gt 9 7;have:=hh.gt 16 0;exact hh.og 9 gX) ?_;exact gY1
   obtain ⟨z,rfl⟩:∃z:Nat,b=(z:Int):=⟨b.toNat,om⟩;obtain ⟨rb,ro,rfl,hrb,hrc⟩:=IRow.el HROW.o (j:=z) (by have:=HLN.o;omega);obtain ⟨V,hV⟩:=nm ((p.heads.getD j []).getD z 0);rw[<- hV] at hrc;have HR:=hD (HSO.o V (HW.o.trans ((if_pos om).trans (by rw[hV];rfl))));have hzn:(z:Int)<(nr:Int):=om;have HCF:Hd (∀ W,Bl W0 W->Cl W rb (ro+z) (.int .i64 V)):=fun W h=>((HB0.o.trans (h.mono HB0.o.size)).cell (p:=⟨rb,ro+z,none⟩) hrb).trans hrc
   clear hV hrc;refine roB W0 ?_;refine sq (fun aa ww ll hh=>by exact ov (xmv (hh.oL 12))) ?_;refine sq (fun aa ww ll hh=>by have:=hh.gt 0 0;exact ov gX) ?_;refine stm 1 0 ?_;refine sq (fun aa ww ll hh=>by have:=hh.oL 7;exact hh.og 0 gX) ?_;refine sq (fun aa ww ll hh=>by have:=hh.gt 3 0;exact hh.og 1 (fC (HCE.o ww hh.inv))) ?_;refine sq (fun aa ww ll hh=>by have:=hh.gt 4 0;have ec:=evc aa;exact hh.og 2 gX) ?_;refine sq (fun aa ww ll hh=>by have:=hh.gt 2 3;have:=hh.gt 5 0;have ec:=evc aa;exact ov gX) ?_;refine stm 6 0 ?_;refine sq (fun aa ww ll hh=>by have:=hh.oL 7;exact hh.og 0 gX) ?_;refine sq (fun aa ww ll hh=>by have:=hh.gt 8 0;exact hh.og 1 (fC (HCE.o ww hh.inv))) ?_;refine sq (fun aa ww ll hh=>by have:=hh.oL 5;exact hh.og 2 gX) ?_;refine sq (fun aa ww ll hh=>by have:=hh.gt 10 0;exact hh.og 3 (fC (HCE.o ww hh.inv))) ?_;refine sq (fun aa ww ll hh=>by have:=hh.oL 7;exact hh.og 4 gX) ?_;refine sq (fun aa ww ll hh=>by have:=hh.gt 12 0;exact hh.og 5 (fC (HCE.o ww hh.inv))) ?_;refine sq (fun aa ww ll hh=>by have:=hh.gt 11 2;have:=hh.gt 13 0;exact hh.og 6 gX) ?_;refine sq (fun aa ww ll hh=>by have:=hh.gt 14 0;exact hh.og 7 (fC (HCE.o ww hh.inv))) ?_;refine sq (fun aa ww ll hh=>by have:=hh.gt 15 0;exact hh.og 8 (fC (HCE.o ww hh.inv))) ?_;refine sq (fun aa ww ll hh=>by have:=hh.gt 9 7;have:=hh.gt 16 0;exact hh.og 9 gX) ?_;refine sq (fun aa ww ll hh=>by have:=hh.gt 7 10;have:=hh.gt 17 0;have ec:=evc aa;exact ov gX) ?_;intro ll w3 hS hok;clear hok;simp only[ly];go_upto_region 8 with fail;refine roB w3 ?_;refine sq (fun aa ww ll hh=>by have:=hh.oL 5;exact ov gX) ?_;refine sq (fun aa ww ll hh=>by have:=hh.gt 0 0;obtain ⟨c0,c1,c2,c3⟩:=HCE.o ww (hS.trans (hh.inv.mono hS.size));have c4:=HCF.o ww (hS.trans (hh.inv.mono hS.size));exact ov gX) ?_;refine sq (fun aa ww ll hh=>by have:=hh.oL 7;exact ov gX) ?_;refine sq (fun aa ww ll hh=>by have:=hh.gt 2 0;obtain ⟨c0,c1,c2,c3⟩:=HCE.o ww (hS.trans (hh.inv.mono hS.size));have c4:=HCF.o ww (hS.trans (hh.inv.mono hS.size));exact ov gX) ?_;refine sq (fun aa ww ll hh=>by have:=hh.gt 1 2;have:=hh.gt 3 0;exact ov gX) ?_;refine sq (fun aa ww ll hh=>by have:=hh.gt 4 0;obtain ⟨c0,c1,c2,c3⟩:=HCE.o ww (hS.trans (hh.inv.mono hS.size));have c4:=HCF.o ww (hS.trans (hh.inv.mono hS.size));exact ov gX) ?_;refine sq (fun aa ww ll hh=>by have:=hh.oL 7;exact ov gX) ?_;refine sq (fun aa ww ll hh=>by have:=hh.gt 6 0;obtain ⟨c0,c1,c2,c3⟩:=HCE.o ww (hS.trans (hh.inv.mono hS.size));have c4:=HCF.o ww (hS.trans (hh.inv.mono hS.size));exact ov gX) ?_;refine sq (fun aa ww ll hh=>by have:=hh.gt 5 2;have:=hh.gt 7 0;exact ov gX) ?_;refine sq (fun aa ww ll hh=>by have:=hh.gt 8 0;obtain ⟨c0,c1,c2,c3⟩:=HCE.o ww (hS.trans (hh.inv.mono hS.size));have c4:=HCF.o ww (hS.trans (hh.inv.mono hS.size));exact ov gX) ?_;refine stm 9 0 ?_;intro ll w4 hS2 hok;clear hok;simp only[ly];obtain ⟨q0,q1,q2,q3,q4,q5,q6,q7,q8,q9,q10,q11⟩:=(HPB.o.below (hS.trans (hS2.mono hS.size))).cells;obtain ⟨i0,i1,i2,i3,i4⟩:=(HIB.o.below (hS.trans (hS2.mono hS.size))).cells;have HB4:=hD (HB0.o.trans ((hS.trans (hS2.mono hS.size)).mono HB0.o.size));clear hS hS2;cases o;all_goals
    go_wp2_with (go_at_call 82;refine (HWI.o _ HB4.o).mono ?_;rintro e w5 ⟨rfl,hb5⟩;unfold wRes;have HB5:=hD hb5;clear hb5)
    all_goals
     go_ret;refine ⟨?_,by first|exact HB4.o|exact (HB4.o).trans (HB5.o.mono (HB4.o).size)⟩;show Ending.returned (.bool _)=_;congr 2;rw[HR.o];clear HB0 HPB HIB HP HS HNO HSO HR
     try simp only[bne_iff_ne,ne_eq,beq_iff_eq,beq_eq_false_iff_ne,bne_eq_false_iff_eq] at*
     unfold tailP
     first|(simp_all;done)|(simp_all;omega)|(simp_all;rw[Bool.eq_iff_iff,beq_iff_eq,decide_eq_true_eq];try first|exact Iff.rfl|omega)
  have hr:R=false:=HNO.o (by
   unfold instW;dsimp only;rw[if_pos rfl,if_neg (by have:=HL.o.1;omega)])
  have HCE:Hd (∀ W,Bl W0 W->Cl W w.heap.size 0 (.slice s.hp s.hn s.hc)/\Cl W (w.heap.size+1) 1 (.int .i64 a)/\Cl W (w.heap.size+1) 2 (.int .i64 b)/\Cl W w.heap.size 0 (.slice s.hp s.hn s.hc)):=fun W h=>by
   obtain ⟨a0,-⟩:=(HPB.o.below h).cells;obtain ⟨-,a2,a3,-,-⟩:=(HIB.o.below h).cells;exact ⟨a0,a2,a3,a0⟩
  rcases (show (a<0/\¬0<=a)\/(0<=a/\¬a<(s.hn:Int)) by omega) with ⟨ha1,ha2⟩|⟨ha1,ha2⟩
  all_goals
   go_upto_region 6 with fail
   refine roB W0 ?_;refine sq (fun aa ww ll hh=>by exact ov (xmv (hh.oL 12))) ?_;refine sq (fun aa ww ll hh=>by have:=hh.gt 0 0;exact ov gX) ?_;refine stm 1 0 ?_;refine stk 0 ?_;refine stk 1 ?_;refine stk 2 ?_;refine sq (fun aa ww ll hh=>by have:=hh.gt 2 3;have:=hh.gt 5 0;have ec:=evc aa;exact ov gX) ?_;refine stm 6 0 ?_;refine stk 0 ?_;refine stk 1 ?_;refine stk 2 ?_;refine stk 3 ?_;refine stk 4 ?_;refine stk 5 ?_;refine stk 6 ?_;refine stk 7 ?_;refine stk 8 ?_;refine stk 9 ?_;refine sq (fun aa ww ll hh=>by have:=hh.gt 7 10;have:=hh.gt 17 0;have ec:=evc aa;exact ov gX) ?_;intro ll w3 hS hok;clear hok;simp only[ly];go_wp2_with fail;go_ret;exact ⟨by first|rfl|(rw[hr];rfl),HB0.o.trans (hS.mono HB0.o.size)⟩
 by_cases k2:k=2
 ·subst k2;by_cases ha:(0<=a/\a<(s.mn:Int))/\b=0
  ·obtain ⟨⟨ha1,ha2⟩,rfl⟩:=ha;obtain ⟨j,rfl⟩:∃j:Nat,a=(j:Int):=⟨a.toNat,om⟩;obtain ⟨rb,ro,hps,hrb,hrc⟩:=IRow.el HP.o.metas (j:=j) (by have:=HL.o.2.1;omega);obtain ⟨V,hV⟩:=nm (p.metas.getD j 0);rw[<- hV] at hrc;have HR:=hD (HSO.o V (by
    unfold instW;dsimp only;rw[if_neg sm,if_pos rfl,if_pos (by have:=HL.o.2.1;omega),hV];rfl))
   have hrc0:=(HB0.o.cell (p:=⟨rb,ro+j,none⟩) hrb).trans hrc;rw[hps] at q1 HWI⊢;clear hV hrc;cases o;all_goals
    go_wp2_with (go_at_call 82;refine (HWI.o _ HB0.o).mono ?_;rintro e w5 ⟨rfl,hb5⟩;unfold wRes;have HB5:=hD hb5;clear hb5)
    all_goals
     go_ret;refine ⟨?_,by first|exact HB0.o|exact (HB0.o).trans (HB5.o.mono (HB0.o).size)⟩;show Ending.returned (.bool _)=_;congr 2;rw[HR.o];clear HB0 HPB HIB HP HS HNO HSO HR
     try simp only[bne_iff_ne,ne_eq,beq_iff_eq,beq_eq_false_iff_ne,bne_eq_false_iff_eq] at*
     unfold tailP
     first|(simp_all;done)|(simp_all;omega)|(simp_all;rw[Bool.eq_iff_iff,beq_iff_eq,decide_eq_true_eq];try first|exact Iff.rfl|omega)
  have hr:R=false:=HNO.o (by
   unfold instW;dsimp only;rw[if_neg sm,if_pos rfl,if_neg (by have:=HL.o.2.1;omega)])
  rcases (show a<0\/(0<=a/\(s.mn:Int)<=a)\/(0<=a/\a<(s.mn:Int)/\¬b=0) by omega) with ha1|⟨ha1,ha2⟩|⟨ha1,ha2,ha3⟩
  all_goals
   try have hb8:(b !=0)=true:=bne_iff_ne.2 om
   try have hb9:(b !=1)=true:=bne_iff_ne.2 om
   try have ha8:(a !=0)=true:=bne_iff_ne.2 om
   go_wp2_with fail
   all_goals
    go_ret;exact ⟨by first|rfl|(rw[hr];rfl),HB0.o⟩
 by_cases k3:k=3
 ·subst k3;by_cases ha:act<0/\(0<=a/\a<(s.tn:Int))/\b=0
  ·obtain ⟨hac,⟨ha1,ha2⟩,rfl⟩:=ha;have HR:=hD (HSO.o 0 (by
    unfold instW;dsimp only;rw[if_neg sm,if_neg sm,if_pos rfl,if_pos (by have:=HL.o.2.2;omega)]))
   go_wp2_with (go_at_call 82;refine (HWI.o _ HB0.o).mono ?_;rintro e w5 ⟨rfl,hb5⟩;unfold wRes;have HB5:=hD hb5;clear hb5);all_goals
    go_ret;refine ⟨?_,by first|exact HB0.o|exact (HB0.o).trans (HB5.o.mono (HB0.o).size)⟩;show Ending.returned (.bool _)=_;congr 2;rw[HR.o];clear HB0 HPB HIB HP HS HNO HSO HR
    try simp only[bne_iff_ne,ne_eq,bne_eq_false_iff_eq] at*
    unfold tailP
    first|(simp_all;done)|(simp_all;omega)|(simp_all;rw[Bool.eq_iff_iff,beq_iff_eq,decide_eq_true_eq];try first|exact Iff.rfl|omega)
  have hr:R=false:=HNO.o (by
   unfold instW;dsimp only;rw[if_neg sm,if_neg sm,if_pos rfl,if_neg (by have:=HL.o.2.2;omega)])
  rcases (show 0<=act\/(act<0/\a<0)\/(act<0/\0<=a/\(s.tn:Int)<=a)\/(act<0/\0<=a/\a<(s.tn:Int)/\¬b=0) by omega) with ha1|⟨ha1,ha2⟩|⟨ha1,ha2,ha3⟩|⟨ha1,ha2,ha3,ha4⟩
  all_goals
   try have hb8:(b !=0)=true:=bne_iff_ne.2 om
   try have hb9:(b !=1)=true:=bne_iff_ne.2 om
   try have ha8:(a !=0)=true:=bne_iff_ne.2 om
   go_wp2_with fail
   all_goals
    go_ret;exact ⟨by first|rfl|(rw[hr];rfl),HB0.o⟩
 by_cases k6:k=6
 ·subst k6;by_cases ha:(0<=a/\a<(s.hn:Int))/\(b=0\/b=1)
  ·obtain ⟨⟨ha1,ha2⟩,hb01⟩:=ha;have HR:=hD (HSO.o 0 (by
    unfold instW;dsimp only;rw[if_neg sm,if_neg sm,if_neg sm,if_pos rfl,if_pos (by have:=HL.o.1;omega)]))
   rcases hb01 with rfl|rfl
   all_goals
    go_wp2_with (go_at_call 82;refine (HWI.o _ HB0.o).mono ?_;rintro e w5 ⟨rfl,hb5⟩;unfold wRes;have HB5:=hD hb5;clear hb5)
    all_goals
     go_ret;refine ⟨?_,by first|exact HB0.o|exact (HB0.o).trans (HB5.o.mono (HB0.o).size)⟩;show Ending.returned (.bool _)=_;congr 2;rw[HR.o];clear HB0 HPB HIB HP HS HNO HSO HR
     try simp only[bne_iff_ne,ne_eq,bne_eq_false_iff_eq] at*
     unfold tailP
     first|(simp_all;done)|(simp_all;omega)|(simp_all;rw[Bool.eq_iff_iff,beq_iff_eq,decide_eq_true_eq];try first|exact Iff.rfl|omega)
  have hr:R=false:=HNO.o (by
   unfold instW;dsimp only;rw[if_neg sm,if_neg sm,if_neg sm,if_pos rfl,if_neg (by have:=HL.o.1;omega)])
  rcases (show (a<0/\¬0<=a)\/(0<=a/\(s.hn:Int)<=a/\¬a<(s.hn:Int))\/(0<=a/\a<(s.hn:Int)/\¬b=0/\¬b=1) by omega) with ⟨ha1,ha2⟩|⟨ha1,ha2,ha3⟩|⟨ha1,ha2,ha3,ha4⟩
  all_goals
   try have hb8:(b !=0)=true:=bne_iff_ne.2 om
   try have hb9:(b !=1)=true:=bne_iff_ne.2 om
   try have ha8:(a !=0)=true:=bne_iff_ne.2 om
   go_wp2_with fail
   all_goals
    go_ret;exact ⟨by first|rfl|(rw[hr];rfl),HB0.o⟩
 by_cases k7:k=7
 ·subst k7;by_cases ha:a=0/\b=0
  ·obtain ⟨rfl,rfl⟩:=ha;have HR:=hD (HSO.o 1 (by simp[instW]));cases o;all_goals
    go_wp2_with (go_at_call 82;refine (HWI.o _ HB0.o).mono ?_;rintro e w5 ⟨rfl,hb5⟩;unfold wRes;have HB5:=hD hb5;clear hb5)
    all_goals
     go_ret;refine ⟨?_,by first|exact HB0.o|exact (HB0.o).trans (HB5.o.mono (HB0.o).size)⟩;show Ending.returned (.bool _)=_;congr 2;rw[HR.o];clear HB0 HPB HIB HP HS HNO HSO HR
     try simp only[bne_iff_ne,ne_eq,beq_iff_eq,beq_eq_false_iff_ne,bne_eq_false_iff_eq,Int.not_lt] at*
     unfold tailP
     first|(simp_all;done)|(simp_all;omega)|(simp_all;rw[Bool.eq_iff_iff,beq_iff_eq,decide_eq_true_eq];try first|exact Iff.rfl|omega)
  exact gJ
 by_cases k5:k=5
 ·subst k5;by_cases ha:a=0/\b=0
  ·obtain ⟨rfl,rfl⟩:=ha;have HR:=hD (HSO.o 9 (by simp[instW]));cases o;all_goals
    go_wp2_with (go_at_call 82;refine (HWI.o _ HB0.o).mono ?_;rintro e w5 ⟨rfl,hb5⟩;unfold wRes;have HB5:=hD hb5;clear hb5)
    all_goals
     go_ret;refine ⟨?_,by first|exact HB0.o|exact (HB0.o).trans (HB5.o.mono (HB0.o).size)⟩;show Ending.returned (.bool _)=_;congr 2;rw[HR.o];clear HB0 HPB HIB HP HS HNO HSO HR
     try simp only[bne_iff_ne,ne_eq,bne_eq_false_iff_eq] at*
     unfold tailP
     first|(simp_all;done)|(simp_all;omega)|(simp_all;rw[Bool.eq_iff_iff,beq_iff_eq,decide_eq_true_eq];try first|exact Iff.rfl|omega)
  exact gJ
 by_cases k4:k=4
 ·subst k4;exact gT
 by_cases k8:k=8
 ·subst k8;exact gT
 have hr:R=false:=HNO.o (by
  unfold instW;dsimp only;rw[if_neg k1,if_neg k2,if_neg k3,if_neg k6,if_neg om])
 go_wp2_with fail;all_goals
  go_ret;exact ⟨by first|rfl|(rw[hr];rfl),HB0.o⟩
end Go.Proofs.YtikilcbpogfgkaaGreat
