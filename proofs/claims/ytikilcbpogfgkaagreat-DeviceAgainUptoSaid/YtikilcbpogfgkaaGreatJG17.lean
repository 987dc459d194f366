/-
  Layer 19's document, walked: Bits; May answers something.
-/
import Derived.Test.YtikilcbpogfgkaaGreatJG16
import Derived.Deep.RegionLaw
set_option maxHeartbeats 12800000
set_option maxRecDepth 100000
namespace Go.Proofs.YtikilcbpogfgkaaGreat
open Go.RowKit
theorem bits19_any (s:PgS) (p:Prg) (k:Nat) (hd:List Int) (w:World) (hp:PgOk w s p) (hS:Sm p) (hk:p.heads[k]?=some hd):
 Calls Tryz.prog 46 #[pgV s, .int .i64 (k:Int)] w fun e w'=>e= .returned (.int .i64 (wrap64 (sumI hd)))/\Bl w w':=by
 have hki:(k:Int)<(s.hn:Int):=by have:=(gL_ hk).1;have:=hp.heads.ln.1;omega
 obtain ⟨b,o,p1,nr,c1,hps,hb,y0,hrow⟩:=IsRow.el hp.heads (j:=k) (gL_ hk).1;rw[getD_some hk] at hrow;have HNR:Hd (nr=hd.length):=hrow.ln.1;have hnl:nr<=6000:=by have:=hrow.ln.1;have:=hS.head _ (gM_ hk);omega
 have HROW:=hD hrow;have HY:Hd (∀ W,Bl w W->Cl W b (o+k) (.slice p1 nr c1)):=fun W h=>(h.cell (p:=⟨b,o+k,none⟩) hb).trans y0
 have HPS:=hD hps;clear hp hS hk hps hb y0 hrow;unfold pgV;go_enter Tryz.func46,Tryz.ntmps46;go_upto_region 1 with fail
 obtain ⟨W0,hW0⟩:=nm (w.alloc (.cells (pA s) 33));have HB0:Hd (Bl w W0):=by show Below _ _ _;rw[hW0];exact bL
 have HPB:Hd (PBox W0 w.heap.size s):=by show _=_;rw[hW0];exact heap_new _ _
 rw[<- hW0];clear hW0;have HROW0:=hD (HROW.o.below keepI HB0.o);have q0:=HPB.o.cells.1;rw[HPS.o] at q0;have y0:=HY.o W0 HB0.o;go_wp2_with fail;go_loopw [5,6] (fun u i wq=>∃z:Nat,z<=nr/\i= .int .i64 z/\u= .int .i64 (wrap64 (sumI (hd.take z)))/\wq=W0) (fun _ i _=>nr-(intOf i).toNat)
 case atStart=>exact ⟨0,zl,rfl,by simp[sumI,wrap64],rfl⟩
 case round=>
  obtain ⟨z,hz,rfl,rfl,rfl⟩:=hrel;by_cases hzl:z<nr
  ·obtain ⟨rb,ro,rfl,-,hrc⟩:=IRow.el HROW0.o (j:=z) (by have:=HNR.o;omega);have hzi:(z:Int)<(nr:Int):=om
   have hsn:=sumI_snoc (l:=hd) (k:=z) (by have:=HNR.o;omega);obtain ⟨v,hv⟩:=nm (hd.getD z 0);rw[<- hv] at hrc hsn;have HSN:=hD hsn;obtain ⟨S,hSq⟩:=nm (sumI (hd.take z));rw[<- hSq];have HSQ:=hD hSq;have hwa:=wrap_add S v;clear hsn hSq hv;go_wp2_with fail;go_roundw
   case rel=>exact ⟨z+1,om,by go_num,by rw[HSN.o, <-HSQ.o];first|rfl|simp[hwa],(by first|trivial|rfl)⟩
   case measure=>exact mz
  ·obtain rfl:z=nr:=om
   have hzi:¬(z:Int)<(z:Int):=om
   have hall:hd.take z=hd:=List.take_of_length_le (by have:=HNR.o;omega);rw[hall];clear hall;go_wp2_with fail;go_ret;exact ⟨rfl,HB0.o⟩
theorem may19_any (s:PgS) (p:Prg) (w:World) (hp:PgOk w s p) (hS:Sm p):Calls Tryz.prog 19 #[pgV s] w fun e w'=>AnsB (fun _=>True) e/\Bl w w':=by
 have HP:=hD hp;have HSM:=hD hS;have HN:Hd (s.hn=p.heads.length/\s.en=p.emit.length):=⟨hp.heads.ln.1,hp.emit.ln.1⟩;have HMW:Hd (∀ W,Bl w W->CR 45 #[.slice s.mp s.mn s.mc] W (.bool (p.metas.all okP))):=fun W h=>widths19_any _ _ _ _ W (hp.metas.below keepI h) (by have:=hp.metas.ln.1;have:=hS.metas;omega)
 generalize p.metas.all okP=rmw at HMW;clear hp hS;have HBT:Hd (∀ (k:Nat) (hd:List Int),p.heads[k]?=some hd->∀W,Bl w W->CR 46 #[pgV s, .int .i64 (k:Int)] W (.int .i64 (wrap64 (sumI hd)))):=fun k hd hk W h=>bits19_any s p k hd W (HP.o.below h) HSM.o hk
 unfold pgV at HBT⊢;go_enter Tryz.func19,Tryz.ntmps19;go_upto_region 1 with fail
 obtain ⟨W0,hW0⟩:=nm (w.alloc (.cells (pA s) 33));have HB0:Hd (Bl w W0):=by show Below _ _ _;rw[hW0];exact bL
 have HPB:Hd (PBox W0 w.heap.size s):=by show _=_;rw[hW0];exact heap_new _ _
 rw[<- hW0];clear hW0;obtain ⟨q0,q1,q2,q3,q4,q5,q6,q7,q8,q9,q10,q11⟩:=HPB.o.cells;rcases (show 8<(s.hn:Int)\/(¬ 8<(s.hn:Int)/\16<(s.mn:Int))\/(¬ 8<(s.hn:Int)/\¬16<(s.mn:Int)/\8<(s.en:Int))\/(¬ 8<(s.hn:Int)/\¬16<(s.mn:Int)/\¬8<(s.en:Int)) by omega) with g1|⟨g1,g2⟩|⟨g1,g2,g3⟩|⟨g1,g2,g3⟩
 ·go_wp2_with fail;go_ret;exact ⟨⟨_,rfl,trivial⟩,HB0.o⟩
 ·go_wp2_with fail;go_ret;exact ⟨⟨_,rfl,trivial⟩,HB0.o⟩
 ·go_wp2_with fail;go_ret;exact ⟨⟨_,rfl,trivial⟩,HB0.o⟩
 ·have hb8:s.hn<=8:=om
  have he8:s.en<=8:=om
  go_wp2_with fail;clear g1 g2 g3;go_loopw [3] (fun i wr=>∃k:Nat,k<=s.hn/\i= .int .i64 k/\Hd (Bl W0 wr)) (fun i _=>s.hn-(intOf i).toNat)
  case atStart=>exact ⟨0,zl,rfl,Below.refl _ _⟩
  case round=>
   obtain ⟨k,hk,rfl,HW⟩:=hrel;clear q0 q1 q2 q3 q4 q5 q6 q7 q8 q9 q10 q11;have q0:=(HPB.o.below HW.o).cells.1;by_cases hlt:k<s.hn
   ·obtain ⟨hd,hdq⟩:∃l,p.heads[k]?=some l:=⟨_,gE_ (by have:=HN.o.1;omega)⟩;have hbw:=HB0.o.trans (HW.o.mono HB0.o.size);obtain ⟨b,o,p1,nr,c1,hps,hbl,hcell,hrow⟩:=IsRow.el (HP.o.heads.below keepIs hbw) (j:=k) (by have:=HN.o.1;omega);rw[getD_some hdq] at hrow;have hki:(k:Int)<(s.hn:Int):=om
    obtain ⟨ra,hra⟩:=nm (hd.all okP);have HWD:Hd (∀ W,Bl wr W->CR 45 #[.slice p1 nr c1] W (.bool ra)):=fun W h=>by rw[hra];exact widths19_any hd _ _ _ W (hrow.below keepI h) (by have:=hrow.ln.1;have:=HSM.o.head _ (gM_ hdq);omega)
    obtain ⟨S,hS⟩:=nm (wrap64 (sumI hd));have HBI:Hd (∀ W,Bl wr W->CR 46 #[.agg #[.slice s.hp s.hn s.hc, .slice s.mp s.mn s.mc, .slice s.sp s.sn s.sc, .slice s.ap s.an s.ac, .slice s.tp s.tn s.tc, .slice s.cp s.cn s.cc, .slice s.ep s.en s.ec, .slice s.v1 s.n1 s.c1, .slice s.v2 s.n2 s.c2, .slice s.v3 s.n3 s.c3, .slice s.v4 s.n4 s.c4, .slice s.v5 s.n5 s.c5], .int .i64 (k:Int)] W (.int .i64 S)):=fun W h=>by rw[hS];exact HBT.o k hd hdq W (hbw.trans (h.mono hbw.size))
    have HCE:Hd (∀ W,Bl wr W->(Cl W w.heap.size 0 (.slice s.hp s.hn s.hc)/\Cl W w.heap.size 1 (.slice s.mp s.mn s.mc)/\Cl W w.heap.size 2 (.slice s.sp s.sn s.sc)/\Cl W w.heap.size 3 (.slice s.ap s.an s.ac)/\Cl W w.heap.size 4 (.slice s.tp s.tn s.tc)/\Cl W w.heap.size 5 (.slice s.cp s.cn s.cc)/\Cl W w.heap.size 6 (.slice s.ep s.en s.ec)/\Cl W w.heap.size 7 (.slice s.v1 s.n1 s.c1)/\Cl W w.heap.size 8 (.slice s.v2 s.n2 s.c2)/\Cl W w.heap.size 9 (.slice s.v3 s.n3 s.c3)/\Cl W w.heap.size 10 (.slice s.v4 s.n4 s.c4)/\Cl W w.heap.size 11 (.slice s.v5 s.n5 s.c5))/\Cl W b (o+k) (.slice p1 nr c1)):=fun W h=>⟨(HPB.o.below (HW.o.trans (h.mono HW.o.size))).cells,(h.cell (p:=⟨b,o+k,none⟩) hbl).trans hcell⟩
    have HPS:=hD hps;rw[hps] at HBI HCE;clear hra hS hdq hbw hbl hcell hrow hps;clear q0;obtain ⟨⟨q0,q1,q2,q3,q4,q5,q6,q7,q8,q9,q10,q11⟩,y0⟩:=HCE.o wr br;have hcase:((nr:Int)<1)\/(¬ (nr:Int)<1/\16<(nr:Int))\/(¬ (nr:Int)<1/\¬16<(nr:Int)/\ra=false)\/(¬ (nr:Int)<1/\¬16<(nr:Int)/\ra=true/\¬S.tmod 8=0)\/(¬ (nr:Int)<1/\¬16<(nr:Int)/\ra=true/\S.tmod 8=0/\256<S)\/(¬ (nr:Int)<1/\¬16<(nr:Int)/\ra=true/\S.tmod 8=0/\¬256<S):=by
     cases ra<;>simp<;>omega
    have HBW:=hD (HB0.o.trans (HW.o.mono HB0.o.size));rcases hcase with g1|⟨g1,g2⟩|⟨g1,g2,rfl⟩|⟨g1,g2,rfl,g4⟩|⟨g1,g2,rfl,g4,g5⟩|⟨g1,g2,rfl,g4,g5⟩
    ·go_wp2_with fail;go_ret;exact ⟨⟨_,rfl,trivial⟩,HBW.o⟩
    ·go_wp2_with fail;go_ret;exact ⟨⟨_,rfl,trivial⟩,HBW.o⟩
    ·go_wp2_with (first
     |(go_at_call 45;(with_reducible refine (HWD.o _ br).mono ?_);rintro e w1 ⟨rfl,hb1⟩;have HB1:=hD hb1;clear hb1;obtain ⟨⟨q0,q1,q2,q3,q4,q5,q6,q7,q8,q9,q10,q11⟩,y0⟩:=HCE.o w1 HB1.o)
     |(go_at_call 46;(with_reducible refine (HBI.o _ HB1.o).mono ?_);rintro e w2 ⟨rfl,hb2⟩;have HB2:=hD (HB1.o.trans (hb2.mono HB1.o.size));clear hb2;obtain ⟨⟨q0,q1,q2,q3,q4,q5,q6,q7,q8,q9,q10,q11⟩,y0⟩:=HCE.o w2 HB2.o)
     |(go_at_call 46;(with_reducible refine (HBI.o _ HB2.o).mono ?_);rintro e w3 ⟨rfl,hb3⟩;have HB3:=hD (HB2.o.trans (hb3.mono HB2.o.size));clear hb3))
     go_ret;exact ⟨⟨_,rfl,trivial⟩,HBW.o.trans (HB1.o.mono HBW.o.size)⟩
    ·go_wp2_with (first
     |(go_at_call 45;(with_reducible refine (HWD.o _ br).mono ?_);rintro e w1 ⟨rfl,hb1⟩;have HB1:=hD hb1;clear hb1;obtain ⟨⟨q0,q1,q2,q3,q4,q5,q6,q7,q8,q9,q10,q11⟩,y0⟩:=HCE.o w1 HB1.o)
     |(go_at_call 46;(with_reducible refine (HBI.o _ HB1.o).mono ?_);rintro e w2 ⟨rfl,hb2⟩;have HB2:=hD (HB1.o.trans (hb2.mono HB1.o.size));clear hb2;obtain ⟨⟨q0,q1,q2,q3,q4,q5,q6,q7,q8,q9,q10,q11⟩,y0⟩:=HCE.o w2 HB2.o)
     |(go_at_call 46;(with_reducible refine (HBI.o _ HB2.o).mono ?_);rintro e w3 ⟨rfl,hb3⟩;have HB3:=hD (HB2.o.trans (hb3.mono HB2.o.size));clear hb3))
     go_ret;exact ⟨⟨_,rfl,trivial⟩,HBW.o.trans (HB2.o.mono HBW.o.size)⟩
    ·go_wp2_with (first
     |(go_at_call 45;(with_reducible refine (HWD.o _ br).mono ?_);rintro e w1 ⟨rfl,hb1⟩;have HB1:=hD hb1;clear hb1;obtain ⟨⟨q0,q1,q2,q3,q4,q5,q6,q7,q8,q9,q10,q11⟩,y0⟩:=HCE.o w1 HB1.o)
     |(go_at_call 46;(with_reducible refine (HBI.o _ HB1.o).mono ?_);rintro e w2 ⟨rfl,hb2⟩;have HB2:=hD (HB1.o.trans (hb2.mono HB1.o.size));clear hb2;obtain ⟨⟨q0,q1,q2,q3,q4,q5,q6,q7,q8,q9,q10,q11⟩,y0⟩:=HCE.o w2 HB2.o)
     |(go_at_call 46;(with_reducible refine (HBI.o _ HB2.o).mono ?_);rintro e w3 ⟨rfl,hb3⟩;have HB3:=hD (HB2.o.trans (hb3.mono HB2.o.size));clear hb3))
     go_ret;exact ⟨⟨_,rfl,trivial⟩,HBW.o.trans (HB3.o.mono HBW.o.size)⟩
    ·go_wp2_with (first
     |(go_at_call 45;(with_reducible refine (HWD.o _ br).mono ?_);rintro e w1 ⟨rfl,hb1⟩;have HB1:=hD hb1;clear hb1;obtain ⟨⟨q0,q1,q2,q3,q4,q5,q6,q7,q8,q9,q10,q11⟩,y0⟩:=HCE.o w1 HB1.o)
     |(go_at_call 46;(with_reducible refine (HBI.o _ HB1.o).mono ?_);rintro e w2 ⟨rfl,hb2⟩;have HB2:=hD (HB1.o.trans (hb2.mono HB1.o.size));clear hb2;obtain ⟨⟨q0,q1,q2,q3,q4,q5,q6,q7,q8,q9,q10,q11⟩,y0⟩:=HCE.o w2 HB2.o)
     |(go_at_call 46;(with_reducible refine (HBI.o _ HB2.o).mono ?_);rintro e w3 ⟨rfl,hb3⟩;have HB3:=hD (HB2.o.trans (hb3.mono HB2.o.size));clear hb3))
     go_roundw
     case rel=>exact ⟨k+1,om,by go_num,HW.o.trans (HB3.o.mono HW.o.size)⟩
     case measure=>exact mz
   ·obtain rfl:k=s.hn:=om
    have hki:¬(s.hn:Int)<(s.hn:Int):=om
    obtain ⟨q0,q1,q2,q3,q4,q5,q6,q7,q8,q9,q10,q11⟩:=(HPB.o.below HW.o).cells;go_wp2_with fail;clear q0 q1 q2 q3 q4 q5 q6 q7 q8 q9 q10 q11;go_loopw [4,5] (fun i u wr=>∃j:Nat,j<=s.en/\i= .int .i64 j/\Hd (Bl W0 wr)) (fun i u _=>s.en-(intOf i).toNat)
    case atStart=>exact ⟨0,zl,rfl,HW.o⟩
    case round=>
     clear HW;obtain ⟨j,hj,rfl,HW⟩:=hrel;obtain ⟨q0,q1,q2,q3,q4,q5,q6,q7,q8,q9,q10,q11⟩:=(HPB.o.below HW.o).cells;have hbw:=HB0.o.trans (HW.o.mono HB0.o.size);by_cases hjl:j<s.en
     ·have hji:(j:Int)<(s.en:Int):=om
      obtain ⟨b,o,hps,hbl,y0⟩:=IRow.el (HP.o.emit.below keepI hbw) (j:=j) (by have:=HN.o.2;omega);obtain ⟨v,hv⟩:=nm (p.emit.getD j 0);rw[<- hv] at y0;have HAL:Hd (∀ i:Nat,i<s.en->∃v,∀W,Bl wr W->Cl W b (o+i) (.int .i64 v)):=fun i hi=>by
       obtain ⟨b',o',hps',hbl',y'⟩:=IRow.el (HP.o.emit.below keepI hbw) (j:=i) (by have:=HN.o.2;omega);rw[hps] at hps';cases hps';exact ⟨_,fun W h=>(h.cell (p:=⟨b,o+i,none⟩) hbl).trans y'⟩
      have HCE:Hd (∀ W,Bl wr W->Cl W w.heap.size 0 (.slice s.hp s.hn s.hc)/\Cl W w.heap.size 6 (.slice s.ep s.en s.ec)/\Cl W b (o+j) (.int .i64 v)):=fun W h=>⟨(HPB.o.below (HW.o.trans (h.mono HW.o.size))).cells.1,(HPB.o.below (HW.o.trans (h.mono HW.o.size))).cells.2.2.2.2.2.2.1,(h.cell (p:=⟨b,o+j,none⟩) hbl).trans y0⟩
      rw[hps] at HCE;clear hv hbw hbl y0 hps;by_cases hv0:v<0
      ·go_upto_region 11 with fail
       refine roB wr ?_;refine sq (fun aa ww ll hh=>by have:=hh.oL 1;exact ov gX) ?_;refine sq (fun aa ww ll hh=>by have:=hh.gt 0 0;exact ov (fC (HCE.o ww hh.inv))) ?_;refine sq (fun aa ww ll hh=>by exact ov (xmv (hh.oL 4))) ?_;refine sq (fun aa ww ll hh=>by have:=hh.gt 1 1;have:=hh.gt 2 0;exact ov gX) ?_;refine sq (fun aa ww ll hh=>by have:=hh.gt 3 0;exact ov (fC (HCE.o ww hh.inv))) ?_;refine sq (fun aa ww ll hh=>by have:=hh.gt 4 0;have ec:=evc aa;exact ov gX) ?_;refine stm 5 0 ?_;refine stk 0 ?_;refine stk 1 ?_;refine stk 2 ?_;refine stk 3 ?_;refine stk 4 ?_;refine stk 5 ?_;refine stk 6 ?_;refine stk 7 ?_;refine stk 8 ?_;refine sq (fun aa ww ll hh=>by have:=hh.gt 6 9;have:=hh.gt 15 0;have ec:=evc aa;exact ov gX) ?_;intro ll w2 hS hok;clear hok;simp only[ly];have HB2:=hD (HB0.o.trans ((HW.o.trans (hS.mono HW.o.size)).mono HB0.o.size));clear hS;go_wp2_with fail;go_ret;exact ⟨⟨_,rfl,trivial⟩,HB2.o⟩
      ·by_cases hv1:(s.hn:Int)<=v
       ·go_upto_region 11 with fail
        refine roB wr ?_;refine sq (fun aa ww ll hh=>by have:=hh.oL 1;exact ov gX) ?_;refine sq (fun aa ww ll hh=>by have:=hh.gt 0 0;exact ov (fC (HCE.o ww hh.inv))) ?_;refine sq (fun aa ww ll hh=>by exact ov (xmv (hh.oL 4))) ?_;refine sq (fun aa ww ll hh=>by have:=hh.gt 1 1;have:=hh.gt 2 0;exact ov gX) ?_;refine sq (fun aa ww ll hh=>by have:=hh.gt 3 0;exact ov (fC (HCE.o ww hh.inv))) ?_;refine sq (fun aa ww ll hh=>by have:=hh.gt 4 0;have ec:=evc aa;exact ov gX) ?_;refine stm 5 0 ?_;refine sq (fun aa ww ll hh=>by have:=hh.oL 1;exact hh.og 0 gX) ?_;refine sq (fun aa ww ll hh=>by have:=hh.gt 7 0;exact hh.og 1 (fC (HCE.o ww hh.inv))) ?_;refine sq (fun aa ww ll hh=>by exact hh.og 2 (xmv (hh.oL 4))) ?_;refine sq (fun aa ww ll hh=>by have:=hh.gt 8 1;have:=hh.gt 9 0;exact hh.og 3 gX) ?_;refine sq (fun aa ww ll hh=>by have:=hh.gt 10 0;exact hh.og 4 (fC (HCE.o ww hh.inv))) ?_;refine sq (fun aa ww ll hh=>by have:=hh.oL 1;exact hh.og 5 gX) ?_;refine sq (fun aa ww ll hh=>by have:=hh.gt 12 0;exact hh.og 6 (fC (HCE.o ww hh.inv))) ?_;refine sq (fun aa ww ll hh=>by have:=hh.gt 13 0;exact hh.og 7 (fC (HCE.o ww hh.inv))) ?_;refine sq (fun aa ww ll hh=>by have:=hh.gt 11 3;have:=hh.gt 14 0;exact hh.og 8 gX) ?_;refine sq (fun aa ww ll hh=>by have:=hh.gt 6 9;have:=hh.gt 15 0;have ec:=evc aa;exact ov gX) ?_;intro ll w2 hS hok;clear hok;simp only[ly];have HB2:=hD (HB0.o.trans ((HW.o.trans (hS.mono HW.o.size)).mono HB0.o.size));clear hS;go_wp2_with fail;go_ret;exact ⟨⟨_,rfl,trivial⟩,HB2.o⟩
       ·go_upto_region 11 with fail
        refine roB wr ?_;refine sq (fun aa ww ll hh=>by have:=hh.oL 1;exact ov gX) ?_;refine sq (fun aa ww ll hh=>by have:=hh.gt 0 0;exact ov (fC (HCE.o ww hh.inv))) ?_;refine sq (fun aa ww ll hh=>by exact ov (xmv (hh.oL 4))) ?_;refine sq (fun aa ww ll hh=>by have:=hh.gt 1 1;have:=hh.gt 2 0;exact ov gX) ?_;refine sq (fun aa ww ll hh=>by have:=hh.gt 3 0;exact ov (fC (HCE.o ww hh.inv))) ?_;refine sq (fun aa ww ll hh=>by have:=hh.gt 4 0;have ec:=evc aa;exact ov gX) ?_;refine stm 5 0 ?_;refine sq (fun aa ww ll hh=>by have:=hh.oL 1;exact hh.og 0 gX) ?_;refine sq (fun aa ww ll hh=>by have:=hh.gt 7 0;exact hh.og 1 (fC (HCE.o ww hh.inv))) ?_;refine sq (fun aa ww ll hh=>by exact hh.og 2 (xmv (hh.oL 4))) ?_;refine sq (fun aa ww ll hh=>by have:=hh.gt 8 1;have:=hh.gt 9 0;exact hh.og 3 gX) ?_;refine sq (fun aa ww ll hh=>by have:=hh.gt 10 0;exact hh.og 4 (fC (HCE.o ww hh.inv))) ?_;refine sq (fun aa ww ll hh=>by have:=hh.oL 1;exact hh.og 5 gX) ?_;refine sq (fun aa ww ll hh=>by have:=hh.gt 12 0;exact hh.og 6 (fC (HCE.o ww hh.inv))) ?_;refine sq (fun aa ww ll hh=>by have:=hh.gt 13 0;exact hh.og 7 (fC (HCE.o ww hh.inv))) ?_;refine sq (fun aa ww ll hh=>by have:=hh.gt 11 3;have:=hh.gt 14 0;exact hh.og 8 gX) ?_;refine sq (fun aa ww ll hh=>by have:=hh.gt 6 9;have:=hh.gt 15 0;have ec:=evc aa;exact ov gX) ?_;intro ll w2 hS hok;clear hok;simp only[ly];clear q0 q1 q2 q3 q4 q5 q6 q7 q8 q9 q10 q11;have HB2:=hD hS;clear hS;go_wp2_with fail;go_loopw [5] (fun u wq=>∃i:Nat,i<=j/\u= .int .i64 i/\Hd (Bl wr wq)) (fun u _=>j-(intOf u).toNat)
        case atStart=>exact ⟨0,zl,rfl,HB2.o⟩
        case round=>
         obtain ⟨i,hi,rfl,HQ⟩:=hrel;by_cases hil:i<j
         ·have hili:(i:Int)<(j:Int):=om
          have hile:(i:Int)<(s.en:Int):=om
          obtain ⟨x,hx⟩:=HAL.o i om;have HX:=hD hx;clear hx;obtain ⟨q0,q6,y0⟩:=HCE.o _ HQ.o;have y1:=HX.o _ HQ.o;go_upto_region 16 with fail
          go_quiet (fail);have HQ2:=hD (below_drewN HQ.o nq);go_wp2_with fail
          all_goals first
           |(go_ret;exact ⟨⟨_,rfl,trivial⟩,HB0.o.trans ((HW.o.trans (HQ2.o.mono HW.o.size)).mono HB0.o.size)⟩)
           |(
            go_roundw
            case rel=>exact ⟨i+1,om,by go_num,HQ2.o⟩
            case measure=>simp[intOf];omega)
         ·obtain rfl:i=j:=om
          have hili:¬(i:Int)<(i:Int):=om
          go_wp2_with fail;go_roundw
          case rel=>exact ⟨i+1,om,by go_num,HW.o.trans (HQ.o.mono HW.o.size)⟩
          case measure=>exact mz
     ·obtain rfl:j=s.en:=om
      have hji:¬(s.en:Int)<(s.en:Int):=om
      clear hbw;go_wp2_with (go_at_call 45;(with_reducible refine (HMW.o _ (HB0.o.trans (HW.o.mono HB0.o.size))).mono ?_);rintro e w1 ⟨rfl,hb1⟩;have HB1:=hD hb1;clear hb1);go_ret;exact ⟨⟨_,rfl,trivial⟩,HB0.o.trans ((HW.o.trans (HB1.o.mono HW.o.size)).mono HB0.o.size)⟩
end Go.Proofs.YtikilcbpogfgkaaGreat
