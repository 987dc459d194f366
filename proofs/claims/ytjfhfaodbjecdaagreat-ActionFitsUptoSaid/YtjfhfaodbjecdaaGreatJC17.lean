/-
  Layer 19's document, walked: Bits; May answers something.
-/
import Derived.Test.YtjfhfaodbjecdaaGreatJC12
import Derived.Test.YtjfhfaodbjecdaaGreatJC13
import Derived.Test.YtjfhfaodbjecdaaGreatJC16
import Derived.BigQuiet
import Derived.Deep.RegionLaw
set_option maxHeartbeats 12800000
set_option maxRecDepth 100000
namespace Go.Proofs.YtjfhfaodbjecdaaGreat
open Go.RowKit
theorem bits19_any (s:PgS) (p:Prg) (k:Nat) (hd:List Int) (w:World) (hp:PgOk w s p) (hS:Sm p) (hk:p.heads[k]?=some hd):
 Calls Tryz.prog 32 #[pgV s, .int .i64 (k:Int)] w fun e w'=>e= .returned (.int .i64 (wrap64 (sumI hd)))/\Below w.heap.size w w':=by
 have hki:(k:Int)<(s.hn:Int):=by have:=(List.getElem?_eq_some_iff.1 hk).1;have:=hp.heads.ln.1;omega
 obtain ⟨b,o,p1,nr,c1,hps,hb,y0,hrow⟩:=IsRow.el hp.heads (j:=k) (List.getElem?_eq_some_iff.1 hk).1;rw[getD_some hk] at hrow;have HNR:Hid (nr=hd.length):=hrow.ln.1;have hnl:nr<=6000:=by have:=hrow.ln.1;have:=hS.head _ (List.mem_of_getElem? hk);omega
 have HROW:=hD hrow;have HY:Hid (∀ W,Below w.heap.size w W->W.cell? ⟨b,o+k,none⟩=some (.slice p1 nr c1)):=fun W h=>(h.cell (p:=⟨b,o+k,none⟩) hb).trans y0
 have HPS:=hD hps;clear hp hS hk hps hb y0 hrow;unfold pgV;go_enter Tryz.func32,Tryz.ntmps32;go_upto_region 1 with fail
 obtain ⟨W0,hW0⟩:∃W0,W0=w.alloc (.cells #[.slice s.hp s.hn s.hc, .slice s.mp s.mn s.mc, .slice s.sp s.sn s.sc, .slice s.ap s.an s.ac, .slice s.tp s.tn s.tc, .slice s.cp s.cn s.cc, .slice s.ep s.en s.ec, .slice s.v1 s.n1 s.c1, .slice s.v2 s.n2 s.c2, .slice s.v3 s.n3 s.c3, .slice s.v4 s.n4 s.c4, .slice s.v5 s.n5 s.c5] 33):=⟨_,rfl⟩;have HB0:Hid (Below w.heap.size w W0):=by show Below _ _ _;rw[hW0];exact (by repeat (first|exact Below.refl _ _|assumption|refine Below.drew ?_|refine blA ?_|refine blS ?_|refine blT ?_ (by assumption)))
 have HPB:Hid (PBox W0 w.heap.size s):=by show _=_;rw[hW0];exact heap_new _ _
 rw[<- hW0];clear hW0;have HROW0:=hD (HROW.out.below keepI HB0.out);have q0:=HPB.out.cells.1;rw[HPS.out] at q0;have y0:=HY.out W0 HB0.out;go_wp2_with fail;go_loopw [5,6] (fun u i wq=>∃z:Nat,z<=nr/\i= .int .i64 z/\u= .int .i64 (wrap64 (sumI (hd.take z)))/\wq=W0) (fun _ i _=>nr-(intOf i).toNat)
 case atStart=>exact ⟨0,Nat.zero_le _,rfl,by simp[sumI,wrap64],rfl⟩
 case round=>
  obtain ⟨z,hz,rfl,rfl,rfl⟩:=hrel;by_cases hzl:z<nr
  ·obtain ⟨rb,ro,rfl,-,hrc⟩:=IRow.el HROW0.out (j:=z) (by have:=HNR.out;omega);have hzi:(z:Int)<(nr:Int):=by omega
   have hsn:=sumI_snoc (l:=hd) (k:=z) (by have:=HNR.out;omega);obtain ⟨v,hv⟩:∃v,v=hd.getD z 0:=⟨_,rfl⟩;rw[<- hv] at hrc hsn;have HSN:=hD hsn;obtain ⟨S,hSq⟩:∃S,S=sumI (hd.take z):=⟨_,rfl⟩;rw[<- hSq];have HSQ:=hD hSq;have hwa:=wrap_add S v;clear hsn hSq hv;go_wp2_with fail;go_roundw
   case rel=>exact ⟨z+1,by omega,by go_num,by rw[HSN.out, <-HSQ.out];first|rfl|simp[hwa],(by first|trivial|rfl)⟩
   case measure=>simp[intOf];omega
  ·obtain rfl:z=nr:=by omega
   have hzi:¬(z:Int)<(z:Int):=by omega
   have hall:hd.take z=hd:=List.take_of_length_le (by have:=HNR.out;omega);rw[hall];clear hall;go_wp2_with fail;go_ret;exact ⟨rfl,HB0.out⟩
theorem may19_any (s:PgS) (p:Prg) (w:World) (hp:PgOk w s p) (hS:Sm p):Calls Tryz.prog 15 #[pgV s] w fun e w'=>AnsB (fun _=>True) e/\Below w.heap.size w w':=by
 have HP:=hD hp;have HSM:=hD hS;have HN:Hid (s.hn=p.heads.length/\s.en=p.emit.length):=⟨hp.heads.ln.1,hp.emit.ln.1⟩;have HMW:Hid (∀ W,Below w.heap.size w W->Calls Tryz.prog 31 #[.slice s.mp s.mn s.mc] W fun e w'=>e= .returned (.bool (p.metas.all okP))/\Below W.heap.size W w'):=fun W h=>widths19_any _ _ _ _ W (hp.metas.below keepI h) (by have:=hp.metas.ln.1;have:=hS.metas;omega)
 generalize p.metas.all okP=rmw at HMW;clear hp hS;have HBT:Hid (∀ (k:Nat) (hd:List Int),p.heads[k]?=some hd->∀W,Below w.heap.size w W->Calls Tryz.prog 32 #[pgV s, .int .i64 (k:Int)] W fun e w'=>e= .returned (.int .i64 (wrap64 (sumI hd)))/\Below W.heap.size W w'):=fun k hd hk W h=>bits19_any s p k hd W (HP.out.below h) HSM.out hk
 unfold pgV at HBT⊢;go_enter Tryz.func15,Tryz.ntmps15;go_upto_region 1 with fail
 obtain ⟨W0,hW0⟩:∃W0,W0=w.alloc (.cells #[.slice s.hp s.hn s.hc, .slice s.mp s.mn s.mc, .slice s.sp s.sn s.sc, .slice s.ap s.an s.ac, .slice s.tp s.tn s.tc, .slice s.cp s.cn s.cc, .slice s.ep s.en s.ec, .slice s.v1 s.n1 s.c1, .slice s.v2 s.n2 s.c2, .slice s.v3 s.n3 s.c3, .slice s.v4 s.n4 s.c4, .slice s.v5 s.n5 s.c5] 33):=⟨_,rfl⟩;have HB0:Hid (Below w.heap.size w W0):=by show Below _ _ _;rw[hW0];exact (by repeat (first|exact Below.refl _ _|assumption|refine Below.drew ?_|refine blA ?_|refine blS ?_|refine blT ?_ (by assumption)))
 have HPB:Hid (PBox W0 w.heap.size s):=by show _=_;rw[hW0];exact heap_new _ _
 rw[<- hW0];clear hW0;obtain ⟨q0,q1,q2,q3,q4,q5,q6,q7,q8,q9,q10,q11⟩:=HPB.out.cells;rcases (show 8<(s.hn:Int)\/(¬ 8<(s.hn:Int)/\16<(s.mn:Int))\/(¬ 8<(s.hn:Int)/\¬16<(s.mn:Int)/\8<(s.en:Int))\/(¬ 8<(s.hn:Int)/\¬16<(s.mn:Int)/\¬8<(s.en:Int)) by omega) with g1|⟨g1,g2⟩|⟨g1,g2,g3⟩|⟨g1,g2,g3⟩
 ·go_wp2_with fail;go_ret;exact ⟨⟨_,rfl,trivial⟩,HB0.out⟩
 ·go_wp2_with fail;go_ret;exact ⟨⟨_,rfl,trivial⟩,HB0.out⟩
 ·go_wp2_with fail;go_ret;exact ⟨⟨_,rfl,trivial⟩,HB0.out⟩
 ·have hb8:s.hn<=8:=by omega
  have he8:s.en<=8:=by omega
  go_wp2_with fail;clear g1 g2 g3;go_loopw [3] (fun i wr=>∃k:Nat,k<=s.hn/\i= .int .i64 k/\Hid (Below W0.heap.size W0 wr)) (fun i _=>s.hn-(intOf i).toNat)
  case atStart=>exact ⟨0,Nat.zero_le _,rfl,Below.refl _ _⟩
  case round=>
   obtain ⟨k,hk,rfl,HW⟩:=hrel;clear q0 q1 q2 q3 q4 q5 q6 q7 q8 q9 q10 q11;have q0:=(HPB.out.below HW.out).cells.1;by_cases hlt:k<s.hn
   ·obtain ⟨hd,hdq⟩:∃l,p.heads[k]?=some l:=⟨_,List.getElem?_eq_getElem (by have:=HN.out.1;omega)⟩;have hbw:=HB0.out.trans (HW.out.mono HB0.out.size);obtain ⟨b,o,p1,nr,c1,hps,hbl,hcell,hrow⟩:=IsRow.el (HP.out.heads.below keepIs hbw) (j:=k) (by have:=HN.out.1;omega);rw[getD_some hdq] at hrow;have hki:(k:Int)<(s.hn:Int):=by omega
    obtain ⟨ra,hra⟩:∃ra,ra=hd.all okP:=⟨_,rfl⟩;have HWD:Hid (∀ W,Below wr.heap.size wr W->Calls Tryz.prog 31 #[.slice p1 nr c1] W fun e w'=>e= .returned (.bool ra)/\Below W.heap.size W w'):=fun W h=>by rw[hra];exact widths19_any hd _ _ _ W (hrow.below keepI h) (by have:=hrow.ln.1;have:=HSM.out.head _ (List.mem_of_getElem? hdq);omega)
    obtain ⟨S,hS⟩:∃S,S=wrap64 (sumI hd):=⟨_,rfl⟩;have HBI:Hid (∀ W,Below wr.heap.size wr W->Calls Tryz.prog 32 #[.agg #[.slice s.hp s.hn s.hc, .slice s.mp s.mn s.mc, .slice s.sp s.sn s.sc, .slice s.ap s.an s.ac, .slice s.tp s.tn s.tc, .slice s.cp s.cn s.cc, .slice s.ep s.en s.ec, .slice s.v1 s.n1 s.c1, .slice s.v2 s.n2 s.c2, .slice s.v3 s.n3 s.c3, .slice s.v4 s.n4 s.c4, .slice s.v5 s.n5 s.c5], .int .i64 (k:Int)] W fun e w'=>e= .returned (.int .i64 S)/\Below W.heap.size W w'):=fun W h=>by rw[hS];exact HBT.out k hd hdq W (hbw.trans (h.mono hbw.size))
    have HCE:Hid (∀ W,Below wr.heap.size wr W->(W.cell? ⟨w.heap.size,0,none⟩=some (.slice s.hp s.hn s.hc)/\W.cell? ⟨w.heap.size,1,none⟩=some (.slice s.mp s.mn s.mc)/\W.cell? ⟨w.heap.size,2,none⟩=some (.slice s.sp s.sn s.sc)/\W.cell? ⟨w.heap.size,3,none⟩=some (.slice s.ap s.an s.ac)/\W.cell? ⟨w.heap.size,4,none⟩=some (.slice s.tp s.tn s.tc)/\W.cell? ⟨w.heap.size,5,none⟩=some (.slice s.cp s.cn s.cc)/\W.cell? ⟨w.heap.size,6,none⟩=some (.slice s.ep s.en s.ec)/\W.cell? ⟨w.heap.size,7,none⟩=some (.slice s.v1 s.n1 s.c1)/\W.cell? ⟨w.heap.size,8,none⟩=some (.slice s.v2 s.n2 s.c2)/\W.cell? ⟨w.heap.size,9,none⟩=some (.slice s.v3 s.n3 s.c3)/\W.cell? ⟨w.heap.size,10,none⟩=some (.slice s.v4 s.n4 s.c4)/\W.cell? ⟨w.heap.size,11,none⟩=some (.slice s.v5 s.n5 s.c5))/\W.cell? ⟨b,o+k,none⟩=some (.slice p1 nr c1)):=fun W h=>⟨(HPB.out.below (HW.out.trans (h.mono HW.out.size))).cells,(h.cell (p:=⟨b,o+k,none⟩) hbl).trans hcell⟩
    have HPS:=hD hps;rw[hps] at HBI HCE;clear hra hS hdq hbw hbl hcell hrow hps;clear q0;obtain ⟨⟨q0,q1,q2,q3,q4,q5,q6,q7,q8,q9,q10,q11⟩,y0⟩:=HCE.out wr (Below.refl _ _);have hcase:((nr:Int)<1)\/(¬ (nr:Int)<1/\16<(nr:Int))\/(¬ (nr:Int)<1/\¬16<(nr:Int)/\ra=false)\/(¬ (nr:Int)<1/\¬16<(nr:Int)/\ra=true/\¬S.tmod 8=0)\/(¬ (nr:Int)<1/\¬16<(nr:Int)/\ra=true/\S.tmod 8=0/\256<S)\/(¬ (nr:Int)<1/\¬16<(nr:Int)/\ra=true/\S.tmod 8=0/\¬256<S):=by
     cases ra<;>simp<;>omega
    have HBW:Hid (Below w.heap.size w wr):=HB0.out.trans (HW.out.mono HB0.out.size);rcases hcase with g1|⟨g1,g2⟩|⟨g1,g2,rfl⟩|⟨g1,g2,rfl,g4⟩|⟨g1,g2,rfl,g4,g5⟩|⟨g1,g2,rfl,g4,g5⟩
    ·go_wp2_with fail;go_ret;exact ⟨⟨_,rfl,trivial⟩,HBW.out⟩
    ·go_wp2_with fail;go_ret;exact ⟨⟨_,rfl,trivial⟩,HBW.out⟩
    ·go_wp2_with (first
     |(go_at_call 31;(with_reducible refine (HWD.out _ (Below.refl _ _)).mono ?_);rintro e w1 ⟨rfl,hb1⟩;have HB1:=hD hb1;clear hb1;obtain ⟨⟨q0,q1,q2,q3,q4,q5,q6,q7,q8,q9,q10,q11⟩,y0⟩:=HCE.out w1 HB1.out)
     |(go_at_call 32;(with_reducible refine (HBI.out _ HB1.out).mono ?_);rintro e w2 ⟨rfl,hb2⟩;have HB2:Hid (Below wr.heap.size wr w2):=HB1.out.trans (hb2.mono HB1.out.size);clear hb2;obtain ⟨⟨q0,q1,q2,q3,q4,q5,q6,q7,q8,q9,q10,q11⟩,y0⟩:=HCE.out w2 HB2.out)
     |(go_at_call 32;(with_reducible refine (HBI.out _ HB2.out).mono ?_);rintro e w3 ⟨rfl,hb3⟩;have HB3:Hid (Below wr.heap.size wr w3):=HB2.out.trans (hb3.mono HB2.out.size);clear hb3))
     go_ret;exact ⟨⟨_,rfl,trivial⟩,HBW.out.trans (HB1.out.mono HBW.out.size)⟩
    ·go_wp2_with (first
     |(go_at_call 31;(with_reducible refine (HWD.out _ (Below.refl _ _)).mono ?_);rintro e w1 ⟨rfl,hb1⟩;have HB1:=hD hb1;clear hb1;obtain ⟨⟨q0,q1,q2,q3,q4,q5,q6,q7,q8,q9,q10,q11⟩,y0⟩:=HCE.out w1 HB1.out)
     |(go_at_call 32;(with_reducible refine (HBI.out _ HB1.out).mono ?_);rintro e w2 ⟨rfl,hb2⟩;have HB2:Hid (Below wr.heap.size wr w2):=HB1.out.trans (hb2.mono HB1.out.size);clear hb2;obtain ⟨⟨q0,q1,q2,q3,q4,q5,q6,q7,q8,q9,q10,q11⟩,y0⟩:=HCE.out w2 HB2.out)
     |(go_at_call 32;(with_reducible refine (HBI.out _ HB2.out).mono ?_);rintro e w3 ⟨rfl,hb3⟩;have HB3:Hid (Below wr.heap.size wr w3):=HB2.out.trans (hb3.mono HB2.out.size);clear hb3))
     go_ret;exact ⟨⟨_,rfl,trivial⟩,HBW.out.trans (HB2.out.mono HBW.out.size)⟩
    ·go_wp2_with (first
     |(go_at_call 31;(with_reducible refine (HWD.out _ (Below.refl _ _)).mono ?_);rintro e w1 ⟨rfl,hb1⟩;have HB1:=hD hb1;clear hb1;obtain ⟨⟨q0,q1,q2,q3,q4,q5,q6,q7,q8,q9,q10,q11⟩,y0⟩:=HCE.out w1 HB1.out)
     |(go_at_call 32;(with_reducible refine (HBI.out _ HB1.out).mono ?_);rintro e w2 ⟨rfl,hb2⟩;have HB2:Hid (Below wr.heap.size wr w2):=HB1.out.trans (hb2.mono HB1.out.size);clear hb2;obtain ⟨⟨q0,q1,q2,q3,q4,q5,q6,q7,q8,q9,q10,q11⟩,y0⟩:=HCE.out w2 HB2.out)
     |(go_at_call 32;(with_reducible refine (HBI.out _ HB2.out).mono ?_);rintro e w3 ⟨rfl,hb3⟩;have HB3:Hid (Below wr.heap.size wr w3):=HB2.out.trans (hb3.mono HB2.out.size);clear hb3))
     go_ret;exact ⟨⟨_,rfl,trivial⟩,HBW.out.trans (HB3.out.mono HBW.out.size)⟩
    ·go_wp2_with (first
     |(go_at_call 31;(with_reducible refine (HWD.out _ (Below.refl _ _)).mono ?_);rintro e w1 ⟨rfl,hb1⟩;have HB1:=hD hb1;clear hb1;obtain ⟨⟨q0,q1,q2,q3,q4,q5,q6,q7,q8,q9,q10,q11⟩,y0⟩:=HCE.out w1 HB1.out)
     |(go_at_call 32;(with_reducible refine (HBI.out _ HB1.out).mono ?_);rintro e w2 ⟨rfl,hb2⟩;have HB2:Hid (Below wr.heap.size wr w2):=HB1.out.trans (hb2.mono HB1.out.size);clear hb2;obtain ⟨⟨q0,q1,q2,q3,q4,q5,q6,q7,q8,q9,q10,q11⟩,y0⟩:=HCE.out w2 HB2.out)
     |(go_at_call 32;(with_reducible refine (HBI.out _ HB2.out).mono ?_);rintro e w3 ⟨rfl,hb3⟩;have HB3:Hid (Below wr.heap.size wr w3):=HB2.out.trans (hb3.mono HB2.out.size);clear hb3))
     go_roundw
     case rel=>exact ⟨k+1,by omega,by go_num,HW.out.trans (HB3.out.mono HW.out.size)⟩
     case measure=>simp[intOf];omega
   ·obtain rfl:k=s.hn:=by omega
    have hki:¬(s.hn:Int)<(s.hn:Int):=by omega
    obtain ⟨q0,q1,q2,q3,q4,q5,q6,q7,q8,q9,q10,q11⟩:=(HPB.out.below HW.out).cells;go_wp2_with fail;clear q0 q1 q2 q3 q4 q5 q6 q7 q8 q9 q10 q11;go_loopw [4,5] (fun i u wr=>∃j:Nat,j<=s.en/\i= .int .i64 j/\Hid (Below W0.heap.size W0 wr)) (fun i u _=>s.en-(intOf i).toNat)
    case atStart=>exact ⟨0,Nat.zero_le _,rfl,HW.out⟩
    case round=>
     clear HW;obtain ⟨j,hj,rfl,HW⟩:=hrel;obtain ⟨q0,q1,q2,q3,q4,q5,q6,q7,q8,q9,q10,q11⟩:=(HPB.out.below HW.out).cells;have hbw:=HB0.out.trans (HW.out.mono HB0.out.size);by_cases hjl:j<s.en
     ·have hji:(j:Int)<(s.en:Int):=by omega
      obtain ⟨b,o,hps,hbl,y0⟩:=IRow.el (HP.out.emit.below keepI hbw) (j:=j) (by have:=HN.out.2;omega);obtain ⟨v,hv⟩:∃v,v=p.emit.getD j 0:=⟨_,rfl⟩;rw[<- hv] at y0;have HAL:Hid (∀ i:Nat,i<s.en->∃v,∀W,Below wr.heap.size wr W->W.cell? ⟨b,o+i,none⟩=some (.int .i64 v)):=fun i hi=>by
       obtain ⟨b',o',hps',hbl',y'⟩:=IRow.el (HP.out.emit.below keepI hbw) (j:=i) (by have:=HN.out.2;omega);rw[hps] at hps';cases hps';exact ⟨_,fun W h=>(h.cell (p:=⟨b,o+i,none⟩) hbl).trans y'⟩
      have HCE:Hid (∀ W,Below wr.heap.size wr W->W.cell? ⟨w.heap.size,0,none⟩=some (.slice s.hp s.hn s.hc)/\W.cell? ⟨w.heap.size,6,none⟩=some (.slice s.ep s.en s.ec)/\W.cell? ⟨b,o+j,none⟩=some (.int .i64 v)):=fun W h=>⟨(HPB.out.below (HW.out.trans (h.mono HW.out.size))).cells.1,(HPB.out.below (HW.out.trans (h.mono HW.out.size))).cells.2.2.2.2.2.2.1,(h.cell (p:=⟨b,o+j,none⟩) hbl).trans y0⟩
      rw[hps] at HCE;clear hv hbw hbl y0 hps;by_cases hv0:v<0
      ·go_upto_region 11 with fail
       refine roB wr ?_;refine stq ?_ (fun aa ww ll hh=>?_) ?_;rotate_left
       ·have e1:=hh.oL 1;exact ov gX
       refine stq ?_ (fun aa ww ll hh=>?_) ?_;rotate_left
       ·have e74:=hh.gt 0 0;obtain ⟨q0,q6,y0⟩:=HCE.out ww hh.inv;exact ov gX
       refine stq ?_ (fun aa ww ll hh=>?_) ?_;rotate_left
       ·have e4:=hh.oL 4;refine ov ?_;rw[xmv e4]
       refine stq ?_ (fun aa ww ll hh=>?_) ?_;rotate_left
       ·have e75:=hh.gt 1 1;have e76:=hh.gt 2 0;exact ov gX
       refine stq ?_ (fun aa ww ll hh=>?_) ?_;rotate_left
       ·have e77:=hh.gt 3 0;obtain ⟨q0,q6,y0⟩:=HCE.out ww hh.inv;exact ov gX
       refine stq ?_ (fun aa ww ll hh=>?_) ?_;rotate_left
       ·have e78:=hh.gt 4 0;have ec:=evc aa;exact ov gX
       refine stm 5 0 ?_;refine stk 0 ?_;refine stk 1 ?_;refine stk 2 ?_;refine stk 3 ?_;refine stk 4 ?_;refine stk 5 ?_;refine stk 6 ?_;refine stk 7 ?_;refine stk 8 ?_;refine stq ?_ (fun aa ww ll hh=>?_) ?_;rotate_left
       ·have e80:=hh.gt 6 9;have e89:=hh.gt 15 0;have ec:=evc aa;exact ov gX
       intro ll w2 hS hok;clear hok;simp only[List.reverse_cons,List.reverse_nil,List.nil_append,List.cons_append,layO,Out.val,Act.put,List.setIfInBounds_toArray,List.set_cons_zero,List.set_cons_succ];have HB2:Hid (Below w.heap.size w w2):=HB0.out.trans ((HW.out.trans (hS.mono HW.out.size)).mono HB0.out.size);clear hS;go_wp2_with fail;go_ret;exact ⟨⟨_,rfl,trivial⟩,HB2.out⟩
      ·by_cases hv1:(s.hn:Int)<=v
       ·go_upto_region 11 with fail
        refine roB wr ?_;refine stq ?_ (fun aa ww ll hh=>?_) ?_;rotate_left
        ·have e1:=hh.oL 1;exact ov gX
        refine stq ?_ (fun aa ww ll hh=>?_) ?_;rotate_left
        ·have e74:=hh.gt 0 0;obtain ⟨q0,q6,y0⟩:=HCE.out ww hh.inv;exact ov gX
        refine stq ?_ (fun aa ww ll hh=>?_) ?_;rotate_left
        ·have e4:=hh.oL 4;refine ov ?_;rw[xmv e4]
        refine stq ?_ (fun aa ww ll hh=>?_) ?_;rotate_left
        ·have e75:=hh.gt 1 1;have e76:=hh.gt 2 0;exact ov gX
        refine stq ?_ (fun aa ww ll hh=>?_) ?_;rotate_left
        ·have e77:=hh.gt 3 0;obtain ⟨q0,q6,y0⟩:=HCE.out ww hh.inv;exact ov gX
        refine stq ?_ (fun aa ww ll hh=>?_) ?_;rotate_left
        ·have e78:=hh.gt 4 0;have ec:=evc aa;exact ov gX
        refine stm 5 0 ?_;refine stq ?_ (fun aa ww ll hh=>?_) ?_;rotate_left
        ·have e1:=hh.oL 1;exact hh.og 0 gX
        refine stq ?_ (fun aa ww ll hh=>?_) ?_;rotate_left
        ·have e81:=hh.gt 7 0;obtain ⟨q0,q6,y0⟩:=HCE.out ww hh.inv;exact hh.og 1 gX
        refine stq ?_ (fun aa ww ll hh=>?_) ?_;rotate_left
        ·have e4:=hh.oL 4;refine hh.og 2 ?_;rw[xmv e4]
        refine stq ?_ (fun aa ww ll hh=>?_) ?_;rotate_left
        ·have e82:=hh.gt 8 1;have e83:=hh.gt 9 0;exact hh.og 3 gX
        refine stq ?_ (fun aa ww ll hh=>?_) ?_;rotate_left
        ·have e84:=hh.gt 10 0;obtain ⟨q0,q6,y0⟩:=HCE.out ww hh.inv;exact hh.og 4 gX
        refine stq ?_ (fun aa ww ll hh=>?_) ?_;rotate_left
        ·have e1:=hh.oL 1;exact hh.og 5 gX
        refine stq ?_ (fun aa ww ll hh=>?_) ?_;rotate_left
        ·have e86:=hh.gt 12 0;obtain ⟨q0,q6,y0⟩:=HCE.out ww hh.inv;exact hh.og 6 gX
        refine stq ?_ (fun aa ww ll hh=>?_) ?_;rotate_left
        ·have e87:=hh.gt 13 0;obtain ⟨q0,q6,y0⟩:=HCE.out ww hh.inv;exact hh.og 7 gX
        refine stq ?_ (fun aa ww ll hh=>?_) ?_;rotate_left
        ·have e85:=hh.gt 11 3;have e88:=hh.gt 14 0;exact hh.og 8 gX
        refine stq ?_ (fun aa ww ll hh=>?_) ?_;rotate_left
        ·have e80:=hh.gt 6 9;have e89:=hh.gt 15 0;have ec:=evc aa;exact ov gX
        intro ll w2 hS hok;clear hok;simp only[List.reverse_cons,List.reverse_nil,List.nil_append,List.cons_append,layO,Out.val,Act.put,List.setIfInBounds_toArray,List.set_cons_zero,List.set_cons_succ];have HB2:Hid (Below w.heap.size w w2):=HB0.out.trans ((HW.out.trans (hS.mono HW.out.size)).mono HB0.out.size);clear hS;go_wp2_with fail;go_ret;exact ⟨⟨_,rfl,trivial⟩,HB2.out⟩
       ·go_upto_region 11 with fail
        refine roB wr ?_;refine stq ?_ (fun aa ww ll hh=>?_) ?_;rotate_left
        ·have e1:=hh.oL 1;exact ov gX
        refine stq ?_ (fun aa ww ll hh=>?_) ?_;rotate_left
        ·have e74:=hh.gt 0 0;obtain ⟨q0,q6,y0⟩:=HCE.out ww hh.inv;exact ov gX
        refine stq ?_ (fun aa ww ll hh=>?_) ?_;rotate_left
        ·have e4:=hh.oL 4;refine ov ?_;rw[xmv e4]
        refine stq ?_ (fun aa ww ll hh=>?_) ?_;rotate_left
        ·have e75:=hh.gt 1 1;have e76:=hh.gt 2 0;exact ov gX
        refine stq ?_ (fun aa ww ll hh=>?_) ?_;rotate_left
        ·have e77:=hh.gt 3 0;obtain ⟨q0,q6,y0⟩:=HCE.out ww hh.inv;exact ov gX
        refine stq ?_ (fun aa ww ll hh=>?_) ?_;rotate_left
        ·have e78:=hh.gt 4 0;have ec:=evc aa;exact ov gX
        refine stm 5 0 ?_;refine stq ?_ (fun aa ww ll hh=>?_) ?_;rotate_left
        ·have e1:=hh.oL 1;exact hh.og 0 gX
        refine stq ?_ (fun aa ww ll hh=>?_) ?_;rotate_left
        ·have e81:=hh.gt 7 0;obtain ⟨q0,q6,y0⟩:=HCE.out ww hh.inv;exact hh.og 1 gX
        refine stq ?_ (fun aa ww ll hh=>?_) ?_;rotate_left
        ·have e4:=hh.oL 4;refine hh.og 2 ?_;rw[xmv e4]
        refine stq ?_ (fun aa ww ll hh=>?_) ?_;rotate_left
        ·have e82:=hh.gt 8 1;have e83:=hh.gt 9 0;exact hh.og 3 gX
        refine stq ?_ (fun aa ww ll hh=>?_) ?_;rotate_left
        ·have e84:=hh.gt 10 0;obtain ⟨q0,q6,y0⟩:=HCE.out ww hh.inv;exact hh.og 4 gX
        refine stq ?_ (fun aa ww ll hh=>?_) ?_;rotate_left
        ·have e1:=hh.oL 1;exact hh.og 5 gX
        refine stq ?_ (fun aa ww ll hh=>?_) ?_;rotate_left
        ·have e86:=hh.gt 12 0;obtain ⟨q0,q6,y0⟩:=HCE.out ww hh.inv;exact hh.og 6 gX
        refine stq ?_ (fun aa ww ll hh=>?_) ?_;rotate_left
        ·have e87:=hh.gt 13 0;obtain ⟨q0,q6,y0⟩:=HCE.out ww hh.inv;exact hh.og 7 gX
        refine stq ?_ (fun aa ww ll hh=>?_) ?_;rotate_left
        ·have e85:=hh.gt 11 3;have e88:=hh.gt 14 0;exact hh.og 8 gX
        refine stq ?_ (fun aa ww ll hh=>?_) ?_;rotate_left
        ·have e80:=hh.gt 6 9;have e89:=hh.gt 15 0;have ec:=evc aa;exact ov gX
        intro ll w2 hS hok;clear hok;simp only[List.reverse_cons,List.reverse_nil,List.nil_append,List.cons_append,layO,Out.val,Act.put,List.setIfInBounds_toArray,List.set_cons_zero,List.set_cons_succ];clear q0 q1 q2 q3 q4 q5 q6 q7 q8 q9 q10 q11;have HB2:=hD hS;clear hS;go_wp2_with fail;go_loopw [5] (fun u wq=>∃i:Nat,i<=j/\u= .int .i64 i/\Hid (Below wr.heap.size wr wq)) (fun u _=>j-(intOf u).toNat)
        case atStart=>exact ⟨0,Nat.zero_le _,rfl,HB2.out⟩
        case round=>
         obtain ⟨i,hi,rfl,HQ⟩:=hrel;by_cases hil:i<j
         ·have hili:(i:Int)<(j:Int):=by omega
          have hile:(i:Int)<(s.en:Int):=by omega
          obtain ⟨x,hx⟩:=HAL.out i (by omega);have HX:=hD hx;clear hx;obtain ⟨q0,q6,y0⟩:=HCE.out _ HQ.out;have y1:=HX.out _ HQ.out;go_upto_region 16 with fail
          go_quiet (fail);have HQ2:=hD (below_drewN HQ.out nq);go_wp2_with fail
          all_goals first
           |(go_ret;exact ⟨⟨_,rfl,trivial⟩,HB0.out.trans ((HW.out.trans (HQ2.out.mono HW.out.size)).mono HB0.out.size)⟩)
           |(
            go_roundw
            case rel=>exact ⟨i+1,by omega,by go_num,HQ2.out⟩
            case measure=>simp[intOf];omega)
         ·obtain rfl:i=j:=by omega
          have hili:¬(i:Int)<(i:Int):=by omega
          go_wp2_with fail;go_roundw
          case rel=>exact ⟨i+1,by omega,by go_num,HW.out.trans (HQ.out.mono HW.out.size)⟩
          case measure=>simp[intOf];omega
     ·obtain rfl:j=s.en:=by omega
      have hji:¬(s.en:Int)<(s.en:Int):=by omega
      clear hbw;go_wp2_with (go_at_call 31;(with_reducible refine (HMW.out _ (HB0.out.trans (HW.out.mono HB0.out.size))).mono ?_);rintro e w1 ⟨rfl,hb1⟩;have HB1:=hD hb1;clear hb1);go_ret;exact ⟨⟨_,rfl,trivial⟩,HB0.out.trans ((HW.out.trans (HB1.out.mono HW.out.size)).mono HB0.out.size)⟩
end Go.Proofs.YtjfhfaodbjecdaaGreat
