/-
  Lemmas, joined: MayL, BitR.
-/
import Derived.Test.YtjfhfaodbjecdaaGreatJC11
import Derived.Test.YtjfhfaodbjecdaaGreatJC02
set_option maxHeartbeats 12800000
set_option maxRecDepth 100000
namespace Go.Proofs.YtjfhfaodbjecdaaGreat
open Go.RowKit
def NmBox (w:World) (g:Nat) (s:PgS):Prop:=w.heap[g]?=some (.cells #[.slice s.v1 s.n1 s.c1, .slice s.v2 s.n2 s.c2, .slice s.v3 s.n3 s.c3, .slice s.v4 s.n4 s.c4, .slice s.v5 s.n5 s.c5] 31 (0,0))
theorem NmBox.cells {w:World} {g:Nat} {s:PgS} (h:NmBox w g s):w.cell? ⟨g,0,none⟩=some (.slice s.v1 s.n1 s.c1)/\w.cell? ⟨g,1,none⟩=some (.slice s.v2 s.n2 s.c2)/\w.cell? ⟨g,2,none⟩=some (.slice s.v3 s.n3 s.c3)/\w.cell? ⟨g,3,none⟩=some (.slice s.v4 s.n4 s.c4)/\w.cell? ⟨g,4,none⟩=some (.slice s.v5 s.n5 s.c5):=by
 unfold NmBox at h;refine ⟨?_,?_,?_,?_,?_⟩<;>simp[World.cell?,h]
theorem NmBox.below {w w':World} {g:Nat} {s:PgS} (h:NmBox w g s) (hb:Below w.heap.size w w'):NmBox w' g s:=(hb.block g (Array.getElem?_eq_some_iff.1 h).1).trans h
def actOk (p:Prg) (i:Nat) (a:Actn):Bool:=decide (a.params.length<=8)&&a.params.all okP&&mayInstsP p (i:Int) a.body
theorem mayP_eq (p:Prg):mayP p=(headsP p&&decide (p.metas.length<=16)&&p.metas.all okP&&decide (p.nm.length=p.metas.length/\p.na.length=p.acts.length/\p.nt.length=p.tabs.length)&&
 decide (1<=p.steps.length/\p.steps.length<=16/\p.acts.length<=16/\p.tabs.length<=8)&&listsP (p.heads.length:Int) [] p.emit&&mayInstsP p (-1) p.ctl&&
 p.steps.all (mayStepP p)&&(List.range p.steps.length).all (fun i=> !cycP p i)&&allIdx (actOk p) 0 p.acts&&p.tabs.all (mayTabP p)):=rfl
theorem may_any (s:PgS) (p:Prg) (w:World) (hp:PgOk w s p) (hS:Sm p)
 (hcyc:∀(W:World) (i:Nat),PgOk W s p->(∀ x∈p.steps,mayStepP p x=true)->i<p.steps.length->Calls Tryz.prog 38 #[pgV s, .int .i64 (i:Int)] W fun e w'=>e= .returned (.bool (cycP p i))/\Below W.heap.size W w'):
 Calls Tryz.prog 16 #[pgV s] w fun e w'=>e= .returned (.bool (mayP p))/\Below w.heap.size w w':=by
 obtain ⟨R,hR⟩:∃R,R=mayP p:=⟨_,rfl⟩;rw[<- hR];obtain ⟨hd1,-,-,-⟩:=hp.heads.ln;obtain ⟨hm1,hm2,hm3,-⟩:=hp.metas.ln;obtain ⟨hs1,-,-,-⟩:=hp.steps.ln;obtain ⟨ha1,-,-,-⟩:=hp.acts.ln;obtain ⟨ht1,-,-,-⟩:=hp.tabs.ln;obtain ⟨hx3,-,-,-⟩:=hp.nm.ln;obtain ⟨hx4,-,-,-⟩:=hp.na.ln;obtain ⟨hx5,-,-,-⟩:=hp.nt.ln;obtain ⟨he1,-,-,-⟩:=hp.emit.ln;obtain ⟨hc1,-,-,-⟩:=hp.ctl.ln;obtain ⟨rh,hrh⟩:∃r,r=headsP p:=⟨_,rfl⟩;obtain ⟨rw',hrw⟩:∃r,r=p.metas.all okP:=⟨_,rfl⟩;obtain ⟨rl,hrl⟩:∃r,r=listsP (p.heads.length:Int) [] p.emit:=⟨_,rfl⟩;obtain ⟨ri,hri⟩:∃r,r=mayInstsP p (-1) p.ctl:=⟨_,rfl⟩;have hR2:R=(rh&&decide (s.mn<=16)&&rw'&&decide (s.n3=s.mn/\s.n4=s.an/\s.n5=s.tn)&&decide (1<=s.sn/\s.sn<=16/\s.an<=16/\s.tn<=8)&&rl&&ri&&p.steps.all (mayStepP p)&&(List.range s.sn).all (fun i=> !cycP p i)&&allIdx (actOk p) 0 p.acts&&p.tabs.all (mayTabP p)):=by
  rw[hR,mayP_eq,hrh,hrw,hrl,hri,hm1,hx3,hx4,hx5,hs1,ha1,ht1]
 have HR:=hD hR2;have HHE:Hid (∀ W,Below w.heap.size w W->Calls Tryz.prog 33 #[pgV s] W fun e w'=>e= .returned (.bool rh)/\Below W.heap.size W w'):=fun W h=>by rw[hrh];exact heads_any s p W (hp.below h) hS
 have HWI:Hid (∀ W,Below w.heap.size w W->Calls Tryz.prog 34 #[.slice s.mp s.mn s.mc] W fun e w'=>e= .returned (.bool rw')/\Below W.heap.size W w'):=fun W h=>by rw[hrw];exact widths10_any p.metas _ _ _ W (hp.metas.below keepI h) (by have:=hS.metas;omega)
 have HLI:Hid (∀ W,Below w.heap.size w W->Calls Tryz.prog 35 #[.slice s.ep s.en s.ec, .int .i64 (s.hn:Int)] W fun e w'=>e= .returned (.bool rl)/\Below W.heap.size W w'):=fun W h=>by rw[hrl, <-hd1];exact lists_any p.emit _ _ _ _ W (hp.emit.below keepI h) (by have:=hS.emit;omega)
 have HIN:Hid (∀ W,Below w.heap.size w W->Calls Tryz.prog 36 #[pgV s, .int .i64 (-1), .slice s.cp s.cn s.cc] W fun e w'=>e= .returned (.bool ri)/\Below W.heap.size W w'):=fun W h=>by rw[hri];exact mayInsts_any s p (-1) p.ctl _ _ _ W (hp.below h) hS (hp.ctl.below keepIst h) (by have:=hS.ctl;omega) hS.ccode
 have HP:=hD hp;have HS:=hD hS;have HCY:=hD hcyc;have HL:=hD (And.intro hs1 (And.intro ha1 ht1));clear hR hR2 hrh hrw hrl hri hp hS hcyc hd1 hm1 hs1 ha1 ht1 hx3 hx4 hx5 he1 hc1;unfold pgV at HHE HIN⊢;go_enter Tryz.func16,Tryz.ntmps16;go_upto_region 2 with fail
 obtain ⟨W0,hW0⟩:∃W0,W0=(w.alloc (.cells #[.slice s.hp s.hn s.hc, .slice s.mp s.mn s.mc, .slice s.sp s.sn s.sc, .slice s.ap s.an s.ac, .slice s.tp s.tn s.tc, .slice s.cp s.cn s.cc, .slice s.ep s.en s.ec, .slice s.v1 s.n1 s.c1, .slice s.v2 s.n2 s.c2, .slice s.v3 s.n3 s.c3, .slice s.v4 s.n4 s.c4, .slice s.v5 s.n5 s.c5] 33)).alloc (.cells #[.slice s.v1 s.n1 s.c1, .slice s.v2 s.n2 s.c2, .slice s.v3 s.n3 s.c3, .slice s.v4 s.n4 s.c4, .slice s.v5 s.n5 s.c5] 31):=⟨_,rfl⟩;have HB0:Hid (Below w.heap.size w W0):=by show Below _ _ _;rw[hW0];exact (by repeat (first|exact Below.refl _ _|assumption|refine Below.drew ?_|refine blA ?_|refine blS ?_|refine blT ?_ (by assumption)))
 have HPB:Hid (PBox W0 w.heap.size s):=by show _=_;rw[hW0,Below.heap_alloc _ _ _ (by simp)];exact heap_new _ _
 have HNB:Hid (NmBox W0 (w.heap.size+1) s):=by
  show _=_;rw[hW0];have:=heap_new (w.alloc (.cells #[.slice s.hp s.hn s.hc, .slice s.mp s.mn s.mc, .slice s.sp s.sn s.sc, .slice s.ap s.an s.ac, .slice s.tp s.tn s.tc, .slice s.cp s.cn s.cc, .slice s.ep s.en s.ec, .slice s.v1 s.n1 s.c1, .slice s.v2 s.n2 s.c2, .slice s.v3 s.n3 s.c3, .slice s.v4 s.n4 s.c4, .slice s.v5 s.n5 s.c5] 33)) (.cells #[.slice s.v1 s.n1 s.c1, .slice s.v2 s.n2 s.c2, .slice s.v3 s.n3 s.c3, .slice s.v4 s.n4 s.c4, .slice s.v5 s.n5 s.c5] 31);simp only[World.size_alloc] at this;exact this
 rw[<- hW0];clear hW0;have HZ0:Hid (Below W0.heap.size W0 W0):=Below.refl _ _;obtain ⟨q0,q1,q2,q3,q4,q5,q6,q7,q8,q9,q10,q11⟩:=HPB.out.cells;obtain ⟨n0,n1,n2,n3,n4⟩:=HNB.out.cells;by_cases hA:rh=true/\s.mn<=16/\rw'=true/\s.n3=s.mn/\s.n4=s.an/\s.n5=s.tn
 ·obtain ⟨rfl,a2,rfl,a4,a5,a6⟩:=hA;have HA:=hD (And.intro a2 (And.intro a4 (And.intro a5 a6)));have b2:¬16<(s.mn:Int):=by omega
  have b4:(s.n3:Int)=(s.mn:Int):=by omega
  have b5:(s.n4:Int)=(s.an:Int):=by omega
  have b6:(s.n5:Int)=(s.tn:Int):=by omega
  clear a2 a4 a5 a6;by_cases hC:(1<=s.sn/\s.sn<=16/\s.an<=16/\s.tn<=8)/\rl=true/\ri=true
  ·obtain ⟨⟨c1,c2,c3,c4⟩,rfl,rfl⟩:=hC;have hR3:R=(p.steps.all (mayStepP p)&&(List.range s.sn).all (fun i=> !cycP p i)&&allIdx (actOk p) 0 p.acts&&p.tabs.all (mayTabP p)):=by
    obtain ⟨x1,x2,x3,x4⟩:=HA.out;rw[HR.out,decide_eq_true x1,decide_eq_true ⟨x2,x3,x4⟩,decide_eq_true ⟨c1,c2,c3,c4⟩];rfl
   have HR3:=hD hR3;have g1:¬(s.sn:Int)<1:=by omega
   have g2:¬16<(s.sn:Int):=by omega
   have g3:¬16<(s.an:Int):=by omega
   have g4:¬8<(s.tn:Int):=by omega
   clear hR3;go_upto_region 6 with (first
   |(go_at_call 33;refine (HHE.out _ (HB0.out.trans (HZ0.out.mono HB0.out.size))).mono ?_;rintro e w1 ⟨rfl,hb1⟩;have HZ1:Hid (Below W0.heap.size W0 w1):=HZ0.out.trans (hb1.mono HZ0.out.size);have pb1:=(HPB.out.below HZ1.out).cells;obtain ⟨q0,q1,q2,q3,q4,q5,q6,q7,q8,q9,q10,q11⟩:=pb1;have nb1:=(HNB.out.below HZ1.out).cells;obtain ⟨n0,n1,n2,n3,n4⟩:=nb1;clear hb1)
   |(go_at_call 34;refine (HWI.out _ (HB0.out.trans (HZ1.out.mono HB0.out.size))).mono ?_;rintro e w2 ⟨rfl,hb2⟩;have HZ2:Hid (Below W0.heap.size W0 w2):=HZ1.out.trans (hb2.mono HZ1.out.size);have pb2:=(HPB.out.below HZ2.out).cells;obtain ⟨q0,q1,q2,q3,q4,q5,q6,q7,q8,q9,q10,q11⟩:=pb2;have nb2:=(HNB.out.below HZ2.out).cells;obtain ⟨n0,n1,n2,n3,n4⟩:=nb2;clear hb2)
   |(go_at_call 35;refine (HLI.out _ (HB0.out.trans (HZ2.out.mono HB0.out.size))).mono ?_;rintro e w3 ⟨rfl,hb3⟩;have HZ3:Hid (Below W0.heap.size W0 w3):=HZ2.out.trans (hb3.mono HZ2.out.size);have pb3:=(HPB.out.below HZ3.out).cells;obtain ⟨q0,q1,q2,q3,q4,q5,q6,q7,q8,q9,q10,q11⟩:=pb3;have nb3:=(HNB.out.below HZ3.out).cells;obtain ⟨n0,n1,n2,n3,n4⟩:=nb3;clear hb3)
   |(go_at_call 36;refine (HIN.out _ (HB0.out.trans (HZ3.out.mono HB0.out.size))).mono ?_;rintro e w4 ⟨rfl,hb4⟩;have HZ4:Hid (Below W0.heap.size W0 w4):=HZ3.out.trans (hb4.mono HZ3.out.size);have pb4:=(HPB.out.below HZ4.out).cells;obtain ⟨q0,q1,q2,q3,q4,q5,q6,q7,q8,q9,q10,q11⟩:=pb4;have nb4:=(HNB.out.below HZ4.out).cells;obtain ⟨n0,n1,n2,n3,n4⟩:=nb4;clear hb4))
   clear q0 q1 q2 q3 q4 q5 q6 q7 q8 q9 q10 q11 n0 n1 n2 n3 n4;go_wp2_with fail;go_loopw [4] (fun i wr=>∃k:Nat,k<=s.sn/\i= .int .i64 k/\Hid (Below W0.heap.size W0 wr)/\Hid (∀ j x,j<k->p.steps[j]?=some x->mayStepP p x=true)) (fun i _=>s.sn-(intOf i).toNat)
   case atStart=>exact ⟨0,Nat.zero_le _,rfl,HZ4.out,fun j _ hj=>absurd hj (by omega)⟩
   case round=>
    obtain ⟨k,hk,rfl,HW,HQ⟩:=hrel;have hbw:=HB0.out.trans (HW.out.mono HB0.out.size);obtain ⟨q0,q1,q2,q3,q4,q5,q6,q7,q8,q9,q10,q11⟩:=(HPB.out.below HW.out).cells;by_cases hlt:k<s.sn
    ·obtain ⟨x,hx⟩:∃x,p.steps[k]?=some x:=⟨_,List.getElem?_eq_getElem (by have:=HL.out.1;omega)⟩;have hxm:=List.mem_of_getElem? hx;obtain ⟨sb,so,hps,hsb,⟨tp,tn,tc,y0,hy0⟩,⟨kp,kn,kc,y1,hy1⟩,⟨bp,bn,bc,y2,hy2⟩,y3⟩:=(HP.out.steps.below keepStp hbw).get hx;obtain ⟨r,hr⟩:∃r,r=mayStepP p x:=⟨_,rfl⟩;obtain ⟨xt,hxt⟩:∃xt,xt=x.to:=⟨_,rfl⟩;have HC:Hid (∀ W,Below wr.heap.size wr W->Calls Tryz.prog 37 #[.agg #[.slice s.hp s.hn s.hc, .slice s.mp s.mn s.mc, .slice s.sp s.sn s.sc, .slice s.ap s.an s.ac, .slice s.tp s.tn s.tc, .slice s.cp s.cn s.cc, .slice s.ep s.en s.ec, .slice s.v1 s.n1 s.c1, .slice s.v2 s.n2 s.c2, .slice s.v3 s.n3 s.c3, .slice s.v4 s.n4 s.c4, .slice s.v5 s.n5 s.c5], .agg #[.slice tp tn tc, .slice kp kn kc, .slice bp bn bc, .int .i64 xt]] W fun e w'=>e= .returned (.bool r)/\Below W.heap.size W w'):=fun W h=>by
      rw[hr,hxt];exact mayStep_any s p x tp tn tc kp kn kc bp bn bc W (HP.out.below (hbw.trans (h.mono hbw.size))) HS.out (hy0.below keepI h) (hy1.below keepCs h) (hy2.below keepBrn h) (by have:=hy0.ln.1;have:=HS.out.takes x hxm;omega) (by have:=hy1.ln.1;have:=HS.out.skeys x hxm;omega) (by have:=hy2.ln.1;have:=HS.out.brs x hxm;omega) (HS.out.scode x hxm)
     rw[<- hxt] at y3;have HCE:Hid (∀ W,Below wr.heap.size wr W->(W.cell? ⟨w.heap.size,0,none⟩=some (.slice s.hp s.hn s.hc)/\W.cell? ⟨w.heap.size,1,none⟩=some (.slice s.mp s.mn s.mc)/\W.cell? ⟨w.heap.size,2,none⟩=some (.slice s.sp s.sn s.sc)/\W.cell? ⟨w.heap.size,3,none⟩=some (.slice s.ap s.an s.ac)/\W.cell? ⟨w.heap.size,4,none⟩=some (.slice s.tp s.tn s.tc)/\W.cell? ⟨w.heap.size,5,none⟩=some (.slice s.cp s.cn s.cc)/\W.cell? ⟨w.heap.size,6,none⟩=some (.slice s.ep s.en s.ec)/\W.cell? ⟨w.heap.size,7,none⟩=some (.slice s.v1 s.n1 s.c1)/\W.cell? ⟨w.heap.size,8,none⟩=some (.slice s.v2 s.n2 s.c2)/\W.cell? ⟨w.heap.size,9,none⟩=some (.slice s.v3 s.n3 s.c3)/\W.cell? ⟨w.heap.size,10,none⟩=some (.slice s.v4 s.n4 s.c4)/\W.cell? ⟨w.heap.size,11,none⟩=some (.slice s.v5 s.n5 s.c5))/\W.cell? ⟨sb,so+k*4,none⟩=some (.slice tp tn tc)/\W.cell? ⟨sb,so+k*4+1,none⟩=some (.slice kp kn kc)/\W.cell? ⟨sb,so+k*4+2,none⟩=some (.slice bp bn bc)/\W.cell? ⟨sb,so+k*4+3,none⟩=some (.int .i64 xt)):=fun W h=>
      ⟨(HPB.out.below (HW.out.trans (h.mono HW.out.size))).cells,(h.cell (p:=⟨sb,so+k*4,none⟩) hsb).trans y0,(h.cell (p:=⟨sb,so+k*4+1,none⟩) hsb).trans y1,(h.cell (p:=⟨sb,so+k*4+2,none⟩) hsb).trans y2,(h.cell (p:=⟨sb,so+k*4+3,none⟩) hsb).trans y3⟩
     have HX:=hD (And.intro hx hr);rw[hps] at HC HCE q2;have hki:(k:Int)<(s.sn:Int):=by omega
     clear hx hxm hr hxt y0 y1 y2 y3 hy0 hy1 hy2 hps;go_upto_region 9 with fail
     clear q0 q1 q2 q3 q4 q5 q6 q7 q8 q9 q10 q11;cases r
     ·have hr:R=false:=by rw[HR3.out,all_false HX.out.1 HX.out.2.symm];rfl
      refine roB wr ?_;refine stq ?_ (fun aa ww ll hh=>?_) ?_;rotate_left
      ·have e1:=hh.oL 1;obtain ⟨⟨q0,q1,q2,q3,q4,q5,q6,q7,q8,q9,q10,q11⟩,x0,x1,x2,x3⟩:=HCE.out ww hh.inv;exact ov gX
      refine stq ?_ (fun aa ww ll hh=>?_) ?_;rotate_left
      ·have e1:=hh.oL 1;exact ov gX
      refine stq ?_ (fun aa ww ll hh=>?_) ?_;rotate_left
      ·have e99:=hh.gt 1 0;obtain ⟨⟨q0,q1,q2,q3,q4,q5,q6,q7,q8,q9,q10,q11⟩,x0,x1,x2,x3⟩:=HCE.out ww hh.inv;exact ov gX
      refine stq ?_ (fun aa ww ll hh=>?_) ?_;rotate_left
      ·have e4:=hh.oL 4;refine ov ?_;rw[xmv e4]
      refine stq ?_ (fun aa ww ll hh=>?_) ?_;rotate_left
      ·have e100:=hh.gt 2 1;have e101:=hh.gt 3 0;exact ov gX
      refine stq ?_ (fun aa ww ll hh=>?_) ?_;rotate_left
      ·have e102:=hh.gt 4 0;obtain ⟨⟨q0,q1,q2,q3,q4,q5,q6,q7,q8,q9,q10,q11⟩,x0,x1,x2,x3⟩:=HCE.out ww hh.inv;exact ov gX
      refine ⟨.eq (.bool false),trivial,rfl,fun aa ww ll hh=>?_,?_⟩
      ·have e98:=hh.gt 0 5;have e103:=hh.gt 5 0;have ef:=evf aa;refine out_call_eq (wanted_none rfl) ?_ (HC.out ww hh.inv);exact gX
      refine stq ?_ (fun aa ww ll hh=>?_) ?_;rotate_left
      ·have e104:=hh.gt 6 0;exact ov gX
      intro ll w9 hS hok;clear hok;simp only[List.reverse_cons,List.reverse_nil,List.nil_append,List.cons_append,layO,Out.val,Act.put,List.setIfInBounds_toArray,List.set_cons_zero,List.set_cons_succ];go_wp2_with fail;go_ret;exact ⟨by first|rfl|(rw[hr];rfl),hbw.trans (hS.mono hbw.size)⟩
     ·skip;refine roB wr ?_;refine stq ?_ (fun aa ww ll hh=>?_) ?_;rotate_left
      ·have e1:=hh.oL 1;obtain ⟨⟨q0,q1,q2,q3,q4,q5,q6,q7,q8,q9,q10,q11⟩,x0,x1,x2,x3⟩:=HCE.out ww hh.inv;exact ov gX
      refine stq ?_ (fun aa ww ll hh=>?_) ?_;rotate_left
      ·have e1:=hh.oL 1;exact ov gX
      refine stq ?_ (fun aa ww ll hh=>?_) ?_;rotate_left
      ·have e99:=hh.gt 1 0;obtain ⟨⟨q0,q1,q2,q3,q4,q5,q6,q7,q8,q9,q10,q11⟩,x0,x1,x2,x3⟩:=HCE.out ww hh.inv;exact ov gX
      refine stq ?_ (fun aa ww ll hh=>?_) ?_;rotate_left
      ·have e4:=hh.oL 4;refine ov ?_;rw[xmv e4]
      refine stq ?_ (fun aa ww ll hh=>?_) ?_;rotate_left
      ·have e100:=hh.gt 2 1;have e101:=hh.gt 3 0;exact ov gX
      refine stq ?_ (fun aa ww ll hh=>?_) ?_;rotate_left
      ·have e102:=hh.gt 4 0;obtain ⟨⟨q0,q1,q2,q3,q4,q5,q6,q7,q8,q9,q10,q11⟩,x0,x1,x2,x3⟩:=HCE.out ww hh.inv;exact ov gX
      refine ⟨.eq (.bool true),trivial,rfl,fun aa ww ll hh=>?_,?_⟩
      ·have e98:=hh.gt 0 5;have e103:=hh.gt 5 0;have ef:=evf aa;refine out_call_eq (wanted_none rfl) ?_ (HC.out ww hh.inv);exact gX
      refine stq ?_ (fun aa ww ll hh=>?_) ?_;rotate_left
      ·have e104:=hh.gt 6 0;exact ov gX
      intro ll w9 hS hok;clear hok;simp only[List.reverse_cons,List.reverse_nil,List.nil_append,List.cons_append,layO,Out.val,Act.put,List.setIfInBounds_toArray,List.set_cons_zero,List.set_cons_succ];go_wp2_with fail;go_roundw
      case rel=>exact ⟨k+1,by omega,by go_num,HW.out.trans (hS.mono HW.out.size),fun j y hj hy=>by
       rcases Nat.lt_or_ge j k with h|h
       ·exact HQ.out j y h hy
       ·obtain rfl:j=k:=by omega
        rw[HX.out.1] at hy;cases hy;exact HX.out.2.symm⟩
      case measure=>simp[intOf];omega
    ·obtain rfl:k=s.sn:=by omega
     have hall:∀x∈p.steps,mayStepP p x=true:=fun x hx=>by
      obtain ⟨j,hj⟩:=List.getElem?_of_mem hx;exact HQ.out j x (by have:=(List.getElem?_eq_some_iff.1 hj).1;have:=HL.out.1;omega) hj
     have hR4:R=((List.range s.sn).all (fun i=> !cycP p i)&&allIdx (actOk p) 0 p.acts&&p.tabs.all (mayTabP p)):=by
      rw[HR3.out,List.all_eq_true.2 hall];rfl
     have HR4:=hD hR4;have HCC:Hid (∀ W (i:Nat),Below w.heap.size w W->i<s.sn->Calls Tryz.prog 38 #[.agg #[.slice s.hp s.hn s.hc, .slice s.mp s.mn s.mc, .slice s.sp s.sn s.sc, .slice s.ap s.an s.ac, .slice s.tp s.tn s.tc, .slice s.cp s.cn s.cc, .slice s.ep s.en s.ec, .slice s.v1 s.n1 s.c1, .slice s.v2 s.n2 s.c2, .slice s.v3 s.n3 s.c3, .slice s.v4 s.n4 s.c4, .slice s.v5 s.n5 s.c5], .int .i64 (i:Int)] W fun e w'=>e= .returned (.bool (cycP p i))/\Below W.heap.size W w'):=fun W i h hi=>HCY.out W i (HP.out.below h) hall (by have:=HL.out.1;omega)
     clear hR4 hall hbw;go_wp2_with fail;go_loopw [5] (fun i wr=>∃k:Nat,k<=s.sn/\i= .int .i64 k/\Hid (Below W0.heap.size W0 wr)/\Hid (∀ j,j<k->cycP p j=false)) (fun i _=>s.sn-(intOf i).toNat)
     case atStart=>exact ⟨0,Nat.zero_le _,rfl,HW.out,fun j hj=>absurd hj (by omega)⟩
     case round=>
      clear q0 q1 q2 q3 q4 q5 q6 q7 q8 q9 q10 q11;obtain ⟨k,hk2,rfl,HW2,HQ2⟩:=hrel;have hbw2:=HB0.out.trans (HW2.out.mono HB0.out.size);obtain ⟨q0,q1,q2,q3,q4,q5,q6,q7,q8,q9,q10,q11⟩:=(HPB.out.below HW2.out).cells;by_cases hlt2:k<s.sn
      ·obtain ⟨r,hr⟩:∃r,r=cycP p k:=⟨_,rfl⟩;have HC:=hD (HCC.out _ k hbw2 hlt2);rw[<- hr] at HC;have HX:=hD hr;clear hr;cases r
       ·go_wp2_with (go_at_call 38;refine HC.out.mono ?_;rintro e w9 ⟨rfl,hb9⟩;have HB9:=hD hb9;clear hb9);go_roundw
        case rel=>exact ⟨k+1,by omega,by go_num,HW2.out.trans (HB9.out.mono HW2.out.size),fun j hj=>by
         rcases Nat.lt_or_ge j k with h|h
         ·exact HQ2.out j h
         ·obtain rfl:j=k:=by omega
          exact HX.out.symm⟩
        case measure=>simp[intOf];omega
       ·have hr:R=false:=by
         rw[HR4.out,all_false (l:=List.range s.sn) (j:=k) (x:=k) (by rw[List.getElem?_range hlt2]) (by rw[<- HX.out];rfl)];rfl
        go_wp2_with (go_at_call 38;refine HC.out.mono ?_;rintro e w9 ⟨rfl,hb9⟩;have HB9:=hD hb9;clear hb9);go_ret;exact ⟨by first|rfl|(rw[hr];rfl),hbw2.trans (HB9.out.mono hbw2.size)⟩
      ·obtain rfl:k=s.sn:=by omega
       have hR5:R=(allIdx (actOk p) 0 p.acts&&p.tabs.all (mayTabP p)):=by
        rw[HR4.out,List.all_eq_true.2 fun i hi=>by rw[HQ2.out i (List.mem_range.1 hi)];rfl];rfl
       have HR5:=hD hR5;clear hR5 hbw2;go_wp2_with fail;go_loopw [6] (fun i wr=>∃k:Nat,k<=s.an/\i= .int .i64 k/\Hid (Below W0.heap.size W0 wr)/\Hid (∀ j a,j<k->p.acts[j]?=some a->actOk p j a=true)) (fun i _=>s.an-(intOf i).toNat)
       case atStart=>exact ⟨0,Nat.zero_le _,rfl,HW2.out,fun j _ hj=>absurd hj (by omega)⟩
       case round=>
        clear q0 q1 q2 q3 q4 q5 q6 q7 q8 q9 q10 q11;obtain ⟨k,hk3,rfl,HW3,HQ3⟩:=hrel;have hbw3:=HB0.out.trans (HW3.out.mono HB0.out.size);obtain ⟨q0,q1,q2,q3,q4,q5,q6,q7,q8,q9,q10,q11⟩:=(HPB.out.below HW3.out).cells;by_cases hlt3:k<s.an
        ·obtain ⟨a,ha⟩:∃a,p.acts[k]?=some a:=⟨_,List.getElem?_eq_getElem (by have:=HL.out.2.1;omega)⟩;have ham:=List.mem_of_getElem? ha;obtain ⟨ab,ao,p1,m1,k1,p2,m2,k2,hps,hab,y0,hy0,y1,hy1⟩:=ActnRow.el (HP.out.acts.below keepActn hbw3) (j:=k) (by have:=HL.out.2.1;omega);rw[getD_some ha] at hy0 hy1;obtain ⟨hm1,-,-,-⟩:=hy0.ln;have hm16:m1<=6000:=by have:=HS.out.params a ham;omega
         obtain ⟨ra,hra⟩:∃r,r=a.params.all okP:=⟨_,rfl⟩;obtain ⟨rb,hrb⟩:∃r,r=mayInstsP p (k:Int) a.body:=⟨_,rfl⟩;have hak:actOk p k a=(decide (m1<=8)&&ra&&rb):=by rw[hra,hrb,hm1];rfl
         have HWD:Hid (∀ W,Below wr.heap.size wr W->Calls Tryz.prog 34 #[.slice p1 m1 k1] W fun e w'=>e= .returned (.bool ra)/\Below W.heap.size W w'):=fun W h=>by rw[hra];exact widths10_any a.params _ _ _ W (hy0.below keepI h) (by omega)
         have HIB:Hid (∀ W,Below wr.heap.size wr W->Calls Tryz.prog 36 #[.agg #[.slice s.hp s.hn s.hc, .slice s.mp s.mn s.mc, .slice s.sp s.sn s.sc, .slice s.ap s.an s.ac, .slice s.tp s.tn s.tc, .slice s.cp s.cn s.cc, .slice s.ep s.en s.ec, .slice s.v1 s.n1 s.c1, .slice s.v2 s.n2 s.c2, .slice s.v3 s.n3 s.c3, .slice s.v4 s.n4 s.c4, .slice s.v5 s.n5 s.c5], .int .i64 (k:Int), .slice p2 m2 k2] W fun e w'=>e= .returned (.bool rb)/\Below W.heap.size W w'):=fun W h=>by
          rw[hrb];exact mayInsts_any s p (k:Int) a.body _ _ _ W (HP.out.below (hbw3.trans (h.mono hbw3.size))) HS.out (hy1.below keepIst h) (by have:=hy1.ln.1;have:=HS.out.body a ham;omega) (HS.out.bcode a ham)
         have HAK:=hD (And.intro ha hak);have HRF:Hid (actOk p k a=false->R=false):=fun h=>by
          rw[HR5.out];have:allIdx (actOk p) 0 p.acts=false:=by
           rw[Bool.eq_false_iff];intro hc;have:=(allIdx_iff.1 hc) k a ha;rw[Nat.zero_add,h] at this;cases this
          rw[this];rfl
         have hki:(k:Int)<(s.an:Int):=by omega
         rw[hps] at q3 HIB;have HPS:=hD hps;clear ha ham hy0 hy1 hm1 hra hrb hak hps;go_upto_region 20 with fail
         obtain ⟨W5,hW5⟩:∃W5,W5=wr.alloc (.cells #[.slice p1 m1 k1, .slice p2 m2 k2] 49):=⟨_,rfl⟩;have hb5:Below wr.heap.size wr W5:=by rw[hW5];exact (Below.refl _ _).alloc (Nat.le_refl _) _
         have hg5:W5.heap[wr.heap.size]?=some (.cells #[.slice p1 m1 k1, .slice p2 m2 k2] 49 (0,0)):=by rw[hW5];exact heap_new _ _
         rw[<- hW5];clear hW5 y0 y1 q0 q1 q2 q3 q4 q5 q6 q7 q8 q9 q10 q11;have HB5:=hD hb5;have HG5:=hD hg5;obtain ⟨q0,q1,q2,q3,q4,q5,q6,q7,q8,q9,q10,q11⟩:=(HPB.out.below (HW3.out.trans (hb5.mono HW3.out.size))).cells;rw[HPS.out] at q3;have d0:W5.cell? ⟨wr.heap.size,0,none⟩=some (.slice p1 m1 k1):=by simp[World.cell?,hg5]
         have d1:W5.cell? ⟨wr.heap.size,1,none⟩=some (.slice p2 m2 k2):=by simp[World.cell?,hg5]
         clear hb5 hg5;have HG:Hid (∀ W,Below W5.heap.size W5 W->(W.cell? ⟨w.heap.size,0,none⟩=some (.slice s.hp s.hn s.hc)/\W.cell? ⟨w.heap.size,1,none⟩=some (.slice s.mp s.mn s.mc)/\W.cell? ⟨w.heap.size,2,none⟩=some (.slice s.sp s.sn s.sc)/\W.cell? ⟨w.heap.size,3,none⟩=some (.slice s.ap s.an s.ac)/\W.cell? ⟨w.heap.size,4,none⟩=some (.slice s.tp s.tn s.tc)/\W.cell? ⟨w.heap.size,5,none⟩=some (.slice s.cp s.cn s.cc)/\W.cell? ⟨w.heap.size,6,none⟩=some (.slice s.ep s.en s.ec)/\W.cell? ⟨w.heap.size,7,none⟩=some (.slice s.v1 s.n1 s.c1)/\W.cell? ⟨w.heap.size,8,none⟩=some (.slice s.v2 s.n2 s.c2)/\W.cell? ⟨w.heap.size,9,none⟩=some (.slice s.v3 s.n3 s.c3)/\W.cell? ⟨w.heap.size,10,none⟩=some (.slice s.v4 s.n4 s.c4)/\W.cell? ⟨w.heap.size,11,none⟩=some (.slice s.v5 s.n5 s.c5))/\W.cell? ⟨wr.heap.size,0,none⟩=some (.slice p1 m1 k1)/\W.cell? ⟨wr.heap.size,1,none⟩=some (.slice p2 m2 k2)):=fun W h=>by
          have hb:=HB5.out.trans (h.mono HB5.out.size);have hg:=(h.block _ (Array.getElem?_eq_some_iff.1 HG5.out).1).trans HG5.out;exact ⟨(HPB.out.below (HW3.out.trans (hb.mono HW3.out.size))).cells,by simp[World.cell?,hg],by simp[World.cell?,hg]⟩
         rw[HPS.out] at HG;have hbw5:=hbw3.trans (HB5.out.mono hbw3.size);have HBW5:=hD hbw5;clear hbw5 hbw3;have hcs:8<(m1:Int)\/(¬ 8<(m1:Int)/\ra=false)\/(¬ 8<(m1:Int)/\ra=true/\rb=false)\/(¬ 8<(m1:Int)/\ra=true/\rb=true):=by
          cases ra<;>cases rb<;>simp<;>omega
         rcases hcs with e1|⟨e1,rfl⟩|⟨e1,rfl,rfl⟩|⟨e1,rfl,rfl⟩
         ·have hr:R=false:=HRF.out (by rw[HAK.out.2,decide_eq_false (by omega)];rfl);go_wp2_with fail;go_ret;exact ⟨by first|rfl|(rw[hr];rfl),HBW5.out⟩
         ·have hr:R=false:=HRF.out (by rw[HAK.out.2];simp);go_wp2_with (go_at_call 34;refine (HWD.out _ HB5.out).mono ?_;rintro e w6 ⟨rfl,hb6⟩;have HB6:=hD hb6;clear hb6);go_ret;exact ⟨by first|rfl|(rw[hr];rfl),HBW5.out.trans (HB6.out.mono HBW5.out.size)⟩
         ·have hr:R=false:=HRF.out (by rw[HAK.out.2];simp);go_wp2_with (first
           |(go_at_call 34;refine (HWD.out _ HB5.out).mono ?_;rintro e w6 ⟨rfl,hb6⟩;have HB6:=hD hb6;have hg:=HG.out _ hb6;obtain ⟨⟨q0,q1,q2,q3,q4,q5,q6,q7,q8,q9,q10,q11⟩,d0,d1⟩:=hg;clear hb6)
           |(go_at_call 36;refine (HIB.out _ (HB5.out.trans (HB6.out.mono HB5.out.size))).mono ?_;rintro e w7 ⟨rfl,hb7⟩;have HB7:Hid (Below W5.heap.size W5 w7):=HB6.out.trans (hb7.mono HB6.out.size);clear hb7))
          go_ret;exact ⟨by first|rfl|(rw[hr];rfl),HBW5.out.trans (HB7.out.mono HBW5.out.size)⟩
         ·go_wp2_with (first
           |(go_at_call 34;refine (HWD.out _ HB5.out).mono ?_;rintro e w6 ⟨rfl,hb6⟩;have HB6:=hD hb6;have hg:=HG.out _ hb6;obtain ⟨⟨q0,q1,q2,q3,q4,q5,q6,q7,q8,q9,q10,q11⟩,d0,d1⟩:=hg;clear hb6)
           |(go_at_call 36;refine (HIB.out _ (HB5.out.trans (HB6.out.mono HB5.out.size))).mono ?_;rintro e w7 ⟨rfl,hb7⟩;have HB7:Hid (Below W5.heap.size W5 w7):=HB6.out.trans (hb7.mono HB6.out.size);clear hb7))
          go_roundw
          case rel=>exact ⟨k+1,by omega,by go_num,(HW3.out.trans (HB5.out.mono HW3.out.size)).trans (HB7.out.mono (Nat.le_trans HW3.out.size HB5.out.size)),fun j y hj hy=>by
           rcases Nat.lt_or_ge j k with h|h
           ·exact HQ3.out j y h hy
           ·obtain rfl:j=k:=by omega
            rw[HAK.out.1] at hy;cases hy
            rw[HAK.out.2,decide_eq_true (by omega)];rfl⟩
          case measure=>simp[intOf];omega
        ·obtain rfl:k=s.an:=by omega
         have hR6:R=p.tabs.all (mayTabP p):=by
          rw[HR5.out,allIdx_iff.2 fun j a hj=>by
           rw[Nat.zero_add];exact HQ3.out j a (by have:=(List.getElem?_eq_some_iff.1 hj).1;have:=HL.out.2.1;omega) hj];rfl
         have HR6:=hD hR6;clear hR6 hbw3;go_wp2_with fail;go_loopw [8] (fun i wr=>∃k:Nat,k<=s.tn/\i= .int .i64 k/\Hid (Below W0.heap.size W0 wr)/\Hid (∀ j x,j<k->p.tabs[j]?=some x->mayTabP p x=true)) (fun i _=>s.tn-(intOf i).toNat)
         case atStart=>exact ⟨0,Nat.zero_le _,rfl,HW3.out,fun j _ hj=>absurd hj (by omega)⟩
         case round=>
          clear q0 q1 q2 q3 q4 q5 q6 q7 q8 q9 q10 q11;obtain ⟨k,hk4,rfl,HW,HQ⟩:=hrel;have hbw:=HB0.out.trans (HW.out.mono HB0.out.size);obtain ⟨q0,q1,q2,q3,q4,q5,q6,q7,q8,q9,q10,q11⟩:=(HPB.out.below HW.out).cells;by_cases hlt:k<s.tn
          ·obtain ⟨x,hx⟩:∃x,p.tabs[k]?=some x:=⟨_,List.getElem?_eq_getElem (by have:=HL.out.2.2;omega)⟩;have hxm:=List.mem_of_getElem? hx;obtain ⟨sb,so,hps,hsb,⟨kp,kn,kc,y0,hy0⟩,⟨up,un,uc,y1,hy1⟩,⟨lp,ln,lc,y2,hy2⟩,y3,⟨gp,gn,gc,y4,hy4⟩⟩:=(HP.out.tabs.below keepTbl hbw).get hx;obtain ⟨r,hr⟩:∃r,r=mayTabP p x:=⟨_,rfl⟩;obtain ⟨xt,hxt⟩:∃xt,xt=x.dact:=⟨_,rfl⟩;have HC:Hid (∀ W,Below wr.heap.size wr W->Calls Tryz.prog 39 #[.agg #[.slice s.hp s.hn s.hc, .slice s.mp s.mn s.mc, .slice s.sp s.sn s.sc, .slice s.ap s.an s.ac, .slice s.tp s.tn s.tc, .slice s.cp s.cn s.cc, .slice s.ep s.en s.ec, .slice s.v1 s.n1 s.c1, .slice s.v2 s.n2 s.c2, .slice s.v3 s.n3 s.c3, .slice s.v4 s.n4 s.c4, .slice s.v5 s.n5 s.c5], .agg #[.slice kp kn kc, .slice up un uc, .slice lp ln lc, .int .i64 xt, .slice gp gn gc]] W fun e w'=>e= .returned (.bool r)/\Below W.heap.size W w'):=fun W h=>by
            rw[hr,hxt];exact mayTab_any s p x kp kn kc up un uc lp ln lc gp gn gc W (HP.out.below (hbw.trans (h.mono hbw.size))) HS.out (hy0.below keepCs h) (hy1.below keepU h) (hy2.below keepI h) (hy4.below keepN h) (by have:=hy0.ln.1;have:=HS.out.tkeys x hxm;omega) (HS.out.tcode x hxm) (by have:=hy2.ln.1;have:=HS.out.tacts x hxm;omega) (by have:=hy4.ln.1;have:=HS.out.dargs x hxm;omega)
           rw[<- hxt] at y3;have HCE:Hid (∀ W,Below wr.heap.size wr W->(W.cell? ⟨w.heap.size,0,none⟩=some (.slice s.hp s.hn s.hc)/\W.cell? ⟨w.heap.size,1,none⟩=some (.slice s.mp s.mn s.mc)/\W.cell? ⟨w.heap.size,2,none⟩=some (.slice s.sp s.sn s.sc)/\W.cell? ⟨w.heap.size,3,none⟩=some (.slice s.ap s.an s.ac)/\W.cell? ⟨w.heap.size,4,none⟩=some (.slice s.tp s.tn s.tc)/\W.cell? ⟨w.heap.size,5,none⟩=some (.slice s.cp s.cn s.cc)/\W.cell? ⟨w.heap.size,6,none⟩=some (.slice s.ep s.en s.ec)/\W.cell? ⟨w.heap.size,7,none⟩=some (.slice s.v1 s.n1 s.c1)/\W.cell? ⟨w.heap.size,8,none⟩=some (.slice s.v2 s.n2 s.c2)/\W.cell? ⟨w.heap.size,9,none⟩=some (.slice s.v3 s.n3 s.c3)/\W.cell? ⟨w.heap.size,10,none⟩=some (.slice s.v4 s.n4 s.c4)/\W.cell? ⟨w.heap.size,11,none⟩=some (.slice s.v5 s.n5 s.c5))/\W.cell? ⟨sb,so+k*5,none⟩=some (.slice kp kn kc)/\W.cell? ⟨sb,so+k*5+1,none⟩=some (.slice up un uc)/\W.cell? ⟨sb,so+k*5+2,none⟩=some (.slice lp ln lc)/\W.cell? ⟨sb,so+k*5+3,none⟩=some (.int .i64 xt)/\W.cell? ⟨sb,so+k*5+4,none⟩=some (.slice gp gn gc)):=fun W h=>
            ⟨(HPB.out.below (HW.out.trans (h.mono HW.out.size))).cells,(h.cell (p:=⟨sb,so+k*5,none⟩) hsb).trans y0,(h.cell (p:=⟨sb,so+k*5+1,none⟩) hsb).trans y1,(h.cell (p:=⟨sb,so+k*5+2,none⟩) hsb).trans y2,(h.cell (p:=⟨sb,so+k*5+3,none⟩) hsb).trans y3,(h.cell (p:=⟨sb,so+k*5+4,none⟩) hsb).trans y4⟩
           have HX:=hD (And.intro hx hr);rw[hps] at HC HCE q4;have hki:(k:Int)<(s.tn:Int):=by omega
           clear hx hxm hr hxt y0 y1 y2 y3 y4 hy0 hy1 hy2 hy4 hps;go_upto_region 25 with fail
           clear q0 q1 q2 q3 q4 q5 q6 q7 q8 q9 q10 q11;cases r
           ·have hr:R=false:=by rw[HR6.out,all_false HX.out.1 HX.out.2.symm]
            refine roB wr ?_;refine stq ?_ (fun aa ww ll hh=>?_) ?_;rotate_left
            ·have e1:=hh.oL 1;obtain ⟨⟨q0,q1,q2,q3,q4,q5,q6,q7,q8,q9,q10,q11⟩,x0,x1,x2,x3,x4⟩:=HCE.out ww hh.inv;exact ov gX
            refine stq ?_ (fun aa ww ll hh=>?_) ?_;rotate_left
            ·have e1:=hh.oL 1;exact ov gX
            refine stq ?_ (fun aa ww ll hh=>?_) ?_;rotate_left
            ·have e154:=hh.gt 1 0;obtain ⟨⟨q0,q1,q2,q3,q4,q5,q6,q7,q8,q9,q10,q11⟩,x0,x1,x2,x3,x4⟩:=HCE.out ww hh.inv;exact ov gX
            refine stq ?_ (fun aa ww ll hh=>?_) ?_;rotate_left
            ·have e8:=hh.oL 8;refine ov ?_;rw[xmv e8]
            refine stq ?_ (fun aa ww ll hh=>?_) ?_;rotate_left
            ·have e155:=hh.gt 2 1;have e156:=hh.gt 3 0;exact ov gX
            refine stq ?_ (fun aa ww ll hh=>?_) ?_;rotate_left
            ·have e157:=hh.gt 4 0;obtain ⟨⟨q0,q1,q2,q3,q4,q5,q6,q7,q8,q9,q10,q11⟩,x0,x1,x2,x3,x4⟩:=HCE.out ww hh.inv;exact ov gX
            refine ⟨.eq (.bool false),trivial,rfl,fun aa ww ll hh=>?_,?_⟩
            ·have e153:=hh.gt 0 5;have e158:=hh.gt 5 0;have ef:=evf aa;refine out_call_eq (wanted_none rfl) ?_ (HC.out ww hh.inv);exact gX
            refine stq ?_ (fun aa ww ll hh=>?_) ?_;rotate_left
            ·have e159:=hh.gt 6 0;exact ov gX
            intro ll w9 hS hok;clear hok;simp only[List.reverse_cons,List.reverse_nil,List.nil_append,List.cons_append,layO,Out.val,Act.put,List.setIfInBounds_toArray,List.set_cons_zero,List.set_cons_succ];go_wp2_with fail;go_ret;exact ⟨by first|rfl|(rw[hr];rfl),hbw.trans (hS.mono hbw.size)⟩
           ·skip;refine roB wr ?_;refine stq ?_ (fun aa ww ll hh=>?_) ?_;rotate_left
            ·have e1:=hh.oL 1;obtain ⟨⟨q0,q1,q2,q3,q4,q5,q6,q7,q8,q9,q10,q11⟩,x0,x1,x2,x3,x4⟩:=HCE.out ww hh.inv;exact ov gX
            refine stq ?_ (fun aa ww ll hh=>?_) ?_;rotate_left
            ·have e1:=hh.oL 1;exact ov gX
            refine stq ?_ (fun aa ww ll hh=>?_) ?_;rotate_left
            ·have e154:=hh.gt 1 0;obtain ⟨⟨q0,q1,q2,q3,q4,q5,q6,q7,q8,q9,q10,q11⟩,x0,x1,x2,x3,x4⟩:=HCE.out ww hh.inv;exact ov gX
            refine stq ?_ (fun aa ww ll hh=>?_) ?_;rotate_left
            ·have e8:=hh.oL 8;refine ov ?_;rw[xmv e8]
            refine stq ?_ (fun aa ww ll hh=>?_) ?_;rotate_left
            ·have e155:=hh.gt 2 1;have e156:=hh.gt 3 0;exact ov gX
            refine stq ?_ (fun aa ww ll hh=>?_) ?_;rotate_left
            ·have e157:=hh.gt 4 0;obtain ⟨⟨q0,q1,q2,q3,q4,q5,q6,q7,q8,q9,q10,q11⟩,x0,x1,x2,x3,x4⟩:=HCE.out ww hh.inv;exact ov gX
            refine ⟨.eq (.bool true),trivial,rfl,fun aa ww ll hh=>?_,?_⟩
            ·have e153:=hh.gt 0 5;have e158:=hh.gt 5 0;have ef:=evf aa;refine out_call_eq (wanted_none rfl) ?_ (HC.out ww hh.inv);exact gX
            refine stq ?_ (fun aa ww ll hh=>?_) ?_;rotate_left
            ·have e159:=hh.gt 6 0;exact ov gX
            intro ll w9 hS hok;clear hok;simp only[List.reverse_cons,List.reverse_nil,List.nil_append,List.cons_append,layO,Out.val,Act.put,List.setIfInBounds_toArray,List.set_cons_zero,List.set_cons_succ];go_wp2_with fail;go_roundw
            case rel=>exact ⟨k+1,by omega,by go_num,HW.out.trans (hS.mono HW.out.size),fun j y hj hy=>by
             rcases Nat.lt_or_ge j k with h|h
             ·exact HQ.out j y h hy
             ·obtain rfl:j=k:=by omega
              rw[HX.out.1] at hy;cases hy;exact HX.out.2.symm⟩
            case measure=>simp[intOf];omega
          ·obtain rfl:k=s.tn:=by omega
           have hr:R=true:=by
            rw[HR6.out];exact all_true fun j x hj=>HQ.out j x (by have:=(List.getElem?_eq_some_iff.1 hj).1;have:=HL.out.2.2;omega) hj
           go_wp2_with fail;go_ret;exact ⟨by first|rfl|(rw[hr];rfl),hbw⟩
  ·have hr:R=false:=by
    rw[HR.out];by_cases h1:1<=s.sn/\s.sn<=16/\s.an<=16/\s.tn<=8
    ·cases rl
     ·simp
     ·cases ri
      ·simp
      ·exact absurd ⟨h1,rfl,rfl⟩ hC
    ·rw[decide_eq_false h1];simp
   have hcs:(s.sn:Int)<1\/(¬ (s.sn:Int)<1/\16<(s.sn:Int))\/(¬ (s.sn:Int)<1/\¬16<(s.sn:Int)/\16<(s.an:Int))\/(¬ (s.sn:Int)<1/\¬16<(s.sn:Int)/\¬16<(s.an:Int)/\8<(s.tn:Int))\/(¬ (s.sn:Int)<1/\¬16<(s.sn:Int)/\¬16<(s.an:Int)/\¬8<(s.tn:Int)/\rl=false)\/(¬ (s.sn:Int)<1/\¬16<(s.sn:Int)/\¬16<(s.an:Int)/\¬8<(s.tn:Int)/\rl=true/\ri=false):=by
    cases rl<;>cases ri<;>simp at hC⊢<;>omega
   rcases hcs with g1|⟨g1,g2⟩|⟨g1,g2,g3⟩|⟨g1,g2,g3,g4⟩|⟨g1,g2,g3,g4,rfl⟩|⟨g1,g2,g3,g4,rfl,rfl⟩
   all_goals
    go_wp2_with (first
   |(go_at_call 33;refine (HHE.out _ (HB0.out.trans (HZ0.out.mono HB0.out.size))).mono ?_;rintro e w1 ⟨rfl,hb1⟩;have HZ1:Hid (Below W0.heap.size W0 w1):=HZ0.out.trans (hb1.mono HZ0.out.size);have pb1:=(HPB.out.below HZ1.out).cells;obtain ⟨q0,q1,q2,q3,q4,q5,q6,q7,q8,q9,q10,q11⟩:=pb1;have nb1:=(HNB.out.below HZ1.out).cells;obtain ⟨n0,n1,n2,n3,n4⟩:=nb1;clear hb1)
   |(go_at_call 34;refine (HWI.out _ (HB0.out.trans (HZ1.out.mono HB0.out.size))).mono ?_;rintro e w2 ⟨rfl,hb2⟩;have HZ2:Hid (Below W0.heap.size W0 w2):=HZ1.out.trans (hb2.mono HZ1.out.size);have pb2:=(HPB.out.below HZ2.out).cells;obtain ⟨q0,q1,q2,q3,q4,q5,q6,q7,q8,q9,q10,q11⟩:=pb2;have nb2:=(HNB.out.below HZ2.out).cells;obtain ⟨n0,n1,n2,n3,n4⟩:=nb2;clear hb2)
   |(go_at_call 35;refine (HLI.out _ (HB0.out.trans (HZ2.out.mono HB0.out.size))).mono ?_;rintro e w3 ⟨rfl,hb3⟩;have HZ3:Hid (Below W0.heap.size W0 w3):=HZ2.out.trans (hb3.mono HZ2.out.size);have pb3:=(HPB.out.below HZ3.out).cells;obtain ⟨q0,q1,q2,q3,q4,q5,q6,q7,q8,q9,q10,q11⟩:=pb3;have nb3:=(HNB.out.below HZ3.out).cells;obtain ⟨n0,n1,n2,n3,n4⟩:=nb3;clear hb3)
   |(go_at_call 36;refine (HIN.out _ (HB0.out.trans (HZ3.out.mono HB0.out.size))).mono ?_;rintro e w4 ⟨rfl,hb4⟩;have HZ4:Hid (Below W0.heap.size W0 w4):=HZ3.out.trans (hb4.mono HZ3.out.size);have pb4:=(HPB.out.below HZ4.out).cells;obtain ⟨q0,q1,q2,q3,q4,q5,q6,q7,q8,q9,q10,q11⟩:=pb4;have nb4:=(HNB.out.below HZ4.out).cells;obtain ⟨n0,n1,n2,n3,n4⟩:=nb4;clear hb4))
    go_ret;exact ⟨by first|rfl|(rw[hr];rfl),(by first|exact HB0.out|exact HB0.out.trans (HZ1.out.mono HB0.out.size)|exact HB0.out.trans (HZ2.out.mono HB0.out.size)|exact HB0.out.trans (HZ3.out.mono HB0.out.size)|exact HB0.out.trans (HZ4.out.mono HB0.out.size))⟩
 ·have hr:R=false:=by
   rw[HR.out];by_cases h1:s.mn<=16
   ·by_cases h2:s.n3=s.mn/\s.n4=s.an/\s.n5=s.tn
    ·cases rh
     ·simp
     ·cases rw'
      ·simp
      ·exact absurd ⟨rfl,h1,rfl,h2⟩ hA
    ·rw[decide_eq_false h2];simp
   ·rw[decide_eq_false h1];simp
  have hcs:rh=false\/(rh=true/\16<(s.mn:Int))\/(rh=true/\¬16<(s.mn:Int)/\rw'=false)\/(rh=true/\¬16<(s.mn:Int)/\rw'=true/\¬(s.n3:Int)=(s.mn:Int))\/(rh=true/\¬16<(s.mn:Int)/\rw'=true/\(s.n3:Int)=(s.mn:Int)/\¬(s.n4:Int)=(s.an:Int))\/(rh=true/\¬16<(s.mn:Int)/\rw'=true/\(s.n3:Int)=(s.mn:Int)/\(s.n4:Int)=(s.an:Int)/\¬(s.n5:Int)=(s.tn:Int)):=by
   cases rh<;>cases rw'<;>simp at hA⊢<;>omega
  rcases hcs with rfl|⟨rfl,g2⟩|⟨rfl,g2,rfl⟩|⟨rfl,g2,rfl,g4⟩|⟨rfl,g2,rfl,g4,g5⟩|⟨rfl,g2,rfl,g4,g5,g6⟩
  all_goals
   try have g7:((s.n3:Int)!=(s.mn:Int))=true:=bne_iff_ne.2 (by assumption)
   try have g8:((s.n4:Int)!=(s.an:Int))=true:=bne_iff_ne.2 (by assumption)
   try have g9:((s.n5:Int)!=(s.tn:Int))=true:=bne_iff_ne.2 (by assumption)
   go_wp2_with (first
   |(go_at_call 33;refine (HHE.out _ (HB0.out.trans (HZ0.out.mono HB0.out.size))).mono ?_;rintro e w1 ⟨rfl,hb1⟩;have HZ1:Hid (Below W0.heap.size W0 w1):=HZ0.out.trans (hb1.mono HZ0.out.size);have pb1:=(HPB.out.below HZ1.out).cells;obtain ⟨q0,q1,q2,q3,q4,q5,q6,q7,q8,q9,q10,q11⟩:=pb1;have nb1:=(HNB.out.below HZ1.out).cells;obtain ⟨n0,n1,n2,n3,n4⟩:=nb1;clear hb1)
   |(go_at_call 34;refine (HWI.out _ (HB0.out.trans (HZ1.out.mono HB0.out.size))).mono ?_;rintro e w2 ⟨rfl,hb2⟩;have HZ2:Hid (Below W0.heap.size W0 w2):=HZ1.out.trans (hb2.mono HZ1.out.size);have pb2:=(HPB.out.below HZ2.out).cells;obtain ⟨q0,q1,q2,q3,q4,q5,q6,q7,q8,q9,q10,q11⟩:=pb2;have nb2:=(HNB.out.below HZ2.out).cells;obtain ⟨n0,n1,n2,n3,n4⟩:=nb2;clear hb2)
   |(go_at_call 35;refine (HLI.out _ (HB0.out.trans (HZ2.out.mono HB0.out.size))).mono ?_;rintro e w3 ⟨rfl,hb3⟩;have HZ3:Hid (Below W0.heap.size W0 w3):=HZ2.out.trans (hb3.mono HZ2.out.size);have pb3:=(HPB.out.below HZ3.out).cells;obtain ⟨q0,q1,q2,q3,q4,q5,q6,q7,q8,q9,q10,q11⟩:=pb3;have nb3:=(HNB.out.below HZ3.out).cells;obtain ⟨n0,n1,n2,n3,n4⟩:=nb3;clear hb3)
   |(go_at_call 36;refine (HIN.out _ (HB0.out.trans (HZ3.out.mono HB0.out.size))).mono ?_;rintro e w4 ⟨rfl,hb4⟩;have HZ4:Hid (Below W0.heap.size W0 w4):=HZ3.out.trans (hb4.mono HZ3.out.size);have pb4:=(HPB.out.below HZ4.out).cells;obtain ⟨q0,q1,q2,q3,q4,q5,q6,q7,q8,q9,q10,q11⟩:=pb4;have nb4:=(HNB.out.below HZ4.out).cells;obtain ⟨n0,n1,n2,n3,n4⟩:=nb4;clear hb4))
   go_ret;exact ⟨by first|rfl|(rw[hr];rfl),(by first|exact HB0.out|exact HB0.out.trans (HZ1.out.mono HB0.out.size)|exact HB0.out.trans (HZ2.out.mono HB0.out.size)|exact HB0.out.trans (HZ3.out.mono HB0.out.size)|exact HB0.out.trans (HZ4.out.mono HB0.out.size))⟩
open Go.RowKit
def bitB (n:Nat) (i:Int):Bool:=decide (0<=i)&&decide (i<128)&&n.testBit i.toNat
theorem newRow {w:World} (f:Nat->Bool):((w.alloc (.cells Tryz.zeroCells114 114)).setRow w.heap.size (rowA f)).heap[w.heap.size]?=some (.cells (rowA f) 114 (0,0))/\
 Below w.heap.size w ((w.alloc (.cells Tryz.zeroCells114 114)).setRow w.heap.size (rowA f)):=
 ⟨setRow_heap _ _ _ _ _ _ (heap_new _ _),below_setRow ((Below.refl _ _).alloc (Nat.le_refl _) _) (Nat.le_refl _) _⟩
theorem refBit_any (n:Nat) (i:Int) (hn:n<B*B) (w:World):
 Calls Tryz.prog 88 #[numV n, .int .i64 i] w fun e w'=>e= .returned (.bool (bitB n i))/\Below w.heap.size w w':=by
 obtain ⟨f,hf⟩:∃f,f=n.testBit:=⟨_,rfl⟩;have HA:Hid (∀ W,Calls Tryz.prog 52 #[numV n] W fun e w'=>e= .returned (.agg (rowA f))/\Below W.heap.size W w'):=fun W=>by rw[hf];exact refBits_any n hn W
 have HF:=hD hf;obtain ⟨h1,l1,e1,-,-⟩:=numV_parts n;rw[e1] at HA⊢;clear e1 hf;go_enter Tryz.func88,Tryz.ntmps88;go_wp2_with fail;refine (HA.out _).mono ?_;rintro e w1 ⟨rfl,hb1⟩;have HB1:Hid (Below w.heap.size w w1):=((Below.refl w.heap.size w).alloc (Nat.le_refl _) _).trans (hb1.mono (by simp));have hs1:=HB1.out.size;have HNW:=hD (heap_new w1 (.cells Tryz.zeroCells114 114));obtain ⟨n1,n2⟩:=newRow (w:=w1) f;have HN1:=hD n1;have HB2:Hid (Below w.heap.size w ((w1.alloc (.cells Tryz.zeroCells114 114)).setRow w1.heap.size (rowA f))):=HB1.out.trans (n2.mono hs1);have HZS:Hid ((Tryz.zeroCells114).size=128):=by
  show _=_;have hZ:Tryz.zeroCells114=rowA fun _=>false:=by kernel_rfl
  rw[hZ];exact rowA_size _
 clear hb1 HA n1 n2;by_cases h0:i<0
 ·have HE:Hid (bitB n i=false):=by show _=_;unfold bitB;simp;omega
  have h0':decide (0<=i)=false:=by simp;omega
  go_wp2_with (refine wpList_store_row rfl 114 (.tmp 5) (.tmp 7) rfl w1.heap.size (rowA f) rfl rfl 114 _ HNW.out (by rw[rowA_size];exact infoRow) (by rw[rowA_size];exact HZS.out) (rowA_one _) ?_);go_ret;exact ⟨by rw[HE.out];rfl,HB2.out⟩
 ·by_cases h1:128<=i
  ·have HE:Hid (bitB n i=false):=by show _=_;unfold bitB;simp;omega
   go_wp2_with (refine wpList_store_row rfl 114 (.tmp 5) (.tmp 7) rfl w1.heap.size (rowA f) rfl rfl 114 _ HNW.out (by rw[rowA_size];exact infoRow) (by rw[rowA_size];exact HZS.out) (rowA_one _) ?_);go_ret;exact ⟨by rw[HE.out];rfl,HB2.out⟩
  ·obtain ⟨j,rfl⟩:∃j:Nat,i=(j:Int):=⟨i.toNat,by omega⟩;have hj:j<128:=by omega
   have hcell:((w1.alloc (.cells Tryz.zeroCells114 114)).setRow w1.heap.size (rowA f)).cell? ⟨w1.heap.size,j,none⟩=some (.bool (f j)):=by rw[cell_of_row _ _ j _ _ _ HN1.out];exact rowA_at _ j hj
   have HE:Hid (bitB n (j:Int)=f j):=by show _=_;unfold bitB;rw[HF.out];simp;omega
   go_wp2_with (refine wpList_store_row rfl 114 (.tmp 5) (.tmp 7) rfl w1.heap.size (rowA f) rfl rfl 114 _ HNW.out (by rw[rowA_size];exact infoRow) (by rw[rowA_size];exact HZS.out) (rowA_one _) ?_);go_ret;exact ⟨by rw[HE.out];rfl,HB2.out⟩
end Go.Proofs.YtjfhfaodbjecdaaGreat
