/- Lemmas. -/
import Derived.Test.YtikilcbpogfgkaaGreatJI11
set_option maxHeartbeats 12800000
set_option maxRecDepth 100000
namespace Go.Proofs.YtikilcbpogfgkaaGreat
open Go.RowKit
def NmBox (w:World) (g:Nat) (s:PgS):Prop:=w.heap[g]?=some (.cells #[.slice s.v1 s.n1 s.c1, .slice s.v2 s.n2 s.c2, .slice s.v3 s.n3 s.c3, .slice s.v4 s.n4 s.c4, .slice s.v5 s.n5 s.c5] 31 (0,0))
theorem NmBox.cells {w:World} {g:Nat} {s:PgS} (h:NmBox w g s):w.cell? ⟨g,0,none⟩=some (.slice s.v1 s.n1 s.c1)/\w.cell? ⟨g,1,none⟩=some (.slice s.v2 s.n2 s.c2)/\w.cell? ⟨g,2,none⟩=some (.slice s.v3 s.n3 s.c3)/\w.cell? ⟨g,3,none⟩=some (.slice s.v4 s.n4 s.c4)/\w.cell? ⟨g,4,none⟩=some (.slice s.v5 s.n5 s.c5):=by
 unfold NmBox at h;exact gQ3
theorem NmBox.below {w w':World} {g:Nat} {s:PgS} (h:NmBox w g s) (hb:Bl w w'):NmBox w' g s:=(hb.block g (gA_ h).1).trans h
def actOk (p:Prg) (i:Nat) (a:Actn):Bool:=decide (a.params.length<=8)&&a.params.all okP&&mayInstsP p (i:Int) a.body
theorem mayP_eq (p:Prg):mayP p=(headsP p&&decide (p.metas.length<=16)&&p.metas.all okP&&decide (p.nm.length=p.metas.length/\p.na.length=p.acts.length/\p.nt.length=p.tabs.length)&&
 decide (1<=p.steps.length/\p.steps.length<=16/\p.acts.length<=16/\p.tabs.length<=8)&&listsP (p.heads.length:Int) [] p.emit&&mayInstsP p (-1) p.ctl&&
 p.steps.all (mayStepP p)&&(List.range p.steps.length).all (fun i=> !cycP p i)&&allIdx (actOk p) 0 p.acts&&p.tabs.all (mayTabP p)):=rfl
theorem may_any (s:PgS) (p:Prg) (w:World) (hp:PgOk w s p) (hS:Sm p)
 (hcyc:∀(W:World) (i:Nat),PgOk W s p->(∀ x∈p.steps,mayStepP p x=true)->i<p.steps.length->CR 52 #[pgV s, .int .i64 (i:Int)] W (.bool (cycP p i))):
 Calls Tryz.prog 20 #[pgV s] w fun e w'=>e= .returned (.bool (mayP p))/\Bl w w':=by
 obtain ⟨R,hR⟩:=nm (mayP p);rw[<- hR];obtain ⟨hd1,-,-,-⟩:=hp.heads.ln;obtain ⟨hm1,hm2,hm3,-⟩:=hp.metas.ln;obtain ⟨hs1,-,-,-⟩:=hp.steps.ln;obtain ⟨ha1,-,-,-⟩:=hp.acts.ln;obtain ⟨ht1,-,-,-⟩:=hp.tabs.ln;obtain ⟨hx3,-,-,-⟩:=hp.nm.ln;obtain ⟨hx4,-,-,-⟩:=hp.na.ln;obtain ⟨hx5,-,-,-⟩:=hp.nt.ln;obtain ⟨he1,-,-,-⟩:=hp.emit.ln;obtain ⟨hc1,-,-,-⟩:=hp.ctl.ln;obtain ⟨rh,hrh⟩:=nm (headsP p);obtain ⟨rw',hrw⟩:∃r,r=p.metas.all okP:=⟨_,rfl⟩;obtain ⟨rl,hrl⟩:=nm (listsP (p.heads.length:Int) [] p.emit);obtain ⟨ri,hri⟩:=nm (mayInstsP p (-1) p.ctl);have hR2:R=(rh&&decide (s.mn<=16)&&rw'&&decide (s.n3=s.mn/\s.n4=s.an/\s.n5=s.tn)&&decide (1<=s.sn/\s.sn<=16/\s.an<=16/\s.tn<=8)&&rl&&ri&&p.steps.all (mayStepP p)&&(List.range s.sn).all (fun i=> !cycP p i)&&allIdx (actOk p) 0 p.acts&&p.tabs.all (mayTabP p)):=by
  rw[hR,mayP_eq,hrh,hrw,hrl,hri,hm1,hx3,hx4,hx5,hs1,ha1,ht1]
 have HR:=hD hR2;have HHE:Hd (∀ W,Bl w W->CR 47 #[pgV s] W (.bool rh)):=fun W h=>by rw[hrh];exact heads_any s p W (hp.below h) hS
 have HWI:Hd (∀ W,Bl w W->CR 48 #[.slice s.mp s.mn s.mc] W (.bool rw')):=fun W h=>by rw[hrw];exact widths10_any p.metas _ _ _ W (hp.metas.below keepI h) (by have:=hS.metas;omega)
 have HLI:Hd (∀ W,Bl w W->CR 49 #[.slice s.ep s.en s.ec, .int .i64 (s.hn:Int)] W (.bool rl)):=fun W h=>by rw[hrl, <-hd1];exact lists_any p.emit _ _ _ _ W (hp.emit.below keepI h) (by have:=hS.emit;omega)
 have HIN:Hd (∀ W,Bl w W->CR 50 #[pgV s, .int .i64 (-1), .slice s.cp s.cn s.cc] W (.bool ri)):=fun W h=>by rw[hri];exact mayInsts_any s p (-1) p.ctl _ _ _ W (hp.below h) hS (hp.ctl.below keepIst h) (by have:=hS.ctl;omega) hS.ccode
 have HP:=hD hp;have HS:=hD hS;have HCY:=hD hcyc;have HL:=hD (And.intro hs1 (And.intro ha1 ht1));clear hR hR2 hrh hrw hrl hri hp hS hcyc hd1 hm1 hs1 ha1 ht1 hx3 hx4 hx5 he1 hc1;unfold pgV at HHE HIN⊢;go_enter Tryz.func20,Tryz.ntmps20;go_upto_region 2 with fail;obtain ⟨W0,hW0⟩:=nm ((w.alloc (.cells (pA s) 33)).alloc (.cells #[.slice s.v1 s.n1 s.c1, .slice s.v2 s.n2 s.c2, .slice s.v3 s.n3 s.c3, .slice s.v4 s.n4 s.c4, .slice s.v5 s.n5 s.c5] 31));have HB0:Hd (Bl w W0):=by show Below _ _ _;rw[hW0];exact bL
 have HPB:Hd (PBox W0 w.heap.size s):=by show _=_;rw[hW0,Below.heap_alloc _ _ _ sm];exact heap_new _ _
 have HNB:Hd (NmBox W0 (w.heap.size+1) s):=by
  exact gZ
 rw[<- hW0];clear hW0;have HZ0:Hd (Bl W0 W0):=Below.refl _ _;obtain ⟨q0,q1,q2,q3,q4,q5,q6,q7,q8,q9,q10,q11⟩:=HPB.o.cells;obtain ⟨n0,n1,n2,n3,n4⟩:=HNB.o.cells;by_cases hA:rh=true/\s.mn<=16/\rw'=true/\s.n3=s.mn/\s.n4=s.an/\s.n5=s.tn
 ·obtain ⟨rfl,a2,rfl,a4,a5,a6⟩:=hA;have HA:=hD (And.intro a2 (And.intro a4 (And.intro a5 a6)));have b2:¬16<(s.mn:Int):=om;have b4:(s.n3:Int)=(s.mn:Int):=om;have b5:(s.n4:Int)=(s.an:Int):=om;have b6:(s.n5:Int)=(s.tn:Int):=om;clear a2 a4 a5 a6;by_cases hC:(1<=s.sn/\s.sn<=16/\s.an<=16/\s.tn<=8)/\rl=true/\ri=true
  ·obtain ⟨⟨c1,c2,c3,c4⟩,rfl,rfl⟩:=hC;have hR3:R=(p.steps.all (mayStepP p)&&(List.range s.sn).all (fun i=> !cycP p i)&&allIdx (actOk p) 0 p.acts&&p.tabs.all (mayTabP p)):=by
    obtain ⟨x1,x2,x3,x4⟩:=HA.o;rw[HR.o,decide_eq_true x1,decide_eq_true ⟨x2,x3,x4⟩,decide_eq_true ⟨c1,c2,c3,c4⟩];rfl
   have HR3:=hD hR3;have g1:¬(s.sn:Int)<1:=om;have g2:¬16<(s.sn:Int):=om;have g3:¬16<(s.an:Int):=om;have g4:¬8<(s.tn:Int):=om;clear hR3;go_upto_region 6 with (first
   |(go_at_call 47;refine (HHE.o _ (HB0.o.trans (HZ0.o.mono HB0.o.size))).mono ?_;rintro e w1 ⟨rfl,hb1⟩;have HZ1:=hD (HZ0.o.trans (hb1.mono HZ0.o.size));have pb1:=(HPB.o.below HZ1.o).cells;obtain ⟨q0,q1,q2,q3,q4,q5,q6,q7,q8,q9,q10,q11⟩:=pb1;have nb1:=(HNB.o.below HZ1.o).cells;obtain ⟨n0,n1,n2,n3,n4⟩:=nb1;clear hb1)
   |(go_at_call 48;refine (HWI.o _ (HB0.o.trans (HZ1.o.mono HB0.o.size))).mono ?_;rintro e w2 ⟨rfl,hb2⟩;have HZ2:=hD (HZ1.o.trans (hb2.mono HZ1.o.size));have pb2:=(HPB.o.below HZ2.o).cells;obtain ⟨q0,q1,q2,q3,q4,q5,q6,q7,q8,q9,q10,q11⟩:=pb2;have nb2:=(HNB.o.below HZ2.o).cells;obtain ⟨n0,n1,n2,n3,n4⟩:=nb2;clear hb2)
   |(go_at_call 49;refine (HLI.o _ (HB0.o.trans (HZ2.o.mono HB0.o.size))).mono ?_;rintro e w3 ⟨rfl,hb3⟩;have HZ3:=hD (HZ2.o.trans (hb3.mono HZ2.o.size));have pb3:=(HPB.o.below HZ3.o).cells;obtain ⟨q0,q1,q2,q3,q4,q5,q6,q7,q8,q9,q10,q11⟩:=pb3;have nb3:=(HNB.o.below HZ3.o).cells;obtain ⟨n0,n1,n2,n3,n4⟩:=nb3;clear hb3)
   |(go_at_call 50;refine (HIN.o _ (HB0.o.trans (HZ3.o.mono HB0.o.size))).mono ?_;rintro e w4 ⟨rfl,hb4⟩;have HZ4:=hD (HZ3.o.trans (hb4.mono HZ3.o.size));have pb4:=(HPB.o.below HZ4.o).cells;obtain ⟨q0,q1,q2,q3,q4,q5,q6,q7,q8,q9,q10,q11⟩:=pb4;have nb4:=(HNB.o.below HZ4.o).cells;obtain ⟨n0,n1,n2,n3,n4⟩:=nb4;clear hb4))
   clear q0 q1 q2 q3 q4 q5 q6 q7 q8 q9 q10 q11 n0 n1 n2 n3 n4;go_wp2_with fail;go_loopw [4] (fun i wr=>∃k:Nat,k<=s.sn/\i= .int .i64 k/\Hd (Bl W0 wr)/\Hd (∀ j x,j<k->p.steps[j]?=some x->mayStepP p x=true)) (fun i _=>s.sn-(intOf i).toNat)
   case atStart=>exact ⟨0,zl,rfl,HZ4.o,fun j _ hj=>absurd hj om⟩
   case round=>
    obtain ⟨k,hk,rfl,HW,HQ⟩:=hrel;have hbw:=HB0.o.trans (HW.o.mono HB0.o.size);obtain ⟨q0,q1,q2,q3,q4,q5,q6,q7,q8,q9,q10,q11⟩:=(HPB.o.below HW.o).cells;by_cases hlt:k<s.sn
    ·obtain ⟨x,hx⟩:∃x,p.steps[k]?=some x:=⟨_,gE_ (by have:=HL.o.1;omega)⟩;have hxm:=gM_ hx;obtain ⟨sb,so,hps,hsb,⟨tp,tn,tc,y0,hy0⟩,⟨kp,kn,kc,y1,hy1⟩,⟨bp,bn,bc,y2,hy2⟩,y3⟩:=(HP.o.steps.below keepStp hbw).get hx;obtain ⟨r,hr⟩:=nm (mayStepP p x);obtain ⟨xt,hxt⟩:=nm x.to;have HC:Hd (∀ W,Bl wr W->CR 51 #[.agg #[.slice s.hp s.hn s.hc, .slice s.mp s.mn s.mc, .slice s.sp s.sn s.sc, .slice s.ap s.an s.ac, .slice s.tp s.tn s.tc, .slice s.cp s.cn s.cc, .slice s.ep s.en s.ec, .slice s.v1 s.n1 s.c1, .slice s.v2 s.n2 s.c2, .slice s.v3 s.n3 s.c3, .slice s.v4 s.n4 s.c4, .slice s.v5 s.n5 s.c5], .agg #[.slice tp tn tc, .slice kp kn kc, .slice bp bn bc, .int .i64 xt]] W (.bool r)):=fun W h=>by
      rw[hr,hxt];exact mayStep_any s p x tp tn tc kp kn kc bp bn bc W (HP.o.below (hbw.trans (h.mono hbw.size))) HS.o (hy0.below keepI h) (hy1.below keepCs h) (hy2.below keepBrn h) (by have:=hy0.ln.1;have:=HS.o.takes x hxm;omega) (by have:=hy1.ln.1;have:=HS.o.skeys x hxm;omega) (by have:=hy2.ln.1;have:=HS.o.brs x hxm;omega) (HS.o.scode x hxm)
     rw[<- hxt] at y3;have HCE:Hd (∀ W,Bl wr W->(Cl W w.heap.size 0 (.slice s.hp s.hn s.hc)/\Cl W w.heap.size 1 (.slice s.mp s.mn s.mc)/\Cl W w.heap.size 2 (.slice s.sp s.sn s.sc)/\Cl W w.heap.size 3 (.slice s.ap s.an s.ac)/\Cl W w.heap.size 4 (.slice s.tp s.tn s.tc)/\Cl W w.heap.size 5 (.slice s.cp s.cn s.cc)/\Cl W w.heap.size 6 (.slice s.ep s.en s.ec)/\Cl W w.heap.size 7 (.slice s.v1 s.n1 s.c1)/\Cl W w.heap.size 8 (.slice s.v2 s.n2 s.c2)/\Cl W w.heap.size 9 (.slice s.v3 s.n3 s.c3)/\Cl W w.heap.size 10 (.slice s.v4 s.n4 s.c4)/\Cl W w.heap.size 11 (.slice s.v5 s.n5 s.c5))/\Cl W sb (so+k*4) (.slice tp tn tc)/\Cl W sb (so+k*4+1) (.slice kp kn kc)/\Cl W sb (so+k*4+2) (.slice bp bn bc)/\Cl W sb (so+k*4+3) (.int .i64 xt)):=fun W h=>
      ⟨(HPB.o.below (HW.o.trans (h.mono HW.o.size))).cells,(h.cell (p:=⟨sb,so+k*4,none⟩) hsb).trans y0,(h.cell (p:=⟨sb,so+k*4+1,none⟩) hsb).trans y1,(h.cell (p:=⟨sb,so+k*4+2,none⟩) hsb).trans y2,(h.cell (p:=⟨sb,so+k*4+3,none⟩) hsb).trans y3⟩
     have HX:=hD (And.intro hx hr);rw[hps] at HC HCE q2;have hki:(k:Int)<(s.sn:Int):=om;clear hx hxm hr hxt y0 y1 y2 y3 hy0 hy1 hy2 hps;go_upto_region 9 with fail;clear q0 q1 q2 q3 q4 q5 q6 q7 q8 q9 q10 q11;cases r
     ·have hr:R=false:=by rw[HR3.o,all_false HX.o.1 HX.o.2.symm];rfl
      refine roB wr ?_;refine sq (fun aa ww ll hh=>by have:=hh.oL 1;exact ov (fC (HCE.o ww hh.inv))) ?_;refine sq (fun aa ww ll hh=>by have:=hh.oL 1;exact ov gX) ?_;refine sq (fun aa ww ll hh=>by have:=hh.gt 1 0;exact ov (fC (HCE.o ww hh.inv))) ?_;refine sq (fun aa ww ll hh=>by exact ov (xmv (hh.oL 4))) ?_;refine sq (fun aa ww ll hh=>by have:=hh.gt 2 1;have:=hh.gt 3 0;exact ov gX) ?_;refine sq (fun aa ww ll hh=>by have:=hh.gt 4 0;exact ov (fC (HCE.o ww hh.inv))) ?_;refine ⟨.eq (.bool false),trivial,rfl,fun aa ww ll hh=>?_,?_⟩
      ·have e98:=hh.gt 0 5;have e103:=hh.gt 5 0;have ef:=evf aa;exact gA1
      refine sq (fun aa ww ll hh=>by have:=hh.gt 6 0;exact ov gX) ?_;intro ll w9 hS hok;exact gT1
     ·skip;refine roB wr ?_;refine sq (fun aa ww ll hh=>by have:=hh.oL 1;exact ov (fC (HCE.o ww hh.inv))) ?_;refine sq (fun aa ww ll hh=>by have:=hh.oL 1;exact ov gX) ?_;refine sq (fun aa ww ll hh=>by have:=hh.gt 1 0;exact ov (fC (HCE.o ww hh.inv))) ?_;refine sq (fun aa ww ll hh=>by exact ov (xmv (hh.oL 4))) ?_;refine sq (fun aa ww ll hh=>by have:=hh.gt 2 1;have:=hh.gt 3 0;exact ov gX) ?_;refine sq (fun aa ww ll hh=>by have:=hh.gt 4 0;exact ov (fC (HCE.o ww hh.inv))) ?_;refine ⟨.eq (.bool true),trivial,rfl,fun aa ww ll hh=>?_,?_⟩
      ·have e98:=hh.gt 0 5;have e103:=hh.gt 5 0;have ef:=evf aa;exact gA1
      exact gN1
    obtain rfl:k=s.sn:=om;have hall:∀x∈p.steps,mayStepP p x=true:=fun x hx=>by
     obtain ⟨j,hj⟩:=List.getElem?_of_mem hx;exact HQ.o j x (by have:=(gL_ hj).1;have:=HL.o.1;omega) hj
    have hR4:R=((List.range s.sn).all (fun i=> !cycP p i)&&allIdx (actOk p) 0 p.acts&&p.tabs.all (mayTabP p)):=by
     rw[HR3.o,List.all_eq_true.2 hall];rfl
    have HR4:=hD hR4;have HCC:Hd (∀ W (i:Nat),Bl w W->i<s.sn->CR 52 #[.agg (pA s), .int .i64 (i:Int)] W (.bool (cycP p i))):=fun W i h hi=>HCY.o W i (HP.o.below h) hall (by have:=HL.o.1;omega)
    clear hR4 hall hbw;go_wp2_with fail;go_loopw [5] (fun i wr=>∃k:Nat,k<=s.sn/\i= .int .i64 k/\Hd (Bl W0 wr)/\Hd (∀ j,j<k->cycP p j=false)) (fun i _=>s.sn-(intOf i).toNat)
    case atStart=>exact ⟨0,zl,rfl,HW.o,fun j hj=>absurd hj om⟩
    case round=>
     clear q0 q1 q2 q3 q4 q5 q6 q7 q8 q9 q10 q11;obtain ⟨k,hk2,rfl,HW2,HQ2⟩:=hrel;have hbw2:=HB0.o.trans (HW2.o.mono HB0.o.size);obtain ⟨q0,q1,q2,q3,q4,q5,q6,q7,q8,q9,q10,q11⟩:=(HPB.o.below HW2.o).cells;by_cases hlt2:k<s.sn
     ·obtain ⟨r,hr⟩:=nm (cycP p k);have HC:=hD (HCC.o _ k hbw2 hlt2);rw[<- hr] at HC;have HX:=hD hr;clear hr;cases r
      ·go_wp2_with (go_at_call 52;refine HC.o.mono ?_;rintro e w9 ⟨rfl,hb9⟩;have HB9:=hD hb9;clear hb9);go_roundw
       case rel=>exact ⟨k+1,om,by go_num,HW2.o.trans (HB9.o.mono HW2.o.size),fun j hj=>by
        rcases Nat.lt_or_ge j k with h|h
        ·exact HQ2.o j h
        ·obtain rfl:j=k:=om
         exact HX.o.symm⟩
       case measure=>exact mz
      ·have hr:R=false:=by
        rw[HR4.o,all_false (l:=List.range s.sn) (j:=k) (x:=k) (by rw[List.getElem?_range hlt2]) (by rw[<- HX.o];rfl)];rfl
       go_wp2_with (go_at_call 52;refine HC.o.mono ?_;rintro e w9 ⟨rfl,hb9⟩;have HB9:=hD hb9;clear hb9);go_ret;exact ⟨by first|rfl|(rw[hr];rfl),hbw2.trans (HB9.o.mono hbw2.size)⟩
     obtain rfl:k=s.sn:=om;have hR5:R=(allIdx (actOk p) 0 p.acts&&p.tabs.all (mayTabP p)):=by
      rw[HR4.o,List.all_eq_true.2 fun i hi=>by rw[HQ2.o i (List.mem_range.1 hi)];rfl];rfl
     have HR5:=hD hR5;clear hR5 hbw2;go_wp2_with fail;go_loopw [6] (fun i wr=>∃k:Nat,k<=s.an/\i= .int .i64 k/\Hd (Bl W0 wr)/\Hd (∀ j a,j<k->p.acts[j]?=some a->actOk p j a=true)) (fun i _=>s.an-(intOf i).toNat)
     case atStart=>exact ⟨0,zl,rfl,HW2.o,fun j _ hj=>absurd hj om⟩
     case round=>
      clear q0 q1 q2 q3 q4 q5 q6 q7 q8 q9 q10 q11;obtain ⟨k,hk3,rfl,HW3,HQ3⟩:=hrel;have hbw3:=HB0.o.trans (HW3.o.mono HB0.o.size);obtain ⟨q0,q1,q2,q3,q4,q5,q6,q7,q8,q9,q10,q11⟩:=(HPB.o.below HW3.o).cells;by_cases hlt3:k<s.an
      ·obtain ⟨a,ha⟩:∃a,p.acts[k]?=some a:=⟨_,gE_ (by have:=HL.o.2.1;omega)⟩;have ham:=gM_ ha;obtain ⟨ab,ao,p1,m1,k1,p2,m2,k2,hps,hab,y0,hy0,y1,hy1⟩:=ActnRow.el (HP.o.acts.below keepActn hbw3) (j:=k) (by have:=HL.o.2.1;omega);rw[getD_some ha] at hy0 hy1;obtain ⟨hm1,-,-,-⟩:=hy0.ln;have hm16:m1<=6000:=by have:=HS.o.params a ham;omega
       obtain ⟨ra,hra⟩:=nm (a.params.all okP);obtain ⟨rb,hrb⟩:=nm (mayInstsP p (k:Int) a.body);have hak:actOk p k a=(decide (m1<=8)&&ra&&rb):=by rw[hra,hrb,hm1];rfl
       have HWD:Hd (∀ W,Bl wr W->CR 48 #[.slice p1 m1 k1] W (.bool ra)):=fun W h=>by rw[hra];exact widths10_any a.params _ _ _ W (hy0.below keepI h) om
       have HIB:Hd (∀ W,Bl wr W->CR 50 #[.agg #[.slice s.hp s.hn s.hc, .slice s.mp s.mn s.mc, .slice s.sp s.sn s.sc, .slice s.ap s.an s.ac, .slice s.tp s.tn s.tc, .slice s.cp s.cn s.cc, .slice s.ep s.en s.ec, .slice s.v1 s.n1 s.c1, .slice s.v2 s.n2 s.c2, .slice s.v3 s.n3 s.c3, .slice s.v4 s.n4 s.c4, .slice s.v5 s.n5 s.c5], .int .i64 (k:Int), .slice p2 m2 k2] W (.bool rb)):=fun W h=>by
        rw[hrb];exact mayInsts_any s p (k:Int) a.body _ _ _ W (HP.o.below (hbw3.trans (h.mono hbw3.size))) HS.o (hy1.below keepIst h) (by have:=hy1.ln.1;have:=HS.o.body a ham;omega) (HS.o.bcode a ham)
       have HAK:=hD (And.intro ha hak);have HRF:Hd (actOk p k a=false->R=false):=fun h=>by
        rw[HR5.o];have:allIdx (actOk p) 0 p.acts=false:=by
         rw[Bool.eq_false_iff];intro hc;have:=(allIdx_iff.1 hc) k a ha;rw[Nat.zero_add,h] at this;cases this
        rw[this];rfl
       have hki:(k:Int)<(s.an:Int):=om;rw[hps] at q3 HIB;have HPS:=hD hps;clear ha ham hy0 hy1 hm1 hra hrb hak hps;go_upto_region 20 with fail;obtain ⟨W5,hW5⟩:=nm (wr.alloc (.cells #[.slice p1 m1 k1, .slice p2 m2 k2] 110));have hb5:Bl wr W5:=by rw[hW5];exact br.alloc lr _
       have hg5:W5.heap[wr.heap.size]?=some (.cells #[.slice p1 m1 k1, .slice p2 m2 k2] 110 (0,0)):=by rw[hW5];exact heap_new _ _
       rw[<- hW5];clear hW5 y0 y1 q0 q1 q2 q3 q4 q5 q6 q7 q8 q9 q10 q11;have HB5:=hD hb5;have HG5:=hD hg5;obtain ⟨q0,q1,q2,q3,q4,q5,q6,q7,q8,q9,q10,q11⟩:=(HPB.o.below (HW3.o.trans (hb5.mono HW3.o.size))).cells;rw[HPS.o] at q3;have d0:W5.cell? ⟨wr.heap.size,0,none⟩=some (.slice p1 m1 k1):=by simp[World.cell?,hg5]
       have d1:W5.cell? ⟨wr.heap.size,1,none⟩=some (.slice p2 m2 k2):=by simp[World.cell?,hg5]
       clear hb5 hg5;have HG:Hd (∀ W,Bl W5 W->(Cl W w.heap.size 0 (.slice s.hp s.hn s.hc)/\Cl W w.heap.size 1 (.slice s.mp s.mn s.mc)/\Cl W w.heap.size 2 (.slice s.sp s.sn s.sc)/\Cl W w.heap.size 3 (.slice s.ap s.an s.ac)/\Cl W w.heap.size 4 (.slice s.tp s.tn s.tc)/\Cl W w.heap.size 5 (.slice s.cp s.cn s.cc)/\Cl W w.heap.size 6 (.slice s.ep s.en s.ec)/\Cl W w.heap.size 7 (.slice s.v1 s.n1 s.c1)/\Cl W w.heap.size 8 (.slice s.v2 s.n2 s.c2)/\Cl W w.heap.size 9 (.slice s.v3 s.n3 s.c3)/\Cl W w.heap.size 10 (.slice s.v4 s.n4 s.c4)/\Cl W w.heap.size 11 (.slice s.v5 s.n5 s.c5))/\Cl W wr.heap.size 0 (.slice p1 m1 k1)/\Cl W wr.heap.size 1 (.slice p2 m2 k2)):=fun W h=>by
        have hb:=HB5.o.trans (h.mono HB5.o.size);have hg:=(h.block _ (gA_ HG5.o).1).trans HG5.o;exact ⟨(HPB.o.below (HW3.o.trans (hb.mono HW3.o.size))).cells,by simp[World.cell?,hg],by simp[World.cell?,hg]⟩
       rw[HPS.o] at HG;have hbw5:=hbw3.trans (HB5.o.mono hbw3.size);have HBW5:=hD hbw5;clear hbw5 hbw3;have hcs:8<(m1:Int)\/(¬ 8<(m1:Int)/\ra=false)\/(¬ 8<(m1:Int)/\ra=true/\rb=false)\/(¬ 8<(m1:Int)/\ra=true/\rb=true):=by
        cases ra<;>cases rb<;>simp<;>omega
       rcases hcs with e1|⟨e1,rfl⟩|⟨e1,rfl,rfl⟩|⟨e1,rfl,rfl⟩
       ·have hr:R=false:=HRF.o (by rw[HAK.o.2,decide_eq_false om];rfl);go_wp2_with fail;go_ret;exact ⟨by first|rfl|(rw[hr];rfl),HBW5.o⟩
       ·have hr:R=false:=HRF.o (by rw[HAK.o.2];simp);go_wp2_with (go_at_call 48;refine (HWD.o _ HB5.o).mono ?_;rintro e w6 ⟨rfl,hb6⟩;have HB6:=hD hb6;clear hb6);go_ret;exact ⟨by first|rfl|(rw[hr];rfl),HBW5.o.trans (HB6.o.mono HBW5.o.size)⟩
       ·have hr:R=false:=HRF.o (by rw[HAK.o.2];simp);go_wp2_with (first
         |(go_at_call 48;refine (HWD.o _ HB5.o).mono ?_;rintro e w6 ⟨rfl,hb6⟩;have HB6:=hD hb6;have hg:=HG.o _ hb6;obtain ⟨⟨q0,q1,q2,q3,q4,q5,q6,q7,q8,q9,q10,q11⟩,d0,d1⟩:=hg;clear hb6)
         |(go_at_call 50;refine (HIB.o _ (HB5.o.trans (HB6.o.mono HB5.o.size))).mono ?_;rintro e w7 ⟨rfl,hb7⟩;have HB7:=hD (HB6.o.trans (hb7.mono HB6.o.size));clear hb7))
        go_ret;exact ⟨by first|rfl|(rw[hr];rfl),HBW5.o.trans (HB7.o.mono HBW5.o.size)⟩
       go_wp2_with (first
        |(go_at_call 48;refine (HWD.o _ HB5.o).mono ?_;rintro e w6 ⟨rfl,hb6⟩;have HB6:=hD hb6;have hg:=HG.o _ hb6;obtain ⟨⟨q0,q1,q2,q3,q4,q5,q6,q7,q8,q9,q10,q11⟩,d0,d1⟩:=hg;clear hb6)
        |(go_at_call 50;refine (HIB.o _ (HB5.o.trans (HB6.o.mono HB5.o.size))).mono ?_;rintro e w7 ⟨rfl,hb7⟩;have HB7:=hD (HB6.o.trans (hb7.mono HB6.o.size));clear hb7))
       go_roundw
       case rel=>exact ⟨k+1,om,by go_num,(HW3.o.trans (HB5.o.mono HW3.o.size)).trans (HB7.o.mono (Nat.le_trans HW3.o.size HB5.o.size)),fun j y hj hy=>by
        rcases Nat.lt_or_ge j k with h|h
        ·exact HQ3.o j y h hy
        ·obtain rfl:j=k:=om
         rw[HAK.o.1] at hy;cases hy
         rw[HAK.o.2,decide_eq_true om];rfl⟩
       case measure=>exact mz
      obtain rfl:k=s.an:=om;have hR6:R=p.tabs.all (mayTabP p):=by
       rw[HR5.o,allIdx_iff.2 fun j a hj=>by
        rw[Nat.zero_add];exact HQ3.o j a (by have:=(gL_ hj).1;have:=HL.o.2.1;omega) hj];rfl
      have HR6:=hD hR6;clear hR6 hbw3;go_wp2_with fail;go_loopw [8] (fun i wr=>∃k:Nat,k<=s.tn/\i= .int .i64 k/\Hd (Bl W0 wr)/\Hd (∀ j x,j<k->p.tabs[j]?=some x->mayTabP p x=true)) (fun i _=>s.tn-(intOf i).toNat)
      case atStart=>exact ⟨0,zl,rfl,HW3.o,fun j _ hj=>absurd hj om⟩
      case round=>
       clear q0 q1 q2 q3 q4 q5 q6 q7 q8 q9 q10 q11;obtain ⟨k,hk4,rfl,HW,HQ⟩:=hrel;have hbw:=HB0.o.trans (HW.o.mono HB0.o.size);obtain ⟨q0,q1,q2,q3,q4,q5,q6,q7,q8,q9,q10,q11⟩:=(HPB.o.below HW.o).cells;by_cases hlt:k<s.tn
       ·obtain ⟨x,hx⟩:∃x,p.tabs[k]?=some x:=⟨_,gE_ (by have:=HL.o.2.2;omega)⟩;have hxm:=gM_ hx;obtain ⟨sb,so,hps,hsb,⟨kp,kn,kc,y0,hy0⟩,⟨up,un,uc,y1,hy1⟩,⟨lp,ln,lc,y2,hy2⟩,y3,⟨gp,gn,gc,y4,hy4⟩⟩:=(HP.o.tabs.below keepTbl hbw).get hx;obtain ⟨r,hr⟩:=nm (mayTabP p x);obtain ⟨xt,hxt⟩:=nm x.dact;have HC:Hd (∀ W,Bl wr W->CR 53 #[.agg #[.slice s.hp s.hn s.hc, .slice s.mp s.mn s.mc, .slice s.sp s.sn s.sc, .slice s.ap s.an s.ac, .slice s.tp s.tn s.tc, .slice s.cp s.cn s.cc, .slice s.ep s.en s.ec, .slice s.v1 s.n1 s.c1, .slice s.v2 s.n2 s.c2, .slice s.v3 s.n3 s.c3, .slice s.v4 s.n4 s.c4, .slice s.v5 s.n5 s.c5], .agg #[.slice kp kn kc, .slice up un uc, .slice lp ln lc, .int .i64 xt, .slice gp gn gc]] W (.bool r)):=fun W h=>by
         rw[hr,hxt];exact mayTab_any s p x kp kn kc up un uc lp ln lc gp gn gc W (HP.o.below (hbw.trans (h.mono hbw.size))) HS.o (hy0.below keepCs h) (hy1.below keepU h) (hy2.below keepI h) (hy4.below keepN h) (by have:=hy0.ln.1;have:=HS.o.tkeys x hxm;omega) (HS.o.tcode x hxm) (by have:=hy2.ln.1;have:=HS.o.tacts x hxm;omega) (by have:=hy4.ln.1;have:=HS.o.dargs x hxm;omega)
        rw[<- hxt] at y3;have HCE:Hd (∀ W,Bl wr W->(Cl W w.heap.size 0 (.slice s.hp s.hn s.hc)/\Cl W w.heap.size 1 (.slice s.mp s.mn s.mc)/\Cl W w.heap.size 2 (.slice s.sp s.sn s.sc)/\Cl W w.heap.size 3 (.slice s.ap s.an s.ac)/\Cl W w.heap.size 4 (.slice s.tp s.tn s.tc)/\Cl W w.heap.size 5 (.slice s.cp s.cn s.cc)/\Cl W w.heap.size 6 (.slice s.ep s.en s.ec)/\Cl W w.heap.size 7 (.slice s.v1 s.n1 s.c1)/\Cl W w.heap.size 8 (.slice s.v2 s.n2 s.c2)/\Cl W w.heap.size 9 (.slice s.v3 s.n3 s.c3)/\Cl W w.heap.size 10 (.slice s.v4 s.n4 s.c4)/\Cl W w.heap.size 11 (.slice s.v5 s.n5 s.c5))/\Cl W sb (so+k*5) (.slice kp kn kc)/\Cl W sb (so+k*5+1) (.slice up un uc)/\Cl W sb (so+k*5+2) (.slice lp ln lc)/\Cl W sb (so+k*5+3) (.int .i64 xt)/\Cl W sb (so+k*5+4) (.slice gp gn gc)):=fun W h=>
         ⟨(HPB.o.below (HW.o.trans (h.mono HW.o.size))).cells,(h.cell (p:=⟨sb,so+k*5,none⟩) hsb).trans y0,(h.cell (p:=⟨sb,so+k*5+1,none⟩) hsb).trans y1,(h.cell (p:=⟨sb,so+k*5+2,none⟩) hsb).trans y2,(h.cell (p:=⟨sb,so+k*5+3,none⟩) hsb).trans y3,(h.cell (p:=⟨sb,so+k*5+4,none⟩) hsb).trans y4⟩
        have HX:=hD (And.intro hx hr);rw[hps] at HC HCE q4;have hki:(k:Int)<(s.tn:Int):=om;clear hx hxm hr hxt y0 y1 y2 y3 y4 hy0 hy1 hy2 hy4 hps;go_upto_region 25 with fail;clear q0 q1 q2 q3 q4 q5 q6 q7 q8 q9 q10 q11;cases r
        ·have hr:R=false:=by rw[HR6.o,all_false HX.o.1 HX.o.2.symm]
         refine roB wr ?_;refine sq (fun aa ww ll hh=>by have:=hh.oL 1;exact ov (fC (HCE.o ww hh.inv))) ?_;refine sq (fun aa ww ll hh=>by have:=hh.oL 1;exact ov gX) ?_;refine sq (fun aa ww ll hh=>by have:=hh.gt 1 0;exact ov (fC (HCE.o ww hh.inv))) ?_;refine sq (fun aa ww ll hh=>by exact ov (xmv (hh.oL 8))) ?_;refine sq (fun aa ww ll hh=>by have:=hh.gt 2 1;have:=hh.gt 3 0;exact ov gX) ?_;refine sq (fun aa ww ll hh=>by have:=hh.gt 4 0;exact ov (fC (HCE.o ww hh.inv))) ?_;refine ⟨.eq (.bool false),trivial,rfl,fun aa ww ll hh=>?_,?_⟩
         ·have e153:=hh.gt 0 5;have e158:=hh.gt 5 0;have ef:=evf aa;exact gA1
         refine sq (fun aa ww ll hh=>by have:=hh.gt 6 0;exact ov gX) ?_;intro ll w9 hS hok;exact gT1
        ·skip;refine roB wr ?_;refine sq (fun aa ww ll hh=>by have:=hh.oL 1;exact ov (fC (HCE.o ww hh.inv))) ?_;refine sq (fun aa ww ll hh=>by have:=hh.oL 1;exact ov gX) ?_;refine sq (fun aa ww ll hh=>by have:=hh.gt 1 0;exact ov (fC (HCE.o ww hh.inv))) ?_;refine sq (fun aa ww ll hh=>by exact ov (xmv (hh.oL 8))) ?_;refine sq (fun aa ww ll hh=>by have:=hh.gt 2 1;have:=hh.gt 3 0;exact ov gX) ?_;refine sq (fun aa ww ll hh=>by have:=hh.gt 4 0;exact ov (fC (HCE.o ww hh.inv))) ?_;refine ⟨.eq (.bool true),trivial,rfl,fun aa ww ll hh=>?_,?_⟩
         ·have e153:=hh.gt 0 5;have e158:=hh.gt 5 0;have ef:=evf aa;exact gA1
         exact gN1
       obtain rfl:k=s.tn:=om;have hr:R=true:=by
        rw[HR6.o];exact all_true fun j x hj=>HQ.o j x (by have:=(gL_ hj).1;have:=HL.o.2.2;omega) hj
       exact gC4
  have hr:R=false:=by
   rw[HR.o];by_cases h1:1<=s.sn/\s.sn<=16/\s.an<=16/\s.tn<=8
   ·cases rl
    ·simp
    ·cases ri
     ·simp
     ·exact absurd ⟨h1,rfl,rfl⟩ hC
   rw[decide_eq_false h1];simp
  have hcs:(s.sn:Int)<1\/(¬ (s.sn:Int)<1/\16<(s.sn:Int))\/(¬ (s.sn:Int)<1/\¬16<(s.sn:Int)/\16<(s.an:Int))\/(¬ (s.sn:Int)<1/\¬16<(s.sn:Int)/\¬16<(s.an:Int)/\8<(s.tn:Int))\/(¬ (s.sn:Int)<1/\¬16<(s.sn:Int)/\¬16<(s.an:Int)/\¬8<(s.tn:Int)/\rl=false)\/(¬ (s.sn:Int)<1/\¬16<(s.sn:Int)/\¬16<(s.an:Int)/\¬8<(s.tn:Int)/\rl=true/\ri=false):=by
   cases rl<;>cases ri<;>simp at hC⊢<;>omega
  rcases hcs with g1|⟨g1,g2⟩|⟨g1,g2,g3⟩|⟨g1,g2,g3,g4⟩|⟨g1,g2,g3,g4,rfl⟩|⟨g1,g2,g3,g4,rfl,rfl⟩
  all_goals
   go_wp2_with (first
  |(go_at_call 47;refine (HHE.o _ (HB0.o.trans (HZ0.o.mono HB0.o.size))).mono ?_;rintro e w1 ⟨rfl,hb1⟩;have HZ1:=hD (HZ0.o.trans (hb1.mono HZ0.o.size));have pb1:=(HPB.o.below HZ1.o).cells;obtain ⟨q0,q1,q2,q3,q4,q5,q6,q7,q8,q9,q10,q11⟩:=pb1;have nb1:=(HNB.o.below HZ1.o).cells;obtain ⟨n0,n1,n2,n3,n4⟩:=nb1;clear hb1)
  |(go_at_call 48;refine (HWI.o _ (HB0.o.trans (HZ1.o.mono HB0.o.size))).mono ?_;rintro e w2 ⟨rfl,hb2⟩;have HZ2:=hD (HZ1.o.trans (hb2.mono HZ1.o.size));have pb2:=(HPB.o.below HZ2.o).cells;obtain ⟨q0,q1,q2,q3,q4,q5,q6,q7,q8,q9,q10,q11⟩:=pb2;have nb2:=(HNB.o.below HZ2.o).cells;obtain ⟨n0,n1,n2,n3,n4⟩:=nb2;clear hb2)
  |(go_at_call 49;refine (HLI.o _ (HB0.o.trans (HZ2.o.mono HB0.o.size))).mono ?_;rintro e w3 ⟨rfl,hb3⟩;have HZ3:=hD (HZ2.o.trans (hb3.mono HZ2.o.size));have pb3:=(HPB.o.below HZ3.o).cells;obtain ⟨q0,q1,q2,q3,q4,q5,q6,q7,q8,q9,q10,q11⟩:=pb3;have nb3:=(HNB.o.below HZ3.o).cells;obtain ⟨n0,n1,n2,n3,n4⟩:=nb3;clear hb3)
  |(go_at_call 50;refine (HIN.o _ (HB0.o.trans (HZ3.o.mono HB0.o.size))).mono ?_;rintro e w4 ⟨rfl,hb4⟩;have HZ4:=hD (HZ3.o.trans (hb4.mono HZ3.o.size));have pb4:=(HPB.o.below HZ4.o).cells;obtain ⟨q0,q1,q2,q3,q4,q5,q6,q7,q8,q9,q10,q11⟩:=pb4;have nb4:=(HNB.o.below HZ4.o).cells;obtain ⟨n0,n1,n2,n3,n4⟩:=nb4;clear hb4))
   go_ret;exact ⟨by first|rfl|(rw[hr];rfl),(by first|exact HB0.o|exact HB0.o.trans (HZ1.o.mono HB0.o.size)|exact HB0.o.trans (HZ2.o.mono HB0.o.size)|exact HB0.o.trans (HZ3.o.mono HB0.o.size)|exact HB0.o.trans (HZ4.o.mono HB0.o.size))⟩
 have hr:R=false:=by
  rw[HR.o];by_cases h1:s.mn<=16
  ·by_cases h2:s.n3=s.mn/\s.n4=s.an/\s.n5=s.tn
   ·cases rh
    ·simp
    ·cases rw'
     ·simp
     ·exact absurd ⟨rfl,h1,rfl,h2⟩ hA
   rw[decide_eq_false h2];simp
  rw[decide_eq_false h1];simp
 have hcs:rh=false\/(rh=true/\16<(s.mn:Int))\/(rh=true/\¬16<(s.mn:Int)/\rw'=false)\/(rh=true/\¬16<(s.mn:Int)/\rw'=true/\¬(s.n3:Int)=(s.mn:Int))\/(rh=true/\¬16<(s.mn:Int)/\rw'=true/\(s.n3:Int)=(s.mn:Int)/\¬(s.n4:Int)=(s.an:Int))\/(rh=true/\¬16<(s.mn:Int)/\rw'=true/\(s.n3:Int)=(s.mn:Int)/\(s.n4:Int)=(s.an:Int)/\¬(s.n5:Int)=(s.tn:Int)):=by
  cases rh<;>cases rw'<;>simp at hA⊢<;>omega
 rcases hcs with rfl|⟨rfl,g2⟩|⟨rfl,g2,rfl⟩|⟨rfl,g2,rfl,g4⟩|⟨rfl,g2,rfl,g4,g5⟩|⟨rfl,g2,rfl,g4,g5,g6⟩
 all_goals
  try have g7:((s.n3:Int)!=(s.mn:Int))=true:=bne_iff_ne.2 (by assumption)
  try have g8:((s.n4:Int)!=(s.an:Int))=true:=bne_iff_ne.2 (by assumption)
  try have g9:((s.n5:Int)!=(s.tn:Int))=true:=bne_iff_ne.2 (by assumption)
  go_wp2_with (first
  |(go_at_call 47;refine (HHE.o _ (HB0.o.trans (HZ0.o.mono HB0.o.size))).mono ?_;rintro e w1 ⟨rfl,hb1⟩;have HZ1:=hD (HZ0.o.trans (hb1.mono HZ0.o.size));have pb1:=(HPB.o.below HZ1.o).cells;obtain ⟨q0,q1,q2,q3,q4,q5,q6,q7,q8,q9,q10,q11⟩:=pb1;have nb1:=(HNB.o.below HZ1.o).cells;obtain ⟨n0,n1,n2,n3,n4⟩:=nb1;clear hb1)
  |(go_at_call 48;refine (HWI.o _ (HB0.o.trans (HZ1.o.mono HB0.o.size))).mono ?_;rintro e w2 ⟨rfl,hb2⟩;have HZ2:=hD (HZ1.o.trans (hb2.mono HZ1.o.size));have pb2:=(HPB.o.below HZ2.o).cells;obtain ⟨q0,q1,q2,q3,q4,q5,q6,q7,q8,q9,q10,q11⟩:=pb2;have nb2:=(HNB.o.below HZ2.o).cells;obtain ⟨n0,n1,n2,n3,n4⟩:=nb2;clear hb2)
  |(go_at_call 49;refine (HLI.o _ (HB0.o.trans (HZ2.o.mono HB0.o.size))).mono ?_;rintro e w3 ⟨rfl,hb3⟩;have HZ3:=hD (HZ2.o.trans (hb3.mono HZ2.o.size));have pb3:=(HPB.o.below HZ3.o).cells;obtain ⟨q0,q1,q2,q3,q4,q5,q6,q7,q8,q9,q10,q11⟩:=pb3;have nb3:=(HNB.o.below HZ3.o).cells;obtain ⟨n0,n1,n2,n3,n4⟩:=nb3;clear hb3)
  |(go_at_call 50;refine (HIN.o _ (HB0.o.trans (HZ3.o.mono HB0.o.size))).mono ?_;rintro e w4 ⟨rfl,hb4⟩;have HZ4:=hD (HZ3.o.trans (hb4.mono HZ3.o.size));have pb4:=(HPB.o.below HZ4.o).cells;obtain ⟨q0,q1,q2,q3,q4,q5,q6,q7,q8,q9,q10,q11⟩:=pb4;have nb4:=(HNB.o.below HZ4.o).cells;obtain ⟨n0,n1,n2,n3,n4⟩:=nb4;clear hb4))
  go_ret;exact ⟨by first|rfl|(rw[hr];rfl),(by first|exact HB0.o|exact HB0.o.trans (HZ1.o.mono HB0.o.size)|exact HB0.o.trans (HZ2.o.mono HB0.o.size)|exact HB0.o.trans (HZ3.o.mono HB0.o.size)|exact HB0.o.trans (HZ4.o.mono HB0.o.size))⟩
open Go.RowKit
def bitB (n:Nat) (i:Int):Bool:=decide (0<=i)&&decide (i<128)&&n.testBit i.toNat
theorem newRow {w:World} (f:Nat->Bool):((w.alloc (.cells Tryz.zeroCells146 146)).setRow w.heap.size (rowA f)).heap[w.heap.size]?=some (.cells (rowA f) 146 (0,0))/\
 Bl w ((w.alloc (.cells Tryz.zeroCells146 146)).setRow w.heap.size (rowA f)):=
 ⟨setRow_heap _ _ _ _ _ _ (heap_new _ _),below_setRow (br.alloc lr _) lr _⟩
theorem refBit_any (n:Nat) (i:Int) (hn:n<B*B) (w:World):
 Calls Tryz.prog 112 #[numV n, .int .i64 i] w fun e w'=>e= .returned (.bool (bitB n i))/\Bl w w':=by
 obtain ⟨f,hf⟩:=nm n.testBit;have HA:Hd (∀ W,CR 71 #[numV n] W (.agg (rowA f))):=fun W=>by rw[hf];exact refBits_any n hn W
 have HF:=hD hf;obtain ⟨h1,l1,e1,-,-⟩:=numV_parts n;rw[e1] at HA⊢;clear e1 hf;go_enter Tryz.func112,Tryz.ntmps112;go_wp2_with fail;refine (HA.o _).mono ?_;rintro e w1 ⟨rfl,hb1⟩;have HB1:Hd (Bl w w1):=((Below.refl w.heap.size w).alloc lr _).trans (hb1.mono sm);have hs1:=HB1.o.size;have HNW:=hD (heap_new w1 (.cells Tryz.zeroCells146 146));obtain ⟨n1,n2⟩:=newRow (w:=w1) f;have HN1:=hD n1;have HB2:Hd (Bl w ((w1.alloc (.cells Tryz.zeroCells146 146)).setRow w1.heap.size (rowA f))):=HB1.o.trans (n2.mono hs1);have HZS:Hd ((Tryz.zeroCells146).size=128):=by
  show _=_;have hZ:Tryz.zeroCells146=rowA fun _=>false:=by kernel_rfl
  rw[hZ];exact rowA_size _
 clear hb1 HA n1 n2;by_cases h0:i<0
 ·have HE:Hd (bitB n i=false):=by show _=_;unfold bitB;simp;omega
  have h0':decide (0<=i)=false:=by simp;omega
  exact gJ1
 by_cases h1:128<=i
 ·have HE:Hd (bitB n i=false):=by show _=_;unfold bitB;simp;omega
  exact gJ1
 obtain ⟨j,rfl⟩:∃j:Nat,i=(j:Int):=⟨i.toNat,om⟩;have hj:j<128:=om;have hcell:((w1.alloc (.cells Tryz.zeroCells146 146)).setRow w1.heap.size (rowA f)).cell? ⟨w1.heap.size,j,none⟩=some (.bool (f j)):=by rw[cell_of_row _ _ j _ _ _ HN1.o];exact rowA_at _ j hj
 have HE:Hd (bitB n (j:Int)=f j):=by show _=_;unfold bitB;rw[HF.o];simp;omega
 exact gJ1
end Go.Proofs.YtikilcbpogfgkaaGreat
