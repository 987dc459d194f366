/-
  Layer 10's document, walked: MayRun.
-/
import Derived.Test.YtjfhfaodbjecdaaGreatJC07
set_option maxHeartbeats 6400000
set_option maxRecDepth 100000
namespace Go.Proofs.YtjfhfaodbjecdaaGreat
open Go.RowKit
theorem zip_all {args:List Nat} {ps:List Int} (hl:args.length=ps.length):((List.zip args ps).all fun x=>fitsP x.1 x.2)=true↔∀j,j<args.length->fitsP (args.getD j 0) (ps.getD j 0)=true:=by
 rw[List.all_eq_true];constructor
 ·intro h j hj;have:=h (args.getD j 0,ps.getD j 0) (List.mem_of_getElem? (i:=j) (by
   rw[List.getElem?_zip_eq_some];exact ⟨some_getD 0 hj,some_getD 0 (by omega)⟩))
  exact this
 ·intro h x hx;obtain ⟨j,hj⟩:=List.getElem?_of_mem hx;rw[List.getElem?_zip_eq_some] at hj;have h1:=(List.getElem?_eq_some_iff.1 hj.1).1;have:=h j h1;rw[getD_some hj.1,getD_some hj.2] at this;exact this
theorem mayRun_any (s:PgS) (p:Prg) (listed:List Int) (lp:Option Addr) (ln lc:Nat) (act:Int) (args:List Nat) (gp:Option Addr) (gn gc:Nat) (w:World) (hp:PgOk w s p) (hS:Sm p) (hl:IRow w (.slice lp ln lc) listed) (hln:ln<=6000) (hg:NRow w (.slice gp gn gc) args) (hgn:gn<=1000000):
 Calls Tryz.prog 62 #[pgV s, .slice lp ln lc, .agg #[.int .i64 act, .slice gp gn gc]] w fun e w'=>e= .returned (.bool (mayRunP p listed act args))/\Below w.heap.size w w':=by
 obtain ⟨R,hR⟩:∃R,R=mayRunP p listed act args:=⟨_,rfl⟩;rw[<- hR];have HR:=hD hR;have HP:=hD hp;have HS:=hD hS;have HG:=hD hg;obtain ⟨hg1,hg2,hg3,-⟩:=hg.ln;obtain ⟨ha1,ha2,ha3,-⟩:=hp.acts.ln;have has:=hS.acts;rw[<- ha1] at has;have HA:=hD ha1;have HGL:=hD hg1;obtain ⟨r,hr⟩:∃r,r=listed.contains act:=⟨_,rfl⟩;have HIN:Hid (∀ W,Below w.heap.size w W->Calls Tryz.prog 58 #[.slice lp ln lc, .int .i64 act] W fun e w'=>e= .returned (.bool r)/\Below W.heap.size W w'):=fun W h=>by rw[hr];exact in10_any listed lp ln lc act W (hl.below keepI h) (by omega)
 have HRC:=hD hr;clear hR hp hS hg hl hg1 ha1 hr;unfold pgV;go_enter Tryz.func62,Tryz.ntmps62;go_wp2_with fail;obtain ⟨W0,hW0⟩:∃W0,W0=(w.alloc (.cells (pA s) 33)).alloc (.cells #[.int .i64 act, .slice gp gn gc] 52):=⟨_,rfl⟩;have HB0:Hid (Below w.heap.size w W0):=by show Below _ _ _;rw[hW0];exact (by repeat (first|exact Below.refl _ _|assumption|refine Below.drew ?_|refine blA ?_|refine blS ?_|refine blT ?_ (by assumption)))
 have HPB:Hid (PBox W0 w.heap.size s):=by show _=_;rw[hW0,Below.heap_alloc _ _ _ (by simp)];exact heap_new _ _
 have HRB:Hid (RBox W0 (w.heap.size+1) act gp gn gc):=by
  show _=_;rw[hW0];have:=heap_new (w.alloc (.cells (pA s) 33)) (.cells #[.int .i64 act, .slice gp gn gc] 52);simp only[World.size_alloc] at this;exact this
 rw[<- hW0];clear hW0;by_cases h0:act<0
 ·have HCE:Hid (∀ W,Below W0.heap.size W0 W->W.cell? ⟨w.heap.size,3,none⟩=some (.slice s.ap s.an s.ac)/\W.cell? ⟨w.heap.size+1,0,none⟩=some (.int .i64 act)/\W.cell? ⟨w.heap.size+1,1,none⟩=some (.slice gp gn gc)):=fun W h=>by
   obtain ⟨-,-,-,a0,-⟩:=(HPB.out.below h).cells;exact ⟨a0,(HRB.out.below h).cells⟩
  refine roB W0 ?_;refine stq ?_ (fun aa ww ll hh=>?_) ?_;rotate_left
  ·have e5:=hh.oL 5;exact ov gX
  refine stq ?_ (fun aa ww ll hh=>?_) ?_;rotate_left
  ·have e8:=hh.gt 0 0;obtain ⟨q0,q1,q2⟩:=HCE.out ww hh.inv;exact ov gX
  refine stq ?_ (fun aa ww ll hh=>?_) ?_;rotate_left
  ·have e9:=hh.gt 1 0;have ec:=evc aa;exact ov gX
  refine stm 2 0 ?_;refine stk 0 ?_;refine stk 1 ?_;refine stk 2 ?_;refine stk 3 ?_;refine stk 4 ?_;refine stk 5 ?_;refine stq ?_ (fun aa ww ll hh=>?_) ?_;rotate_left
  ·have e11:=hh.gt 3 6;have e17:=hh.gt 9 0;have ec:=evc aa;exact ov gX
  refine stm 10 0 ?_;refine stk 0 ?_;refine stk 1 ?_;refine stk 2 ?_;refine stk 3 ?_;refine stk 4 ?_;refine stq ?_ (fun aa ww ll hh=>?_) ?_;rotate_left
  ·have e19:=hh.gt 11 5;have e24:=hh.gt 16 0;have ec:=evc aa;exact ov gX
  refine stm 17 0 ?_;refine stk 0 ?_;refine stk 1 ?_;refine stk 2 ?_;refine stk 3 ?_;refine stk 4 ?_;refine stk 5 ?_;refine stk 6 ?_;refine stk 7 ?_;refine stk 8 ?_;refine stk 9 ?_;refine stk 10 ?_;refine stk 11 ?_;refine stq ?_ (fun aa ww ll hh=>?_) ?_;rotate_left
  ·have e26:=hh.gt 18 12;have e38:=hh.gt 30 0;have ec:=evc aa;exact ov gX
  intro ll w3 hS hok;clear hok;simp only[List.reverse_cons,List.reverse_nil,List.nil_append,List.cons_append,layO,Out.val,Act.put,List.setIfInBounds_toArray,List.set_cons_zero,List.set_cons_succ];go_wp2_with fail;go_ret;refine ⟨?_,HB0.out.trans (hS.mono HB0.out.size)⟩;have e:R=false:=by rw[HR.out];unfold mayRunP;rw[decide_eq_false (by omega)];rfl
  rw[e];rfl
 ·by_cases h1:(s.an:Int)<=act
  ·have HCE:Hid (∀ W,Below W0.heap.size W0 W->W.cell? ⟨w.heap.size,3,none⟩=some (.slice s.ap s.an s.ac)/\W.cell? ⟨w.heap.size+1,0,none⟩=some (.int .i64 act)/\W.cell? ⟨w.heap.size+1,1,none⟩=some (.slice gp gn gc)):=fun W h=>by
    obtain ⟨-,-,-,a0,-⟩:=(HPB.out.below h).cells;exact ⟨a0,(HRB.out.below h).cells⟩
   refine roB W0 ?_;refine stq ?_ (fun aa ww ll hh=>?_) ?_;rotate_left
   ·have e5:=hh.oL 5;exact ov gX
   refine stq ?_ (fun aa ww ll hh=>?_) ?_;rotate_left
   ·have e8:=hh.gt 0 0;obtain ⟨q0,q1,q2⟩:=HCE.out ww hh.inv;exact ov gX
   refine stq ?_ (fun aa ww ll hh=>?_) ?_;rotate_left
   ·have e9:=hh.gt 1 0;have ec:=evc aa;exact ov gX
   refine stm 2 0 ?_;refine stq ?_ (fun aa ww ll hh=>?_) ?_;rotate_left
   ·have e5:=hh.oL 5;exact hh.og 0 gX
   refine stq ?_ (fun aa ww ll hh=>?_) ?_;rotate_left
   ·have e12:=hh.gt 4 0;obtain ⟨q0,q1,q2⟩:=HCE.out ww hh.inv;exact hh.og 1 gX
   refine stq ?_ (fun aa ww ll hh=>?_) ?_;rotate_left
   ·have e3:=hh.oL 3;exact hh.og 2 gX
   refine stq ?_ (fun aa ww ll hh=>?_) ?_;rotate_left
   ·have e14:=hh.gt 6 0;obtain ⟨q0,q1,q2⟩:=HCE.out ww hh.inv;exact hh.og 3 gX
   refine stq ?_ (fun aa ww ll hh=>?_) ?_;rotate_left
   ·have e15:=hh.gt 7 0;obtain ⟨q0,q1,q2⟩:=HCE.out ww hh.inv;exact hh.og 4 gX
   refine stq ?_ (fun aa ww ll hh=>?_) ?_;rotate_left
   ·have e13:=hh.gt 5 3;have e16:=hh.gt 8 0;exact hh.og 5 gX
   refine stq ?_ (fun aa ww ll hh=>?_) ?_;rotate_left
   ·have e11:=hh.gt 3 6;have e17:=hh.gt 9 0;have ec:=evc aa;exact ov gX
   refine stm 10 0 ?_;refine stk 0 ?_;refine stk 1 ?_;refine stk 2 ?_;refine stk 3 ?_;refine stk 4 ?_;refine stq ?_ (fun aa ww ll hh=>?_) ?_;rotate_left
   ·have e19:=hh.gt 11 5;have e24:=hh.gt 16 0;have ec:=evc aa;exact ov gX
   refine stm 17 0 ?_;refine stk 0 ?_;refine stk 1 ?_;refine stk 2 ?_;refine stk 3 ?_;refine stk 4 ?_;refine stk 5 ?_;refine stk 6 ?_;refine stk 7 ?_;refine stk 8 ?_;refine stk 9 ?_;refine stk 10 ?_;refine stk 11 ?_;refine stq ?_ (fun aa ww ll hh=>?_) ?_;rotate_left
   ·have e26:=hh.gt 18 12;have e38:=hh.gt 30 0;have ec:=evc aa;exact ov gX
   intro ll w3 hS hok;clear hok;simp only[List.reverse_cons,List.reverse_nil,List.nil_append,List.cons_append,layO,Out.val,Act.put,List.setIfInBounds_toArray,List.set_cons_zero,List.set_cons_succ];go_wp2_with fail;go_ret;refine ⟨?_,HB0.out.trans (hS.mono HB0.out.size)⟩;have e:R=false:=by rw[HR.out];unfold mayRunP;rw[decide_eq_false (by have:=HA.out;omega)];rfl
   rw[e];rfl
  ·obtain ⟨j,rfl⟩:∃j:Nat,act=(j:Int):=⟨act.toNat,by omega⟩;obtain ⟨ab,ao,p1,n1,c1,p2,n2,c2,hps,hbl,hcell,hrow,hcell2,-⟩:=ActnRow.el HP.out.acts (j:=j) (by have:=HA.out;omega);obtain ⟨ps,hpsq⟩:∃ps,ps=(p.acts.getD j ⟨[],[]⟩).params:=⟨_,rfl⟩;rw[<- hpsq] at hrow;have hRR:R=(r&&(decide (args.length=ps.length)&&(List.zip args ps).all fun x=>fitsP x.1 x.2)):=by
    rw[HR.out,HRC.out,hpsq];unfold mayRunP;rw[decide_eq_true (by have:=HA.out;omega)];rfl
   have hpl:ps.length<=6000:=by rw[hpsq];exact HS.out.params _ (List.mem_of_getElem? (some_getD (⟨[],[]⟩:Actn) (by have:=HA.out;omega)))
   obtain ⟨hn1,hn2,hn3,-⟩:=hrow.ln;have HROW:=hD hrow;have HN1:=hD hn1;have HRR:=hD hRR;have HCE:Hid (∀ W,Below W0.heap.size W0 W->W.cell? ⟨w.heap.size,3,none⟩=some (.slice (some ⟨ab,ao,none⟩) s.an s.ac)/\W.cell? ⟨w.heap.size+1,0,none⟩=some (.int .i64 (j:Int))/\W.cell? ⟨w.heap.size+1,1,none⟩=some (.slice gp gn gc)/\W.cell? ⟨ab,ao+j*2,none⟩=some (.slice p1 n1 c1)):=fun W h=>by
    obtain ⟨-,-,-,a0,-⟩:=(HPB.out.below h).cells;rw[hps] at a0;exact ⟨a0,(HRB.out.below h).cells.1,(HRB.out.below h).cells.2,((HB0.out.trans (h.mono HB0.out.size)).cell (p:=⟨ab,ao+j*2,none⟩) hbl).trans hcell⟩
   rw[hps];have hn1s:n1<=6000:=by omega
   have hjn:(j:Int)<(s.an:Int):=by omega
   clear hcell hcell2 hrow hn1 hRR hpsq hps hpl;cases r
   ·skip;refine roB W0 ?_;refine stq ?_ (fun aa ww ll hh=>?_) ?_;rotate_left
    ·have e5:=hh.oL 5;exact ov gX
    refine stq ?_ (fun aa ww ll hh=>?_) ?_;rotate_left
    ·have e8:=hh.gt 0 0;obtain ⟨q0,q1,q2,q3⟩:=HCE.out ww hh.inv;exact ov gX
    refine stq ?_ (fun aa ww ll hh=>?_) ?_;rotate_left
    ·have e9:=hh.gt 1 0;have ec:=evc aa;exact ov gX
    refine stm 2 0 ?_;refine stq ?_ (fun aa ww ll hh=>?_) ?_;rotate_left
    ·have e5:=hh.oL 5;exact hh.og 0 gX
    refine stq ?_ (fun aa ww ll hh=>?_) ?_;rotate_left
    ·have e12:=hh.gt 4 0;obtain ⟨q0,q1,q2,q3⟩:=HCE.out ww hh.inv;exact hh.og 1 gX
    refine stq ?_ (fun aa ww ll hh=>?_) ?_;rotate_left
    ·have e3:=hh.oL 3;exact hh.og 2 gX
    refine stq ?_ (fun aa ww ll hh=>?_) ?_;rotate_left
    ·have e14:=hh.gt 6 0;obtain ⟨q0,q1,q2,q3⟩:=HCE.out ww hh.inv;exact hh.og 3 gX
    refine stq ?_ (fun aa ww ll hh=>?_) ?_;rotate_left
    ·have e15:=hh.gt 7 0;obtain ⟨q0,q1,q2,q3⟩:=HCE.out ww hh.inv;exact hh.og 4 gX
    refine stq ?_ (fun aa ww ll hh=>?_) ?_;rotate_left
    ·have e13:=hh.gt 5 3;have e16:=hh.gt 8 0;exact hh.og 5 gX
    refine stq ?_ (fun aa ww ll hh=>?_) ?_;rotate_left
    ·have e11:=hh.gt 3 6;have e17:=hh.gt 9 0;have ec:=evc aa;exact ov gX
    refine stm 10 0 ?_;refine stq ?_ (fun aa ww ll hh=>?_) ?_;rotate_left
    ·have e1:=hh.oL 1;refine hh.og 0 ?_;rw[xmv e1]
    refine stq ?_ (fun aa ww ll hh=>?_) ?_;rotate_left
    ·have e5:=hh.oL 5;exact hh.og 1 gX
    refine stq ?_ (fun aa ww ll hh=>?_) ?_;rotate_left
    ·have e21:=hh.gt 13 0;obtain ⟨q0,q1,q2,q3⟩:=HCE.out ww hh.inv;exact hh.og 2 gX
    refine ⟨.eq (.bool false),trivial,rfl,fun aa ww ll hh=>?_,?_⟩
    ·have e20:=hh.gt 12 2;have e22:=hh.gt 14 0;have ef:=evf aa;refine out_call_eq (hh.go 3 rfl (by kernel_rfl) rfl rfl) ?_ (HIN.out ww (HB0.out.trans (hh.inv.mono HB0.out.size)));exact gX
    refine stq ?_ (fun aa ww ll hh=>?_) ?_;rotate_left
    ·have e23:=hh.gt 15 0;exact hh.og 4 gX
    refine stq ?_ (fun aa ww ll hh=>?_) ?_;rotate_left
    ·have e19:=hh.gt 11 5;have e24:=hh.gt 16 0;have ec:=evc aa;exact ov gX
    refine stm 17 0 ?_;refine stk 0 ?_;refine stk 1 ?_;refine stk 2 ?_;refine stk 3 ?_;refine stk 4 ?_;refine stk 5 ?_;refine stk 6 ?_;refine stk 7 ?_;refine stk 8 ?_;refine stk 9 ?_;refine stk 10 ?_;refine stk 11 ?_;refine stq ?_ (fun aa ww ll hh=>?_) ?_;rotate_left
    ·have e26:=hh.gt 18 12;have e38:=hh.gt 30 0;have ec:=evc aa;exact ov gX
    intro ll w3 hS hok;clear hok;simp only[List.reverse_cons,List.reverse_nil,List.nil_append,List.cons_append,layO,Out.val,Act.put,List.setIfInBounds_toArray,List.set_cons_zero,List.set_cons_succ];go_wp2_with fail;go_ret;refine ⟨?_,HB0.out.trans (hS.mono HB0.out.size)⟩;have e:R=false:=by rw[HRR.out];rfl
    rw[e];rfl
   ·by_cases hlen:gn=n1
    ·subst hlen;refine roB W0 ?_;refine stq ?_ (fun aa ww ll hh=>?_) ?_;rotate_left
     ·have e5:=hh.oL 5;exact ov gX
     refine stq ?_ (fun aa ww ll hh=>?_) ?_;rotate_left
     ·have e8:=hh.gt 0 0;obtain ⟨q0,q1,q2,q3⟩:=HCE.out ww hh.inv;exact ov gX
     refine stq ?_ (fun aa ww ll hh=>?_) ?_;rotate_left
     ·have e9:=hh.gt 1 0;have ec:=evc aa;exact ov gX
     refine stm 2 0 ?_;refine stq ?_ (fun aa ww ll hh=>?_) ?_;rotate_left
     ·have e5:=hh.oL 5;exact hh.og 0 gX
     refine stq ?_ (fun aa ww ll hh=>?_) ?_;rotate_left
     ·have e12:=hh.gt 4 0;obtain ⟨q0,q1,q2,q3⟩:=HCE.out ww hh.inv;exact hh.og 1 gX
     refine stq ?_ (fun aa ww ll hh=>?_) ?_;rotate_left
     ·have e3:=hh.oL 3;exact hh.og 2 gX
     refine stq ?_ (fun aa ww ll hh=>?_) ?_;rotate_left
     ·have e14:=hh.gt 6 0;obtain ⟨q0,q1,q2,q3⟩:=HCE.out ww hh.inv;exact hh.og 3 gX
     refine stq ?_ (fun aa ww ll hh=>?_) ?_;rotate_left
     ·have e15:=hh.gt 7 0;obtain ⟨q0,q1,q2,q3⟩:=HCE.out ww hh.inv;exact hh.og 4 gX
     refine stq ?_ (fun aa ww ll hh=>?_) ?_;rotate_left
     ·have e13:=hh.gt 5 3;have e16:=hh.gt 8 0;exact hh.og 5 gX
     refine stq ?_ (fun aa ww ll hh=>?_) ?_;rotate_left
     ·have e11:=hh.gt 3 6;have e17:=hh.gt 9 0;have ec:=evc aa;exact ov gX
     refine stm 10 0 ?_;refine stq ?_ (fun aa ww ll hh=>?_) ?_;rotate_left
     ·have e1:=hh.oL 1;refine hh.og 0 ?_;rw[xmv e1]
     refine stq ?_ (fun aa ww ll hh=>?_) ?_;rotate_left
     ·have e5:=hh.oL 5;exact hh.og 1 gX
     refine stq ?_ (fun aa ww ll hh=>?_) ?_;rotate_left
     ·have e21:=hh.gt 13 0;obtain ⟨q0,q1,q2,q3⟩:=HCE.out ww hh.inv;exact hh.og 2 gX
     refine ⟨.eq (.bool true),trivial,rfl,fun aa ww ll hh=>?_,?_⟩
     ·have e20:=hh.gt 12 2;have e22:=hh.gt 14 0;have ef:=evf aa;refine out_call_eq (hh.go 3 rfl (by kernel_rfl) rfl rfl) ?_ (HIN.out ww (HB0.out.trans (hh.inv.mono HB0.out.size)));exact gX
     refine stq ?_ (fun aa ww ll hh=>?_) ?_;rotate_left
     ·have e23:=hh.gt 15 0;exact hh.og 4 gX
     refine stq ?_ (fun aa ww ll hh=>?_) ?_;rotate_left
     ·have e19:=hh.gt 11 5;have e24:=hh.gt 16 0;have ec:=evc aa;exact ov gX
     refine stm 17 0 ?_;refine stq ?_ (fun aa ww ll hh=>?_) ?_;rotate_left
     ·have e5:=hh.oL 5;exact hh.og 0 gX
     refine stq ?_ (fun aa ww ll hh=>?_) ?_;rotate_left
     ·have e27:=hh.gt 19 0;obtain ⟨q0,q1,q2,q3⟩:=HCE.out ww hh.inv;exact hh.og 1 gX
     refine stq ?_ (fun aa ww ll hh=>?_) ?_;rotate_left
     ·have e28:=hh.gt 20 0;obtain ⟨q0,q1,q2,q3⟩:=HCE.out ww hh.inv;exact hh.og 2 gX
     refine stq ?_ (fun aa ww ll hh=>?_) ?_;rotate_left
     ·have e3:=hh.oL 3;exact hh.og 3 gX
     refine stq ?_ (fun aa ww ll hh=>?_) ?_;rotate_left
     ·have e30:=hh.gt 22 0;obtain ⟨q0,q1,q2,q3⟩:=HCE.out ww hh.inv;exact hh.og 4 gX
     refine stq ?_ (fun aa ww ll hh=>?_) ?_;rotate_left
     ·have e5:=hh.oL 5;exact hh.og 5 gX
     refine stq ?_ (fun aa ww ll hh=>?_) ?_;rotate_left
     ·have e32:=hh.gt 24 0;obtain ⟨q0,q1,q2,q3⟩:=HCE.out ww hh.inv;exact hh.og 6 gX
     refine stq ?_ (fun aa ww ll hh=>?_) ?_;rotate_left
     ·have e31:=hh.gt 23 2;have e33:=hh.gt 25 0;exact hh.og 7 gX
     refine stq ?_ (fun aa ww ll hh=>?_) ?_;rotate_left
     ·have e34:=hh.gt 26 0;exact hh.og 8 gX
     refine stq ?_ (fun aa ww ll hh=>?_) ?_;rotate_left
     ·have e35:=hh.gt 27 0;obtain ⟨q0,q1,q2,q3⟩:=HCE.out ww hh.inv;exact hh.og 9 gX
     refine stq ?_ (fun aa ww ll hh=>?_) ?_;rotate_left
     ·have e36:=hh.gt 28 0;obtain ⟨q0,q1,q2,q3⟩:=HCE.out ww hh.inv;exact hh.og 10 gX
     refine stq ?_ (fun aa ww ll hh=>?_) ?_;rotate_left
     ·have e29:=hh.gt 21 8;have e37:=hh.gt 29 0;exact hh.og 11 gX
     refine stq ?_ (fun aa ww ll hh=>?_) ?_;rotate_left
     ·have e26:=hh.gt 18 12;have e38:=hh.gt 30 0;have ec:=evc aa;exact ov gX
     intro ll w3 hS hok;clear hok;simp only[List.reverse_cons,List.reverse_nil,List.nil_append,List.cons_append,layO,Out.val,Act.put,List.setIfInBounds_toArray,List.set_cons_zero,List.set_cons_succ];go_wp2_with fail;have HS2:=hD hS;clear hS;go_loopw [7] (fun i wr=>∃k:Nat,k<=gn/\i= .int .i64 k/\Hid (Below W0.heap.size W0 wr)/\Hid (∀ q,q<k->fitsP (args.getD q 0) (ps.getD q 0)=true)) (fun i _=>gn-(intOf i).toNat)
     case atStart=>exact ⟨0,Nat.zero_le _,rfl,HS2.out,fun q hq=>absurd hq (by omega)⟩
     case round=>
      obtain ⟨k,hk,rfl,HW,HQ⟩:=hrel;obtain ⟨d0,d1,d2,d3⟩:=HCE.out wr HW.out;by_cases hlt:k<gn
      ·obtain ⟨gb,go,hgp,hgb,hnv,hc0,hc1⟩:=(HG.out.below keepN (HB0.out.trans (HW.out.mono HB0.out.size))).get (some_getD 0 (by have:=HGL.out;omega:k<args.length));obtain ⟨pb,po,hpp,hpb,hpc⟩:=IRow.el (HROW.out.below keepI (HB0.out.trans (HW.out.mono HB0.out.size))) (j:=k) (by have:=HN1.out;omega);obtain ⟨va,hva⟩:∃va,va=args.getD k 0:=⟨_,rfl⟩;obtain ⟨vp,hvp⟩:∃vp,vp=ps.getD k 0:=⟨_,rfl⟩;rw[<- hva] at hc0 hc1 hnv;rw[<- hvp] at hpc;have HFI:Hid (∀ W,Calls Tryz.prog 55 #[.agg #[.int .u64 ((va/B:Nat):Int), .int .u64 ((va%B:Nat):Int)], .int .i64 vp] W fun e w'=>e= .returned (.bool (fitsP va vp))/\Below W.heap.size W w'):=fun W=>fits01_any va vp W hnv
       generalize ((va/B:Nat):Int)=g1 at*;generalize ((va%B:Nat):Int)=g2 at*;obtain ⟨rf,hrf⟩:∃rf,rf=fitsP va vp:=⟨_,rfl⟩;rw[<- hrf] at HFI;rw[hva,hvp] at hrf;have HRF:=hD hrf;have HCF:Hid (∀ W,Below wr.heap.size wr W->W.cell? ⟨w.heap.size,3,none⟩=some (.slice (some ⟨ab,ao,none⟩) s.an s.ac)/\W.cell? ⟨w.heap.size+1,0,none⟩=some (.int .i64 (j:Int))/\W.cell? ⟨w.heap.size+1,1,none⟩=some (.slice (some ⟨gb,go,none⟩) gn gc)/\W.cell? ⟨ab,ao+j*2,none⟩=some (.slice (some ⟨pb,po,none⟩) gn c1)/\W.cell? ⟨gb,go+k*2,none⟩=some (.int .u64 g1)/\W.cell? ⟨gb,go+k*2+1,none⟩=some (.int .u64 g2)/\W.cell? ⟨pb,po+k,none⟩=some (.int .i64 vp)):=fun W h=>by
        obtain ⟨a0,a1,a2,a3⟩:=HCE.out W (HW.out.trans (h.mono HW.out.size));rw[hgp] at a2;rw[hpp] at a3;exact ⟨a0,a1,a2,a3,(h.cell (p:=⟨gb,go+k*2,none⟩) hgb).trans hc0,(h.cell (p:=⟨gb,go+k*2+1,none⟩) hgb).trans hc1,(h.cell (p:=⟨pb,po+k,none⟩) hpb).trans hpc⟩
       have hki:(k:Int)<(gn:Int):=by omega
       clear hva hvp hnv hc0 hc1 hpc hrf;go_upto_region 6 with fail
       clear d0 d1 d2 d3;cases rf
       ·skip;refine roB wr ?_;refine stq ?_ (fun aa ww ll hh=>?_) ?_;rotate_left
        ·have e5:=hh.oL 5;exact ov gX
        refine stq ?_ (fun aa ww ll hh=>?_) ?_;rotate_left
        ·have e47:=hh.gt 0 0;obtain ⟨q0,q1,q2,q3,q4,q5,q6⟩:=HCF.out ww hh.inv;exact ov gX
        refine stq ?_ (fun aa ww ll hh=>?_) ?_;rotate_left
        ·have e7:=hh.oL 7;refine ov ?_;rw[xmv e7]
        refine stq ?_ (fun aa ww ll hh=>?_) ?_;rotate_left
        ·have e48:=hh.gt 1 1;have e49:=hh.gt 2 0;exact ov gX
        refine stq ?_ (fun aa ww ll hh=>?_) ?_;rotate_left
        ·have e50:=hh.gt 3 0;obtain ⟨q0,q1,q2,q3,q4,q5,q6⟩:=HCF.out ww hh.inv;exact ov gX
        refine stq ?_ (fun aa ww ll hh=>?_) ?_;rotate_left
        ·have e3:=hh.oL 3;exact ov gX
        refine stq ?_ (fun aa ww ll hh=>?_) ?_;rotate_left
        ·have e52:=hh.gt 5 0;obtain ⟨q0,q1,q2,q3,q4,q5,q6⟩:=HCF.out ww hh.inv;exact ov gX
        refine stq ?_ (fun aa ww ll hh=>?_) ?_;rotate_left
        ·have e5:=hh.oL 5;exact ov gX
        refine stq ?_ (fun aa ww ll hh=>?_) ?_;rotate_left
        ·have e54:=hh.gt 7 0;obtain ⟨q0,q1,q2,q3,q4,q5,q6⟩:=HCF.out ww hh.inv;exact ov gX
        refine stq ?_ (fun aa ww ll hh=>?_) ?_;rotate_left
        ·have e53:=hh.gt 6 2;have e55:=hh.gt 8 0;exact ov gX
        refine stq ?_ (fun aa ww ll hh=>?_) ?_;rotate_left
        ·have e56:=hh.gt 9 0;exact ov gX
        refine stq ?_ (fun aa ww ll hh=>?_) ?_;rotate_left
        ·have e57:=hh.gt 10 0;obtain ⟨q0,q1,q2,q3,q4,q5,q6⟩:=HCF.out ww hh.inv;exact ov gX
        refine stq ?_ (fun aa ww ll hh=>?_) ?_;rotate_left
        ·have e7:=hh.oL 7;refine ov ?_;rw[xmv e7]
        refine stq ?_ (fun aa ww ll hh=>?_) ?_;rotate_left
        ·have e58:=hh.gt 11 1;have e59:=hh.gt 12 0;exact ov gX
        refine stq ?_ (fun aa ww ll hh=>?_) ?_;rotate_left
        ·have e60:=hh.gt 13 0;obtain ⟨q0,q1,q2,q3,q4,q5,q6⟩:=HCF.out ww hh.inv;exact ov gX
        refine ⟨.eq (.bool false),trivial,rfl,fun aa ww ll hh=>?_,?_⟩
        ·have e51:=hh.gt 4 10;have e61:=hh.gt 14 0;have ef:=evf aa;refine out_call_eq (wanted_none rfl) ?_ (HFI.out ww);exact gX
        refine stq ?_ (fun aa ww ll hh=>?_) ?_;rotate_left
        ·have e62:=hh.gt 15 0;exact ov gX
        intro ll w3 hS hok;clear hok;simp only[List.reverse_cons,List.reverse_nil,List.nil_append,List.cons_append,layO,Out.val,Act.put,List.setIfInBounds_toArray,List.set_cons_zero,List.set_cons_succ];go_wp2_with fail;go_ret;refine ⟨?_,HB0.out.trans ((HW.out.trans (hS.mono HW.out.size)).mono HB0.out.size)⟩;have e:R=false:=by
         rw[HRR.out,Bool.true_and,Bool.and_eq_false_iff];refine .inr ?_;rw[Bool.eq_false_iff];intro hc;have:=(zip_all (by have:=HGL.out;have:=HN1.out;omega)).1 hc k (by have:=HGL.out;omega);rw[<- HRF.out] at this;cases this
        rw[e];rfl
       ·skip;refine roB wr ?_;refine stq ?_ (fun aa ww ll hh=>?_) ?_;rotate_left
        ·have e5:=hh.oL 5;exact ov gX
        refine stq ?_ (fun aa ww ll hh=>?_) ?_;rotate_left
        ·have e47:=hh.gt 0 0;obtain ⟨q0,q1,q2,q3,q4,q5,q6⟩:=HCF.out ww hh.inv;exact ov gX
        refine stq ?_ (fun aa ww ll hh=>?_) ?_;rotate_left
        ·have e7:=hh.oL 7;refine ov ?_;rw[xmv e7]
        refine stq ?_ (fun aa ww ll hh=>?_) ?_;rotate_left
        ·have e48:=hh.gt 1 1;have e49:=hh.gt 2 0;exact ov gX
        refine stq ?_ (fun aa ww ll hh=>?_) ?_;rotate_left
        ·have e50:=hh.gt 3 0;obtain ⟨q0,q1,q2,q3,q4,q5,q6⟩:=HCF.out ww hh.inv;exact ov gX
        refine stq ?_ (fun aa ww ll hh=>?_) ?_;rotate_left
        ·have e3:=hh.oL 3;exact ov gX
        refine stq ?_ (fun aa ww ll hh=>?_) ?_;rotate_left
        ·have e52:=hh.gt 5 0;obtain ⟨q0,q1,q2,q3,q4,q5,q6⟩:=HCF.out ww hh.inv;exact ov gX
        refine stq ?_ (fun aa ww ll hh=>?_) ?_;rotate_left
        ·have e5:=hh.oL 5;exact ov gX
        refine stq ?_ (fun aa ww ll hh=>?_) ?_;rotate_left
        ·have e54:=hh.gt 7 0;obtain ⟨q0,q1,q2,q3,q4,q5,q6⟩:=HCF.out ww hh.inv;exact ov gX
        refine stq ?_ (fun aa ww ll hh=>?_) ?_;rotate_left
        ·have e53:=hh.gt 6 2;have e55:=hh.gt 8 0;exact ov gX
        refine stq ?_ (fun aa ww ll hh=>?_) ?_;rotate_left
        ·have e56:=hh.gt 9 0;exact ov gX
        refine stq ?_ (fun aa ww ll hh=>?_) ?_;rotate_left
        ·have e57:=hh.gt 10 0;obtain ⟨q0,q1,q2,q3,q4,q5,q6⟩:=HCF.out ww hh.inv;exact ov gX
        refine stq ?_ (fun aa ww ll hh=>?_) ?_;rotate_left
        ·have e7:=hh.oL 7;refine ov ?_;rw[xmv e7]
        refine stq ?_ (fun aa ww ll hh=>?_) ?_;rotate_left
        ·have e58:=hh.gt 11 1;have e59:=hh.gt 12 0;exact ov gX
        refine stq ?_ (fun aa ww ll hh=>?_) ?_;rotate_left
        ·have e60:=hh.gt 13 0;obtain ⟨q0,q1,q2,q3,q4,q5,q6⟩:=HCF.out ww hh.inv;exact ov gX
        refine ⟨.eq (.bool true),trivial,rfl,fun aa ww ll hh=>?_,?_⟩
        ·have e51:=hh.gt 4 10;have e61:=hh.gt 14 0;have ef:=evf aa;refine out_call_eq (wanted_none rfl) ?_ (HFI.out ww);exact gX
        refine stq ?_ (fun aa ww ll hh=>?_) ?_;rotate_left
        ·have e62:=hh.gt 15 0;exact ov gX
        intro ll w3 hS hok;clear hok;simp only[List.reverse_cons,List.reverse_nil,List.nil_append,List.cons_append,layO,Out.val,Act.put,List.setIfInBounds_toArray,List.set_cons_zero,List.set_cons_succ];go_wp2_with fail;go_roundw
        case rel=>exact ⟨k+1,by omega,by go_num,HW.out.trans (hS.mono HW.out.size),fun q hq=>by
         rcases Nat.lt_or_ge q k with h|h
         ·exact HQ.out q h
         ·obtain rfl:q=k:=by omega
          exact HRF.out.symm⟩
        case measure=>simp[intOf];omega
      ·obtain rfl:k=gn:=by omega
       go_wp2_with fail;go_ret;refine ⟨?_,HB0.out.trans (HW.out.mono HB0.out.size)⟩;have e:R=true:=by
        rw[HRR.out,Bool.true_and,decide_eq_true (by have:=HGL.out;have:=HN1.out;omega),Bool.true_and];exact (zip_all (by have:=HGL.out;have:=HN1.out;omega)).2 fun q hq=>HQ.out q (by have:=HGL.out;omega)
       rw[e];rfl
    ·have hlen':¬(gn:Int)=(n1:Int):=by omega
     refine roB W0 ?_;refine stq ?_ (fun aa ww ll hh=>?_) ?_;rotate_left
     ·have e5:=hh.oL 5;exact ov gX
     refine stq ?_ (fun aa ww ll hh=>?_) ?_;rotate_left
     ·have e8:=hh.gt 0 0;obtain ⟨q0,q1,q2,q3⟩:=HCE.out ww hh.inv;exact ov gX
     refine stq ?_ (fun aa ww ll hh=>?_) ?_;rotate_left
     ·have e9:=hh.gt 1 0;have ec:=evc aa;exact ov gX
     refine stm 2 0 ?_;refine stq ?_ (fun aa ww ll hh=>?_) ?_;rotate_left
     ·have e5:=hh.oL 5;exact hh.og 0 gX
     refine stq ?_ (fun aa ww ll hh=>?_) ?_;rotate_left
     ·have e12:=hh.gt 4 0;obtain ⟨q0,q1,q2,q3⟩:=HCE.out ww hh.inv;exact hh.og 1 gX
     refine stq ?_ (fun aa ww ll hh=>?_) ?_;rotate_left
     ·have e3:=hh.oL 3;exact hh.og 2 gX
     refine stq ?_ (fun aa ww ll hh=>?_) ?_;rotate_left
     ·have e14:=hh.gt 6 0;obtain ⟨q0,q1,q2,q3⟩:=HCE.out ww hh.inv;exact hh.og 3 gX
     refine stq ?_ (fun aa ww ll hh=>?_) ?_;rotate_left
     ·have e15:=hh.gt 7 0;obtain ⟨q0,q1,q2,q3⟩:=HCE.out ww hh.inv;exact hh.og 4 gX
     refine stq ?_ (fun aa ww ll hh=>?_) ?_;rotate_left
     ·have e13:=hh.gt 5 3;have e16:=hh.gt 8 0;exact hh.og 5 gX
     refine stq ?_ (fun aa ww ll hh=>?_) ?_;rotate_left
     ·have e11:=hh.gt 3 6;have e17:=hh.gt 9 0;have ec:=evc aa;exact ov gX
     refine stm 10 0 ?_;refine stq ?_ (fun aa ww ll hh=>?_) ?_;rotate_left
     ·have e1:=hh.oL 1;refine hh.og 0 ?_;rw[xmv e1]
     refine stq ?_ (fun aa ww ll hh=>?_) ?_;rotate_left
     ·have e5:=hh.oL 5;exact hh.og 1 gX
     refine stq ?_ (fun aa ww ll hh=>?_) ?_;rotate_left
     ·have e21:=hh.gt 13 0;obtain ⟨q0,q1,q2,q3⟩:=HCE.out ww hh.inv;exact hh.og 2 gX
     refine ⟨.eq (.bool true),trivial,rfl,fun aa ww ll hh=>?_,?_⟩
     ·have e20:=hh.gt 12 2;have e22:=hh.gt 14 0;have ef:=evf aa;refine out_call_eq (hh.go 3 rfl (by kernel_rfl) rfl rfl) ?_ (HIN.out ww (HB0.out.trans (hh.inv.mono HB0.out.size)));exact gX
     refine stq ?_ (fun aa ww ll hh=>?_) ?_;rotate_left
     ·have e23:=hh.gt 15 0;exact hh.og 4 gX
     refine stq ?_ (fun aa ww ll hh=>?_) ?_;rotate_left
     ·have e19:=hh.gt 11 5;have e24:=hh.gt 16 0;have ec:=evc aa;exact ov gX
     refine stm 17 0 ?_;refine stq ?_ (fun aa ww ll hh=>?_) ?_;rotate_left
     ·have e5:=hh.oL 5;exact hh.og 0 gX
     refine stq ?_ (fun aa ww ll hh=>?_) ?_;rotate_left
     ·have e27:=hh.gt 19 0;obtain ⟨q0,q1,q2,q3⟩:=HCE.out ww hh.inv;exact hh.og 1 gX
     refine stq ?_ (fun aa ww ll hh=>?_) ?_;rotate_left
     ·have e28:=hh.gt 20 0;obtain ⟨q0,q1,q2,q3⟩:=HCE.out ww hh.inv;exact hh.og 2 gX
     refine stq ?_ (fun aa ww ll hh=>?_) ?_;rotate_left
     ·have e3:=hh.oL 3;exact hh.og 3 gX
     refine stq ?_ (fun aa ww ll hh=>?_) ?_;rotate_left
     ·have e30:=hh.gt 22 0;obtain ⟨q0,q1,q2,q3⟩:=HCE.out ww hh.inv;exact hh.og 4 gX
     refine stq ?_ (fun aa ww ll hh=>?_) ?_;rotate_left
     ·have e5:=hh.oL 5;exact hh.og 5 gX
     refine stq ?_ (fun aa ww ll hh=>?_) ?_;rotate_left
     ·have e32:=hh.gt 24 0;obtain ⟨q0,q1,q2,q3⟩:=HCE.out ww hh.inv;exact hh.og 6 gX
     refine stq ?_ (fun aa ww ll hh=>?_) ?_;rotate_left
     ·have e31:=hh.gt 23 2;have e33:=hh.gt 25 0;exact hh.og 7 gX
     refine stq ?_ (fun aa ww ll hh=>?_) ?_;rotate_left
     ·have e34:=hh.gt 26 0;exact hh.og 8 gX
     refine stq ?_ (fun aa ww ll hh=>?_) ?_;rotate_left
     ·have e35:=hh.gt 27 0;obtain ⟨q0,q1,q2,q3⟩:=HCE.out ww hh.inv;exact hh.og 9 gX
     refine stq ?_ (fun aa ww ll hh=>?_) ?_;rotate_left
     ·have e36:=hh.gt 28 0;obtain ⟨q0,q1,q2,q3⟩:=HCE.out ww hh.inv;exact hh.og 10 gX
     refine stq ?_ (fun aa ww ll hh=>?_) ?_;rotate_left
     ·have e29:=hh.gt 21 8;have e37:=hh.gt 29 0;exact hh.og 11 gX
     refine stq ?_ (fun aa ww ll hh=>?_) ?_;rotate_left
     ·have e26:=hh.gt 18 12;have e38:=hh.gt 30 0;have ec:=evc aa;exact ov gX
     intro ll w3 hS hok;clear hok;simp only[List.reverse_cons,List.reverse_nil,List.nil_append,List.cons_append,layO,Out.val,Act.put,List.setIfInBounds_toArray,List.set_cons_zero,List.set_cons_succ];go_wp2_with fail;go_ret;refine ⟨?_,HB0.out.trans (hS.mono HB0.out.size)⟩;have e:R=false:=by rw[HRR.out,decide_eq_false (by have:=HGL.out;have:=HN1.out;omega)];rfl
     rw[e];rfl
end Go.Proofs.YtjfhfaodbjecdaaGreat
