/-
  Layer 10's document, walked: mayStep.
-/
import Derived.Test.YtjfhfaodbjecdaaGreatJC10
set_option maxHeartbeats 12800000
set_option maxRecDepth 100000
namespace Go.Proofs.YtjfhfaodbjecdaaGreat
open Go.RowKit
def SBox (w:World) (g:Nat) (tp:Option Addr) (tn tc:Nat) (kp:Option Addr) (kn kc:Nat) (bp:Option Addr) (bn bc:Nat) (to:Int):Prop:=w.heap[g]?=some (.cells #[.slice tp tn tc, .slice kp kn kc, .slice bp bn bc, .int .i64 to] 92 (0,0))
section
variable {w w':World} {g:Nat} {tp kp bp:Option Addr} {tn tc kn kc bn bc:Nat} {to:Int}
theorem SBox.cells (h:SBox w g tp tn tc kp kn kc bp bn bc to):w.cell? ⟨g,0,none⟩=some (.slice tp tn tc)/\w.cell? ⟨g,1,none⟩=some (.slice kp kn kc)/\w.cell? ⟨g,2,none⟩=some (.slice bp bn bc)/\w.cell? ⟨g,3,none⟩=some (.int .i64 to):=by
 unfold SBox at h;refine ⟨?_,?_,?_,?_⟩<;>simp[World.cell?,h]
theorem SBox.below (h:SBox w g tp tn tc kp kn kc bp bn bc to) (hb:Below w.heap.size w w'):SBox w' g tp tn tc kp kn kc bp bn bc to:=(hb.block g (Array.getElem?_eq_some_iff.1 h).1).trans h
end
def brOk (p:Prg) (kn k:Nat) (v:Int) (b:Brn):Bool:=decide (-2<=b.to/\b.to<(p.steps.length:Int)/\b.pats.length=kn)&&mayPatP (b.pats.getD k ⟨0,0⟩) v
def keyO (p:Prg) (kn:Nat) (brs:List Brn) (k:Nat):Option Int->Bool
 |none=>false
 |some v=>brs.all (brOk p kn k v)
def keyS (p:Prg) (kn:Nat) (brs:List Brn) (k:Nat) (c:List Nod):Bool:=keyO p kn brs k (widthP p (-1) c)
theorem keyO_def (p:Prg) (kn:Nat) (brs:List Brn) (k:Nat) (o:Option Int):keyO p kn brs k o=match o with|none=>false|some v=>brs.all (brOk p kn k v):=by cases o<;>rfl
theorem mayStep_eq (p:Prg) (s:Stp):mayStepP p s=(decide (s.takes.length<=8/\s.keys.length<=4/\ -2<=s.to/\s.to<(p.steps.length:Int))&&s.takes.all (fun h=>decide (0<=h/\h<(p.heads.length:Int)))&&
 (if s.keys.length=0 then decide (s.brs.length=0) else decide (s.to=0/\1<=s.brs.length/\s.brs.length<=16)&&allIdx (keyS p s.keys.length s.brs) 0 s.keys)):=by
 unfold mayStepP keyS;simp only[keyO_def];rfl
theorem BrnRow.el {w:World} {p:Option Addr} {n c:Nat} {l:List Brn} (h:BrnRow w (.slice p n c) l) {j:Nat} {x:Brn} (hj:l[j]?=some x):∃b o p1 n1 c1,p=some ⟨b,o,none⟩/\b<w.heap.size/\w.cell? ⟨b,o+j*2,none⟩=some (.slice p1 n1 c1)/\PRow w (.slice p1 n1 c1) x.pats/\w.cell? ⟨b,o+j*2+1,none⟩=some (.int .i64 x.to):=by
 obtain ⟨b,o,e,h1,⟨p1,n1,c1,h2,h3⟩,h4⟩:=h.get hj;exact ⟨b,o,p1,n1,c1,e,h1,h2,h3,h4⟩
theorem all_false {α:Type} {f:α->Bool} {l:List α} {j:Nat} {x:α} (hj:l[j]?=some x) (hf:f x=false):l.all f=false:=by
 rw[Bool.eq_false_iff];intro h;rw[List.all_eq_true] at h;have:=h x (List.mem_of_getElem? hj);rw[hf] at this;cases this
theorem all_true {α:Type} {f:α->Bool} {l:List α} (h:∀(j:Nat) (x:α),l[j]?=some x->f x=true):l.all f=true:=by
 rw[List.all_eq_true];intro x hx;obtain ⟨j,hj⟩:=List.getElem?_of_mem hx;exact h j x hj
theorem mayStep_any (s:PgS) (p:Prg) (t:Stp) (tp:Option Addr) (tn tc:Nat) (kp:Option Addr) (kn kc:Nat) (bp:Option Addr) (bn bc:Nat) (w:World) (hp:PgOk w s p) (hS:Sm p)
 (ht:IRow w (.slice tp tn tc) t.takes) (hk:CsRow w (.slice kp kn kc) t.keys) (hb:BrnRow w (.slice bp bn bc) t.brs) (htn:tn<=6000) (hkn:kn<=6000) (hbn:bn<=6000) (hcs:∀c∈t.keys,c.length<=6000):
 Calls Tryz.prog 37 #[pgV s, .agg #[.slice tp tn tc, .slice kp kn kc, .slice bp bn bc, .int .i64 t.to]] w fun e w'=>e= .returned (.bool (mayStepP p t))/\Below w.heap.size w w':=by
 obtain ⟨R,hR⟩:∃R,R=mayStepP p t:=⟨_,rfl⟩;rw[<- hR];obtain ⟨ht1,ht2,ht3,-⟩:=ht.ln;obtain ⟨hk1,hk2,hk3,-⟩:=hk.ln;obtain ⟨hb1,hb2,hb3,-⟩:=hb.ln;obtain ⟨hs1,-,-,-⟩:=hp.steps.ln;obtain ⟨hd1,-,-,-⟩:=hp.heads.ln;obtain ⟨to,hto⟩:∃to,to=t.to:=⟨_,rfl⟩;have hR2:R=(decide (tn<=8/\kn<=4/\ -2<=to/\to<(s.sn:Int))&&t.takes.all (fun h=>decide (0<=h/\h<(s.hn:Int)))&&(if kn=0 then decide (bn=0) else decide (to=0/\1<=bn/\bn<=16)&&allIdx (keyS p kn t.brs) 0 t.keys)):=by
  rw[hR,mayStep_eq,ht1,hk1,hb1,hs1,hd1,hto]
 have HR:=hD hR2;have HT:=hD ht;have HK:=hD hk;have HB:=hD hb;have HE:=hD (And.intro ht1 (And.intro hk1 (And.intro hb1 hs1)));have HCS:=hD hcs;have HPP:=hD hp;have HWD:Hid (∀ W c cp cn cc,Below w.heap.size w W->CRow W (.slice cp cn cc) c->cn<=6000->Calls Tryz.prog 60 #[pgV s, .int .i64 (-1), .slice cp cn cc] W fun e w'=>e= .returned (wRes (widthP p (-1) c))/\Below W.heap.size W w'):=fun W c cp cn cc h hc hn=>width_any s p (-1) c cp cn cc W (hp.below h) hS hc hn
 rw[<- hto];clear hR hR2 hp hS ht hk hb hcs ht1 hk1 hb1 hs1 hd1 hto;unfold pgV at HWD⊢;go_enter Tryz.func37,Tryz.ntmps37;go_upto_region 1 with fail
 obtain ⟨W0,hW0⟩:∃W0,W0=(w.alloc (.cells (pA s) 33)).alloc (.cells #[.slice tp tn tc, .slice kp kn kc, .slice bp bn bc, .int .i64 to] 92):=⟨_,rfl⟩;have HB0:Hid (Below w.heap.size w W0):=by show Below _ _ _;rw[hW0];exact (by repeat (first|exact Below.refl _ _|assumption|refine Below.drew ?_|refine blA ?_|refine blS ?_|refine blT ?_ (by assumption)))
 have HPB:Hid (PBox W0 w.heap.size s):=by show _=_;rw[hW0,Below.heap_alloc _ _ _ (by simp)];exact heap_new _ _
 have HSB:Hid (SBox W0 (w.heap.size+1) tp tn tc kp kn kc bp bn bc to):=by
  show _=_;rw[hW0];have:=heap_new (w.alloc (.cells (pA s) 33)) (.cells #[.slice tp tn tc, .slice kp kn kc, .slice bp bn bc, .int .i64 to] 92);simp only[World.size_alloc] at this;exact this
 rw[<- hW0];clear hW0;obtain ⟨q0,q1,q2,q3,q4,q5,q6,q7,q8,q9,q10,q11⟩:=HPB.out.cells;obtain ⟨t0,t1,t2,t3⟩:=HSB.out.cells;by_cases hA:tn<=8/\kn<=4/\ -2<=to/\to<(s.sn:Int)
 ·have HA:=hD hA;obtain ⟨a1,a2,a3,a4⟩:=hA;have b1:¬8<(tn:Int):=by omega
  have b2:¬4<(kn:Int):=by omega
  have b3:¬to< -2:=by omega
  have b4:¬(s.sn:Int)<=to:=by omega
  have hR3:R=(t.takes.all (fun h=>decide (0<=h/\h<(s.hn:Int)))&&(if kn=0 then decide (bn=0) else decide (to=0/\1<=bn/\bn<=16)&&allIdx (keyS p kn t.brs) 0 t.keys)):=by
   rw[HR.out,decide_eq_true HA.out];rfl
  have HR3:=hD hR3;clear hR3;go_wp2_with fail;go_loopw [5] (fun i wr=>∃k:Nat,k<=tn/\i= .int .i64 k/\Hid (Below W0.heap.size W0 wr)/\Hid (∀ j x,j<k->t.takes[j]?=some x->0<=x/\x<(s.hn:Int))) (fun i _=>tn-(intOf i).toNat)
  case atStart=>exact ⟨0,Nat.zero_le _,rfl,Below.refl _ _,fun j _ hj=>absurd hj (by omega)⟩
  case round=>
   clear q0 q1 q2 q3 q4 q5 q6 q7 q8 q9 q10 q11 t0 t1 t2 t3;obtain ⟨k,hkk,rfl,HW,HQ⟩:=hrel;have hbw:=HB0.out.trans (HW.out.mono HB0.out.size);obtain ⟨q0,q1,q2,q3,q4,q5,q6,q7,q8,q9,q10,q11⟩:=(HPB.out.below HW.out).cells;obtain ⟨t0,t1,t2,t3⟩:=(HSB.out.below HW.out).cells;by_cases hlt:k<tn
   ·obtain ⟨rb,ro,htp,hrb,hrc⟩:=IRow.el (HT.out.below keepI hbw) (j:=k) (by have:=HE.out.1;omega);obtain ⟨x,hx⟩:∃x,x=t.takes.getD k 0:=⟨_,rfl⟩;have hxk:t.takes[k]?=some x:=by rw[hx];exact some_getD 0 (by have:=HE.out.1;omega)
    rw[<- hx] at hrc;have HXK:=hD hxk;have HCE:Hid (∀ W,Below wr.heap.size wr W->W.cell? ⟨w.heap.size,0,none⟩=some (.slice s.hp s.hn s.hc)/\W.cell? ⟨w.heap.size+1,0,none⟩=some (.slice (some ⟨rb,ro,none⟩) tn tc)/\W.cell? ⟨rb,ro+k,none⟩=some (.int .i64 x)):=fun W h=>by
     obtain ⟨x0,-⟩:=(HPB.out.below (HW.out.trans (h.mono HW.out.size))).cells;obtain ⟨x1,-⟩:=(HSB.out.below (HW.out.trans (h.mono HW.out.size))).cells;rw[htp] at x1;exact ⟨x0,x1,(h.cell (p:=⟨rb,ro+k,none⟩) hrb).trans hrc⟩
    rw[htp] at t0;have hki:(k:Int)<(tn:Int):=by omega
    clear hx hxk hrc htp;go_upto_region 6 with fail
    clear q0 q1 q2 q3 q4 q5 q6 q7 q8 q9 q10 q11 t0 t1 t2 t3;by_cases hx0:x<0
    ·have hr:R=false:=by rw[HR3.out,all_false HXK.out (decide_eq_false (by omega))];rfl
     refine roB wr ?_;refine stq ?_ (fun aa ww ll hh=>?_) ?_;rotate_left
     ·have e3:=hh.oL 3;exact ov gX
     refine stq ?_ (fun aa ww ll hh=>?_) ?_;rotate_left
     ·have e41:=hh.gt 0 0;obtain ⟨c0,c1,c2⟩:=HCE.out ww hh.inv;exact ov gX
     refine stq ?_ (fun aa ww ll hh=>?_) ?_;rotate_left
     ·have e5:=hh.oL 5;refine ov ?_;rw[xmv e5]
     refine stq ?_ (fun aa ww ll hh=>?_) ?_;rotate_left
     ·have e42:=hh.gt 1 1;have e43:=hh.gt 2 0;exact ov gX
     refine stq ?_ (fun aa ww ll hh=>?_) ?_;rotate_left
     ·have e44:=hh.gt 3 0;obtain ⟨c0,c1,c2⟩:=HCE.out ww hh.inv;exact ov gX
     refine stq ?_ (fun aa ww ll hh=>?_) ?_;rotate_left
     ·have e45:=hh.gt 4 0;have ec:=evc aa;exact ov gX
     refine stm 5 0 ?_;refine stk 0 ?_;refine stk 1 ?_;refine stk 2 ?_;refine stk 3 ?_;refine stk 4 ?_;refine stk 5 ?_;refine stk 6 ?_;refine stk 7 ?_;refine stk 8 ?_;refine stq ?_ (fun aa ww ll hh=>?_) ?_;rotate_left
     ·have e47:=hh.gt 6 9;have e56:=hh.gt 15 0;have ec:=evc aa;exact ov gX
     intro ll w3 hS hok;clear hok;simp only[List.reverse_cons,List.reverse_nil,List.nil_append,List.cons_append,layO,Out.val,Act.put,List.setIfInBounds_toArray,List.set_cons_zero,List.set_cons_succ];go_wp2_with fail;go_ret;exact ⟨by first|rfl|(rw[hr];rfl),hbw.trans (hS.mono hbw.size)⟩
    ·by_cases hx1:(s.hn:Int)<=x
     ·have hr:R=false:=by rw[HR3.out,all_false HXK.out (decide_eq_false (by omega))];rfl
      refine roB wr ?_;refine stq ?_ (fun aa ww ll hh=>?_) ?_;rotate_left
      ·have e3:=hh.oL 3;exact ov gX
      refine stq ?_ (fun aa ww ll hh=>?_) ?_;rotate_left
      ·have e41:=hh.gt 0 0;obtain ⟨c0,c1,c2⟩:=HCE.out ww hh.inv;exact ov gX
      refine stq ?_ (fun aa ww ll hh=>?_) ?_;rotate_left
      ·have e5:=hh.oL 5;refine ov ?_;rw[xmv e5]
      refine stq ?_ (fun aa ww ll hh=>?_) ?_;rotate_left
      ·have e42:=hh.gt 1 1;have e43:=hh.gt 2 0;exact ov gX
      refine stq ?_ (fun aa ww ll hh=>?_) ?_;rotate_left
      ·have e44:=hh.gt 3 0;obtain ⟨c0,c1,c2⟩:=HCE.out ww hh.inv;exact ov gX
      refine stq ?_ (fun aa ww ll hh=>?_) ?_;rotate_left
      ·have e45:=hh.gt 4 0;have ec:=evc aa;exact ov gX
      refine stm 5 0 ?_;refine stq ?_ (fun aa ww ll hh=>?_) ?_;rotate_left
      ·have e3:=hh.oL 3;exact hh.og 0 gX
      refine stq ?_ (fun aa ww ll hh=>?_) ?_;rotate_left
      ·have e48:=hh.gt 7 0;obtain ⟨c0,c1,c2⟩:=HCE.out ww hh.inv;exact hh.og 1 gX
      refine stq ?_ (fun aa ww ll hh=>?_) ?_;rotate_left
      ·have e5:=hh.oL 5;refine hh.og 2 ?_;rw[xmv e5]
      refine stq ?_ (fun aa ww ll hh=>?_) ?_;rotate_left
      ·have e49:=hh.gt 8 1;have e50:=hh.gt 9 0;exact hh.og 3 gX
      refine stq ?_ (fun aa ww ll hh=>?_) ?_;rotate_left
      ·have e51:=hh.gt 10 0;obtain ⟨c0,c1,c2⟩:=HCE.out ww hh.inv;exact hh.og 4 gX
      refine stq ?_ (fun aa ww ll hh=>?_) ?_;rotate_left
      ·have e2:=hh.oL 2;exact hh.og 5 gX
      refine stq ?_ (fun aa ww ll hh=>?_) ?_;rotate_left
      ·have e53:=hh.gt 12 0;obtain ⟨c0,c1,c2⟩:=HCE.out ww hh.inv;exact hh.og 6 gX
      refine stq ?_ (fun aa ww ll hh=>?_) ?_;rotate_left
      ·have e54:=hh.gt 13 0;obtain ⟨c0,c1,c2⟩:=HCE.out ww hh.inv;exact hh.og 7 gX
      refine stq ?_ (fun aa ww ll hh=>?_) ?_;rotate_left
      ·have e52:=hh.gt 11 3;have e55:=hh.gt 14 0;exact hh.og 8 gX
      refine stq ?_ (fun aa ww ll hh=>?_) ?_;rotate_left
      ·have e47:=hh.gt 6 9;have e56:=hh.gt 15 0;have ec:=evc aa;exact ov gX
      intro ll w3 hS hok;clear hok;simp only[List.reverse_cons,List.reverse_nil,List.nil_append,List.cons_append,layO,Out.val,Act.put,List.setIfInBounds_toArray,List.set_cons_zero,List.set_cons_succ];go_wp2_with fail;go_ret;exact ⟨by first|rfl|(rw[hr];rfl),hbw.trans (hS.mono hbw.size)⟩
     ·skip;refine roB wr ?_;refine stq ?_ (fun aa ww ll hh=>?_) ?_;rotate_left
      ·have e3:=hh.oL 3;exact ov gX
      refine stq ?_ (fun aa ww ll hh=>?_) ?_;rotate_left
      ·have e41:=hh.gt 0 0;obtain ⟨c0,c1,c2⟩:=HCE.out ww hh.inv;exact ov gX
      refine stq ?_ (fun aa ww ll hh=>?_) ?_;rotate_left
      ·have e5:=hh.oL 5;refine ov ?_;rw[xmv e5]
      refine stq ?_ (fun aa ww ll hh=>?_) ?_;rotate_left
      ·have e42:=hh.gt 1 1;have e43:=hh.gt 2 0;exact ov gX
      refine stq ?_ (fun aa ww ll hh=>?_) ?_;rotate_left
      ·have e44:=hh.gt 3 0;obtain ⟨c0,c1,c2⟩:=HCE.out ww hh.inv;exact ov gX
      refine stq ?_ (fun aa ww ll hh=>?_) ?_;rotate_left
      ·have e45:=hh.gt 4 0;have ec:=evc aa;exact ov gX
      refine stm 5 0 ?_;refine stq ?_ (fun aa ww ll hh=>?_) ?_;rotate_left
      ·have e3:=hh.oL 3;exact hh.og 0 gX
      refine stq ?_ (fun aa ww ll hh=>?_) ?_;rotate_left
      ·have e48:=hh.gt 7 0;obtain ⟨c0,c1,c2⟩:=HCE.out ww hh.inv;exact hh.og 1 gX
      refine stq ?_ (fun aa ww ll hh=>?_) ?_;rotate_left
      ·have e5:=hh.oL 5;refine hh.og 2 ?_;rw[xmv e5]
      refine stq ?_ (fun aa ww ll hh=>?_) ?_;rotate_left
      ·have e49:=hh.gt 8 1;have e50:=hh.gt 9 0;exact hh.og 3 gX
      refine stq ?_ (fun aa ww ll hh=>?_) ?_;rotate_left
      ·have e51:=hh.gt 10 0;obtain ⟨c0,c1,c2⟩:=HCE.out ww hh.inv;exact hh.og 4 gX
      refine stq ?_ (fun aa ww ll hh=>?_) ?_;rotate_left
      ·have e2:=hh.oL 2;exact hh.og 5 gX
      refine stq ?_ (fun aa ww ll hh=>?_) ?_;rotate_left
      ·have e53:=hh.gt 12 0;obtain ⟨c0,c1,c2⟩:=HCE.out ww hh.inv;exact hh.og 6 gX
      refine stq ?_ (fun aa ww ll hh=>?_) ?_;rotate_left
      ·have e54:=hh.gt 13 0;obtain ⟨c0,c1,c2⟩:=HCE.out ww hh.inv;exact hh.og 7 gX
      refine stq ?_ (fun aa ww ll hh=>?_) ?_;rotate_left
      ·have e52:=hh.gt 11 3;have e55:=hh.gt 14 0;exact hh.og 8 gX
      refine stq ?_ (fun aa ww ll hh=>?_) ?_;rotate_left
      ·have e47:=hh.gt 6 9;have e56:=hh.gt 15 0;have ec:=evc aa;exact ov gX
      intro ll w3 hS hok;clear hok;simp only[List.reverse_cons,List.reverse_nil,List.nil_append,List.cons_append,layO,Out.val,Act.put,List.setIfInBounds_toArray,List.set_cons_zero,List.set_cons_succ];go_wp2_with fail;go_roundw
      case rel=>exact ⟨k+1,by omega,by go_num,HW.out.trans (hS.mono HW.out.size),fun j y hj hy=>by
       rcases Nat.lt_or_ge j k with h|h
       ·exact HQ.out j y h hy
       ·obtain rfl:j=k:=by omega
        rw[HXK.out] at hy;cases hy;omega⟩
      case measure=>simp[intOf];omega
   ·obtain rfl:k=tn:=by omega
    have hR4:R=(if kn=0 then decide (bn=0) else decide (to=0/\1<=bn/\bn<=16)&&allIdx (keyS p kn t.brs) 0 t.keys):=by
     rw[HR3.out,all_true fun j x hj=>decide_eq_true (HQ.out j x (by have:=(List.getElem?_eq_some_iff.1 hj).1;have:=HE.out.1;omega) hj)];rfl
    have HR4:=hD hR4;clear hR4;by_cases hk0:kn=0
    ·have hk0i:(kn:Int)=0:=by omega
     have hr:R=decide ((bn:Int)=0):=by rw[HR4.out,if_pos hk0,decide_eq_decide];omega
     have HRR:=hD hr;clear hk0 hr;go_wp2_with fail;go_ret;refine ⟨?_,hbw⟩;rw[HRR.out];show Ending.returned (.bool _)=_;congr 2
    ·have hk0i:¬(kn:Int)=0:=by omega
     by_cases hC:to=0/\1<=bn/\bn<=16
     ·have hR5:R=allIdx (keyS p kn t.brs) 0 t.keys:=by rw[HR4.out,if_neg hk0,decide_eq_true hC];rfl
      have HR5:=hD hR5;obtain ⟨c1,c2,c3⟩:=hC;have d2:¬(bn:Int)<1:=by omega
      have d3:¬16<(bn:Int):=by omega
      have HBW:=hD hbw;clear hR5 hbw;go_wp2_with fail;go_loopw [6] (fun i wr=>∃k:Nat,k<=kn/\i= .int .i64 k/\Hid (Below W0.heap.size W0 wr)/\Hid (∀ j c,j<k->t.keys[j]?=some c->keyS p kn t.brs j c=true)) (fun i _=>kn-(intOf i).toNat)
      case atStart=>exact ⟨0,Nat.zero_le _,rfl,HW.out,fun j _ hj=>absurd hj (by omega)⟩
      case round=>
       clear q0 q1 q2 q3 q4 q5 q6 q7 q8 q9 q10 q11 t0 t1 t2 t3;obtain ⟨k2,hkk2,rfl,HW2,HQ2⟩:=hrel;have hbw2:=HB0.out.trans (HW2.out.mono HB0.out.size);obtain ⟨q0,q1,q2,q3,q4,q5,q6,q7,q8,q9,q10,q11⟩:=(HPB.out.below HW2.out).cells;obtain ⟨t0,t1,t2,t3⟩:=(HSB.out.below HW2.out).cells;by_cases hlt2:k2<kn
       ·obtain ⟨c,hc⟩:∃c,t.keys[k2]?=some c:=⟨_,List.getElem?_eq_getElem (by have:=HE.out.2.1;omega)⟩;obtain ⟨kb,ko,cp,cn,cc,hkp,hkb,hkc,hcr⟩:=CsRow.el (HK.out.below keepCs hbw2) hc;have hcn:cn<=6000:=by have:=HCS.out c (List.mem_of_getElem? hc);have:=hcr.ln.1;omega
        obtain ⟨o,ho⟩:∃o,o=widthP p (-1) c:=⟨_,rfl⟩;have hks:keyS p kn t.brs k2 c=keyO p kn t.brs k2 o:=by rw[ho];rfl
        have HKS:=hD (And.intro hc hks);have HC:Hid (∀ W,Below wr.heap.size wr W->Calls Tryz.prog 60 #[.agg (pA s), .int .i64 (-1), .slice cp cn cc] W fun e w'=>e= .returned (wRes o)/\Below W.heap.size W w'):=fun W h=>by rw[ho];exact HWD.out W c cp cn cc (hbw2.trans (h.mono hbw2.size)) (hcr.below keepNd h) hcn
        have HCF:Hid (∀ W,Below wr.heap.size wr W->(W.cell? ⟨w.heap.size,0,none⟩=some (.slice s.hp s.hn s.hc)/\W.cell? ⟨w.heap.size,1,none⟩=some (.slice s.mp s.mn s.mc)/\W.cell? ⟨w.heap.size,2,none⟩=some (.slice s.sp s.sn s.sc)/\W.cell? ⟨w.heap.size,3,none⟩=some (.slice s.ap s.an s.ac)/\W.cell? ⟨w.heap.size,4,none⟩=some (.slice s.tp s.tn s.tc)/\W.cell? ⟨w.heap.size,5,none⟩=some (.slice s.cp s.cn s.cc)/\W.cell? ⟨w.heap.size,6,none⟩=some (.slice s.ep s.en s.ec)/\W.cell? ⟨w.heap.size,7,none⟩=some (.slice s.v1 s.n1 s.c1)/\W.cell? ⟨w.heap.size,8,none⟩=some (.slice s.v2 s.n2 s.c2)/\W.cell? ⟨w.heap.size,9,none⟩=some (.slice s.v3 s.n3 s.c3)/\W.cell? ⟨w.heap.size,10,none⟩=some (.slice s.v4 s.n4 s.c4)/\W.cell? ⟨w.heap.size,11,none⟩=some (.slice s.v5 s.n5 s.c5))/\W.cell? ⟨w.heap.size+1,1,none⟩=some (.slice (some ⟨kb,ko,none⟩) kn kc)/\W.cell? ⟨kb,ko+k2,none⟩=some (.slice cp cn cc)):=fun W h=>by
         obtain ⟨-,x1,-,-⟩:=(HSB.out.below (HW2.out.trans (h.mono HW2.out.size))).cells;rw[hkp] at x1;exact ⟨(HPB.out.below (HW2.out.trans (h.mono HW2.out.size))).cells,x1,(h.cell (p:=⟨kb,ko+k2,none⟩) hkb).trans hkc⟩
        have hki2:(k2:Int)<(kn:Int):=by omega
        rw[hkp] at t1;clear hc hcr hkc ho hks hkp;go_upto_region 15 with fail
        clear q0 q1 q2 q3 q4 q5 q6 q7 q8 q9 q10 q11 t0 t1 t2 t3;cases o with
        |none=>
         have hr:R=false:=by
          rw[HR5.out,Bool.eq_false_iff];intro hc;have:=(allIdx_iff.1 hc) k2 c HKS.out.1;rw[Nat.zero_add,HKS.out.2] at this;cases this
         refine roB wr ?_;refine stq ?_ (fun aa ww ll hh=>?_) ?_;rotate_left
         ·have e2:=hh.oL 2;obtain ⟨⟨q0,q1,q2,q3,q4,q5,q6,q7,q8,q9,q10,q11⟩,t1,c0⟩:=HCF.out ww hh.inv;exact ov gX
         refine stq ?_ (fun aa ww ll hh=>?_) ?_;rotate_left
         ·have e3:=hh.oL 3;exact ov gX
         refine stq ?_ (fun aa ww ll hh=>?_) ?_;rotate_left
         ·have e90:=hh.gt 1 0;obtain ⟨⟨q0,q1,q2,q3,q4,q5,q6,q7,q8,q9,q10,q11⟩,t1,c0⟩:=HCF.out ww hh.inv;exact ov gX
         refine stq ?_ (fun aa ww ll hh=>?_) ?_;rotate_left
         ·have e6:=hh.oL 6;refine ov ?_;rw[xmv e6]
         refine stq ?_ (fun aa ww ll hh=>?_) ?_;rotate_left
         ·have e91:=hh.gt 2 1;have e92:=hh.gt 3 0;exact ov gX
         refine stq ?_ (fun aa ww ll hh=>?_) ?_;rotate_left
         ·have e93:=hh.gt 4 0;obtain ⟨⟨q0,q1,q2,q3,q4,q5,q6,q7,q8,q9,q10,q11⟩,t1,c0⟩:=HCF.out ww hh.inv;exact ov gX
         refine ⟨.eq (.tuple #[.int .i64 0, .bool false]),trivial,rfl,fun aa ww ll hh=>?_,?_⟩
         ·have e89:=hh.gt 0 5;have e94:=hh.gt 5 0;have ef:=evf aa;have ec:=evc aa;refine out_call_eq (wanted_none rfl) ?_ (HC.out ww hh.inv);exact gX
         refine stm 6 0 ?_;refine stq ?_ (fun aa ww ll hh=>?_) ?_;rotate_left
         ·have e88:=hh.gt 7 0;exact ov gX
         refine stq ?_ (fun aa ww ll hh=>?_) ?_;rotate_left
         ·have e88:=hh.gt 7 1;exact ov gX
         refine stm 8 1 ?_;refine stm 9 1 ?_;intro ll w4 hS hok;clear hok;simp only[List.reverse_cons,List.reverse_nil,List.nil_append,List.cons_append,layO,Out.val,Act.put,List.setIfInBounds_toArray,List.set_cons_zero,List.set_cons_succ];go_wp2_with fail;go_ret;exact ⟨by first|rfl|(rw[hr];rfl),hbw2.trans (hS.mono hbw2.size)⟩
        |some v=>
         refine roB wr ?_;refine stq ?_ (fun aa ww ll hh=>?_) ?_;rotate_left
         ·have e2:=hh.oL 2;obtain ⟨⟨q0,q1,q2,q3,q4,q5,q6,q7,q8,q9,q10,q11⟩,t1,c0⟩:=HCF.out ww hh.inv;exact ov gX
         refine stq ?_ (fun aa ww ll hh=>?_) ?_;rotate_left
         ·have e3:=hh.oL 3;exact ov gX
         refine stq ?_ (fun aa ww ll hh=>?_) ?_;rotate_left
         ·have e90:=hh.gt 1 0;obtain ⟨⟨q0,q1,q2,q3,q4,q5,q6,q7,q8,q9,q10,q11⟩,t1,c0⟩:=HCF.out ww hh.inv;exact ov gX
         refine stq ?_ (fun aa ww ll hh=>?_) ?_;rotate_left
         ·have e6:=hh.oL 6;refine ov ?_;rw[xmv e6]
         refine stq ?_ (fun aa ww ll hh=>?_) ?_;rotate_left
         ·have e91:=hh.gt 2 1;have e92:=hh.gt 3 0;exact ov gX
         refine stq ?_ (fun aa ww ll hh=>?_) ?_;rotate_left
         ·have e93:=hh.gt 4 0;obtain ⟨⟨q0,q1,q2,q3,q4,q5,q6,q7,q8,q9,q10,q11⟩,t1,c0⟩:=HCF.out ww hh.inv;exact ov gX
         refine ⟨.eq (.tuple #[.int .i64 v, .bool true]),trivial,rfl,fun aa ww ll hh=>?_,?_⟩
         ·have e89:=hh.gt 0 5;have e94:=hh.gt 5 0;have ef:=evf aa;have ec:=evc aa;refine out_call_eq (wanted_none rfl) ?_ (HC.out ww hh.inv);exact gX
         refine stm 6 0 ?_;refine stq ?_ (fun aa ww ll hh=>?_) ?_;rotate_left
         ·have e88:=hh.gt 7 0;exact ov gX
         refine stq ?_ (fun aa ww ll hh=>?_) ?_;rotate_left
         ·have e88:=hh.gt 7 1;exact ov gX
         refine stm 8 1 ?_;refine stm 9 1 ?_;intro ll w4 hS hok;clear hok;simp only[List.reverse_cons,List.reverse_nil,List.nil_append,List.cons_append,layO,Out.val,Act.put,List.setIfInBounds_toArray,List.set_cons_zero,List.set_cons_succ];have HW4:Hid (Below W0.heap.size W0 w4):=HW2.out.trans (hS.mono HW2.out.size);obtain ⟨-,-,t2,-⟩:=(HSB.out.below HW4.out).cells;clear hS;go_wp2_with fail;go_loopw [9] (fun i wr=>∃z:Nat,z<=bn/\i= .int .i64 z/\Hid (Below W0.heap.size W0 wr)/\Hid (∀ j b,j<z->t.brs[j]?=some b->brOk p kn k2 v b=true)) (fun i _=>bn-(intOf i).toNat)
         case atStart=>exact ⟨0,Nat.zero_le _,rfl,HW4.out,fun j _ hj=>absurd hj (by omega)⟩
         case round=>
          clear t2;obtain ⟨z,hz,rfl,HWq,HQ3⟩:=hrel;have hbwq:=HB0.out.trans (HWq.out.mono HB0.out.size);obtain ⟨-,-,t2,-⟩:=(HSB.out.below HWq.out).cells;by_cases hzl:z<bn
          ·obtain ⟨b,hbz⟩:∃b,t.brs[z]?=some b:=⟨_,List.getElem?_eq_getElem (by have:=HE.out.2.2.1;omega)⟩;obtain ⟨bb,bo,p1,n1,c1',hbp,hbb,hb0,hbr,hb1⟩:=BrnRow.el (HB.out.below keepBrn hbwq) hbz;obtain ⟨hbn1,-,-,-⟩:=hbr.ln;obtain ⟨bt,hbt⟩:∃bt,bt=b.to:=⟨_,rfl⟩;obtain ⟨x,hx⟩:∃x,x=b.pats.getD k2 ⟨0,0⟩:=⟨_,rfl⟩;have hbk:brOk p kn k2 v b=(decide (-2<=bt/\bt<(s.sn:Int)/\n1=kn)&&mayPatP x v):=by
            rw[hbt,hx,hbn1,HE.out.2.2.2];rfl
           have HBK:=hD (And.intro hbz hbk);have HRF:Hid (brOk p kn k2 v b=false->R=false):=fun h=>by
            rw[HR5.out,Bool.eq_false_iff];intro hc;have:=(allIdx_iff.1 hc) k2 c HKS.out.1;rw[Nat.zero_add,HKS.out.2] at this;have e:keyO p kn t.brs k2 (some v)=t.brs.all (brOk p kn k2 v):=rfl;rw[e,all_false hbz h] at this;cases this
           have HPX:Hid (k2<n1->∃pb po,p1=some ⟨pb,po,none⟩/\pb<wr.heap.size/\PAt wr pb (po+k2*4) x):=fun h=>by
            obtain ⟨pb,po,e1,e2,e3⟩:=hbr.get (some_getD ⟨0,0⟩ (by omega:k2<b.pats.length));exact ⟨pb,po,e1,e2,by rw[hx];exact e3⟩
           rw[<- hbt] at hb1;rw[hbp] at t2;have hzi:(z:Int)<(bn:Int):=by omega
           clear hbt hx hbk hbz hbr hbn1 hbp;go_upto_region 22 with fail
           obtain ⟨W5,hW5⟩:∃W5,W5=wr.alloc (.cells #[.slice p1 n1 c1', .int .i64 bt] 121):=⟨_,rfl⟩;have hb5:Below wr.heap.size wr W5:=by rw[hW5];exact (Below.refl _ _).alloc (Nat.le_refl _) _
           have hg5:W5.heap[wr.heap.size]?=some (.cells #[.slice p1 n1 c1', .int .i64 bt] 121 (0,0)):=by rw[hW5];exact heap_new _ _
           rw[<- hW5];clear hW5 t2 hb0 hb1;have HW5:Hid (Below W0.heap.size W0 W5):=HWq.out.trans (hb5.mono HWq.out.size);have HB5:=hD hb5;obtain ⟨-,-,q2,-⟩:=(HPB.out.below HW5.out).cells;obtain ⟨-,t1,-,-⟩:=(HSB.out.below HW5.out).cells;have g0:W5.cell? ⟨wr.heap.size,0,none⟩=some (.slice p1 n1 c1'):=by simp[World.cell?,hg5]
           have g1:W5.cell? ⟨wr.heap.size,1,none⟩=some (.int .i64 bt):=by simp[World.cell?,hg5]
           clear hb5 hg5;generalize wr.heap.size=G at g0 g1⊢;by_cases hB: -2<=bt/\bt<(s.sn:Int)/\n1=kn
           ·have HBB:=hD hB;obtain ⟨e1,e2,e3⟩:=hB;have f1:¬bt< -2:=by omega
            have f2:¬(s.sn:Int)<=bt:=by omega
            have f3:(n1:Int)=(kn:Int):=by omega
            have f4:(k2:Int)<(n1:Int):=by omega
            obtain ⟨pb,po,hpp,hpb,⟨xv,y0,y1⟩,⟨xm,y2,y3⟩⟩:=HPX.out (by omega);replace y0:=(HB5.out.cell (p:=⟨pb,po+k2*4,none⟩) hpb).trans y0;replace y1:=(HB5.out.cell (p:=⟨pb,po+k2*4+1,none⟩) hpb).trans y1;replace y2:=(HB5.out.cell (p:=⟨pb,po+k2*4+2,none⟩) hpb).trans y2;replace y3:=(HB5.out.cell (p:=⟨pb,po+k2*4+2+1,none⟩) hpb).trans y3;obtain ⟨r,hr⟩:∃r,r=mayPatP x v:=⟨_,rfl⟩;have HMP:Hid (∀ W,Calls Tryz.prog 61 #[.agg #[.int .u64 ((x.v/B:Nat):Int), .int .u64 ((x.v%B:Nat):Int), .int .u64 ((x.m/B:Nat):Int), .int .u64 ((x.m%B:Nat):Int)], .int .i64 v] W fun e w'=>e= .returned (.bool r)/\Below W.heap.size W w'):=fun W=>by rw[hr];exact mayPat_any x v W xv xm
            generalize ((x.v/B:Nat):Int)=m0 at*;generalize ((x.v%B:Nat):Int)=m1 at*;generalize ((x.m/B:Nat):Int)=m2 at*;generalize ((x.m%B:Nat):Int)=m3 at*;have hbt:brOk p kn k2 v b=r:=by rw[HBK.out.2,decide_eq_true HBB.out,hr];rfl
            have HBT:=hD hbt;rw[hpp] at g0;clear hr hbt xv xm e3 hpp;cases r
            ·have hr:R=false:=HRF.out HBT.out;go_wp2_with (go_at_call 61;refine (HMP.out _).mono ?_;rintro e w6 ⟨rfl,hb6⟩;have HB6:=hD hb6;clear hb6);go_ret;exact ⟨by first|rfl|(rw[hr];rfl),HB0.out.trans ((HW5.out.trans (HB6.out.mono HW5.out.size)).mono HB0.out.size)⟩
            ·go_wp2_with (go_at_call 61;refine (HMP.out _).mono ?_;rintro e w6 ⟨rfl,hb6⟩;have HB6:=hD hb6;clear hb6);go_roundw
             case rel=>exact ⟨z+1,by omega,by go_num,HW5.out.trans (HB6.out.mono HW5.out.size),fun j y hj hy=>by
              rcases Nat.lt_or_ge j z with h|h
              ·exact HQ3.out j y h hy
              ·obtain rfl:j=z:=by omega
               rw[HBK.out.1] at hy;cases hy
               exact HBT.out⟩
             case measure=>simp[intOf];omega
           ·have hr:R=false:=HRF.out (by rw[HBK.out.2,decide_eq_false hB];rfl);rcases (show bt< -2\/(¬ bt< -2/\(s.sn:Int)<=bt)\/(¬ bt< -2/\¬(s.sn:Int)<=bt/\¬(n1:Int)=(kn:Int)) by omega) with e1|⟨e1,e2⟩|⟨e1,e2,e3⟩
            all_goals
             try have g9:((n1:Int)!=(kn:Int))=true:=bne_iff_ne.2 (by assumption)
             go_wp2_with fail;go_ret;exact ⟨by first|rfl|(rw[hr];rfl),HB0.out.trans (HW5.out.mono HB0.out.size)⟩
          ·obtain rfl:z=bn:=by omega
           have hall:keyS p kn t.brs k2 c=true:=by
            rw[HKS.out.2];exact all_true fun j y hj=>HQ3.out j y (by have:=(List.getElem?_eq_some_iff.1 hj).1;have:=HE.out.2.2.1;omega) hj
           have HAL:=hD hall;clear hall;go_wp2_with fail;go_roundw
           case rel=>exact ⟨k2+1,by omega,by go_num,HWq.out,fun j c' hj hc'=>by
            rcases Nat.lt_or_ge j k2 with h|h
            ·exact HQ2.out j c' h hc'
            ·obtain rfl:j=k2:=by omega
             rw[HKS.out.1] at hc';cases hc'
             exact HAL.out⟩
           case measure=>simp[intOf];omega
       ·obtain rfl:k2=kn:=by omega
        have hr:R=true:=by
         rw[HR5.out];exact allIdx_iff.2 fun j c hj=>by
          rw[Nat.zero_add];exact HQ2.out j c (by have:=(List.getElem?_eq_some_iff.1 hj).1;have:=HE.out.2.1;omega) hj
        go_wp2_with fail;go_ret;exact ⟨by first|rfl|(rw[hr];rfl),hbw2⟩
     ·have hr:R=false:=by rw[HR4.out,if_neg hk0,decide_eq_false hC];rfl
      rcases (show ¬to=0\/(to=0/\(bn:Int)<1)\/(to=0/\¬(bn:Int)<1/\16<(bn:Int)) by omega) with g1|⟨g1,g2⟩|⟨g1,g2,g3⟩
      all_goals
       try have g9:(to !=0)=true:=bne_iff_ne.2 (by assumption)
       go_wp2_with fail;go_ret;exact ⟨by first|rfl|(rw[hr];rfl),hbw⟩
 ·have hr:R=false:=by rw[HR.out,decide_eq_false hA];rfl
  rcases (show 8<(tn:Int)\/(¬ 8<(tn:Int)/\4<(kn:Int))\/(¬ 8<(tn:Int)/\¬4<(kn:Int)/\to< -2)\/(¬ 8<(tn:Int)/\¬4<(kn:Int)/\¬to< -2/\(s.sn:Int)<=to) by omega) with g1|⟨g1,g2⟩|⟨g1,g2,g3⟩|⟨g1,g2,g3,g4⟩
  all_goals
   go_wp2_with fail;go_ret;exact ⟨by first|rfl|(rw[hr];rfl),HB0.out⟩
end Go.Proofs.YtjfhfaodbjecdaaGreat
