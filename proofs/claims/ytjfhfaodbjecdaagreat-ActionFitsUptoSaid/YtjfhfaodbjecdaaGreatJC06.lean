/-
  Lemmas, joined: MayD, RefAnd.
-/
import Derived.Test.YtjfhfaodbjecdaaGreatJC04
import Derived.Test.YtjfhfaodbjecdaaGreatJC01
import Derived.Test.YtjfhfaodbjecdaaGreatJC02
import Derived.BigQuiet
import Derived.Deep.QuietTactic
import Derived.Outline
set_option maxHeartbeats 4000000
set_option maxRecDepth 100000
namespace Go.Proofs.YtjfhfaodbjecdaaGreat
open Go.RowKit
theorem listsP_step {below:Int} {l:List Int} {k:Nat} (hk:k<l.length):listsP below (l.take k) (l.drop k)=(decide (0<=l.getD k 0/\l.getD k 0<below)&& !(l.take k).contains (l.getD k 0)&&listsP below (l.take (k+1)) (l.drop (k+1))):=by
 have e1:l.drop k=l.getD k 0::l.drop (k+1):=by
  rw[List.getD_eq_getElem?_getD,List.getElem?_eq_getElem hk];exact List.drop_eq_getElem_cons hk
 have e2:l.take (k+1)=l.take k++[l.getD k 0]:=by
  rw[List.take_add_one,List.getD_eq_getElem?_getD,List.getElem?_eq_getElem hk];rfl
 rw[e1,e2,listsP]
theorem lists_any (l:List Int) (p:Option Addr) (n c:Nat) (below:Int) (w:World) (h:IRow w (.slice p n c) l) (hn:n<=6000):
 Calls Tryz.prog 35 #[.slice p n c, .int .i64 below] w fun e w'=>e= .returned (.bool (listsP below [] l))/\Below w.heap.size w w':=by
 obtain ⟨e1,e2,e3,-⟩:=h.ln;have HH:=hD h;have HE:=hD e1;clear h e1;go_enter Tryz.func35,Tryz.ntmps35;go_wp2_with fail;go_loopw [5] (fun i wr=>∃k:Nat,k<=n/\i= .int .i64 k/\Hid (Below w.heap.size w wr)/\Hid (listsP below (l.take k) (l.drop k)=listsP below [] l)) (fun i _=>n-(intOf i).toNat)
 case atStart=>exact ⟨0,Nat.zero_le _,rfl,Below.refl _ _,rfl⟩
 case round=>
  obtain ⟨k,hk,rfl,HB,HL⟩:=hrel;by_cases hlt:k<n
  ·have hkl:k<l.length:=by have:=HE.out;omega
   have hrow:=HH.out.below keepI HB.out;obtain ⟨b,o,rfl,hbl,hc⟩:=IRow.el hrow hkl;have hst:=HL.out.symm.trans (listsP_step (below:=below) hkl);obtain ⟨x,hx⟩:∃x,x=l.getD k 0:=⟨_,rfl⟩;rw[<- hx] at hc hst;obtain ⟨r,hr⟩:∃r,r=(l.take k).contains x:=⟨_,rfl⟩;have hrk:IRow wr (.slice (some ⟨b,o,none⟩) k c) (l.take k):=hrow.hi' (by omega);have HIN:Hid (∀ W,Below wr.heap.size wr W->Calls Tryz.prog 58 #[.slice (some ⟨b,o,none⟩) k c, .int .i64 x] W fun e w'=>e= .returned (.bool r)/\Below W.heap.size W w'):=fun W hW=>by rw[hr];exact in10_any (l.take k) _ k c x W (hrk.below keepI hW) (by omega)
   rw[<- hr] at hst;have HST:=hD hst;have HCE:Hid (∀ W,Below wr.heap.size wr W->W.cell? ⟨b,o+k,none⟩=some (.int .i64 x)):=fun W hW=>(hW.cell (p:=⟨b,o+k,none⟩) hbl).trans hc
   have hki:(k:Int)<(n:Int):=by omega
   have hkc:(k:Int)<=(c:Int):=by omega
   clear hst hr hrk hx hrow hc hkl;go_upto_region 4 with fail
   by_cases h0:x<0
   ·skip;refine roB wr ?_;refine stq ?_ (fun aa ww ll hh=>?_) ?_;rotate_left
    ·have e0:=hh.oL 0;refine ov ?_;rw[xmv e0]
    refine stq ?_ (fun aa ww ll hh=>?_) ?_;rotate_left
    ·have e5:=hh.oL 5;refine ov ?_;rw[xmv e5]
    refine stq ?_ (fun aa ww ll hh=>?_) ?_;rotate_left
    ·have e12:=hh.gt 0 1;have e13:=hh.gt 1 0;exact ov gX
    refine stq ?_ (fun aa ww ll hh=>?_) ?_;rotate_left
    ·have e14:=hh.gt 2 0;have c0:=HCE.out ww hh.inv;exact ov gX
    refine stq ?_ (fun aa ww ll hh=>?_) ?_;rotate_left
    ·have e15:=hh.gt 3 0;have ec:=evc aa;exact ov gX
    refine stm 4 0 ?_;refine stk 0 ?_;refine stk 1 ?_;refine stk 2 ?_;refine stk 3 ?_;refine stk 4 ?_;refine stk 5 ?_;refine stq ?_ (fun aa ww ll hh=>?_) ?_;rotate_left
    ·have e17:=hh.gt 5 6;have e23:=hh.gt 11 0;have ec:=evc aa;exact ov gX
    refine stm 12 0 ?_;refine stk 0 ?_;refine stk 1 ?_;refine stk 2 ?_;refine stk 3 ?_;refine stk 4 ?_;refine stk 5 ?_;refine stk 6 ?_;refine stk 7 ?_;refine stq ?_ (fun aa ww ll hh=>?_) ?_;rotate_left
    ·have e25:=hh.gt 13 8;have e33:=hh.gt 21 0;have ec:=evc aa;exact ov gX
    intro ll w3 hS hok;clear hok;simp only[List.reverse_cons,List.reverse_nil,List.nil_append,List.cons_append,layO,Out.val,Act.put,List.setIfInBounds_toArray,List.set_cons_zero,List.set_cons_succ];go_wp2_with fail;go_ret;refine ⟨?_,HB.out.trans (hS.mono HB.out.size)⟩;have e:listsP below [] l=false:=by rw[HST.out,decide_eq_false (by omega)];rfl
    rw[e];rfl
   ·by_cases h1:below<=x
    ·skip;refine roB wr ?_;refine stq ?_ (fun aa ww ll hh=>?_) ?_;rotate_left
     ·have e0:=hh.oL 0;refine ov ?_;rw[xmv e0]
     refine stq ?_ (fun aa ww ll hh=>?_) ?_;rotate_left
     ·have e5:=hh.oL 5;refine ov ?_;rw[xmv e5]
     refine stq ?_ (fun aa ww ll hh=>?_) ?_;rotate_left
     ·have e12:=hh.gt 0 1;have e13:=hh.gt 1 0;exact ov gX
     refine stq ?_ (fun aa ww ll hh=>?_) ?_;rotate_left
     ·have e14:=hh.gt 2 0;have c0:=HCE.out ww hh.inv;exact ov gX
     refine stq ?_ (fun aa ww ll hh=>?_) ?_;rotate_left
     ·have e15:=hh.gt 3 0;have ec:=evc aa;exact ov gX
     refine stm 4 0 ?_;refine stq ?_ (fun aa ww ll hh=>?_) ?_;rotate_left
     ·have e0:=hh.oL 0;refine hh.og 0 ?_;rw[xmv e0]
     refine stq ?_ (fun aa ww ll hh=>?_) ?_;rotate_left
     ·have e5:=hh.oL 5;refine hh.og 1 ?_;rw[xmv e5]
     refine stq ?_ (fun aa ww ll hh=>?_) ?_;rotate_left
     ·have e18:=hh.gt 6 1;have e19:=hh.gt 7 0;exact hh.og 2 gX
     refine stq ?_ (fun aa ww ll hh=>?_) ?_;rotate_left
     ·have e20:=hh.gt 8 0;have c0:=HCE.out ww hh.inv;exact hh.og 3 gX
     refine stq ?_ (fun aa ww ll hh=>?_) ?_;rotate_left
     ·have e1:=hh.oL 1;refine hh.og 4 ?_;rw[xmv e1]
     refine stq ?_ (fun aa ww ll hh=>?_) ?_;rotate_left
     ·have e21:=hh.gt 9 1;have e22:=hh.gt 10 0;exact hh.og 5 gX
     refine stq ?_ (fun aa ww ll hh=>?_) ?_;rotate_left
     ·have e17:=hh.gt 5 6;have e23:=hh.gt 11 0;have ec:=evc aa;exact ov gX
     refine stm 12 0 ?_;refine stk 0 ?_;refine stk 1 ?_;refine stk 2 ?_;refine stk 3 ?_;refine stk 4 ?_;refine stk 5 ?_;refine stk 6 ?_;refine stk 7 ?_;refine stq ?_ (fun aa ww ll hh=>?_) ?_;rotate_left
     ·have e25:=hh.gt 13 8;have e33:=hh.gt 21 0;have ec:=evc aa;exact ov gX
     intro ll w3 hS hok;clear hok;simp only[List.reverse_cons,List.reverse_nil,List.nil_append,List.cons_append,layO,Out.val,Act.put,List.setIfInBounds_toArray,List.set_cons_zero,List.set_cons_succ];go_wp2_with fail;go_ret;refine ⟨?_,HB.out.trans (hS.mono HB.out.size)⟩;have e:listsP below [] l=false:=by rw[HST.out,decide_eq_false (by omega)];rfl
     rw[e];rfl
    ·cases r
     ·skip;refine roB wr ?_;refine stq ?_ (fun aa ww ll hh=>?_) ?_;rotate_left
      ·have e0:=hh.oL 0;refine ov ?_;rw[xmv e0]
      refine stq ?_ (fun aa ww ll hh=>?_) ?_;rotate_left
      ·have e5:=hh.oL 5;refine ov ?_;rw[xmv e5]
      refine stq ?_ (fun aa ww ll hh=>?_) ?_;rotate_left
      ·have e12:=hh.gt 0 1;have e13:=hh.gt 1 0;exact ov gX
      refine stq ?_ (fun aa ww ll hh=>?_) ?_;rotate_left
      ·have e14:=hh.gt 2 0;have c0:=HCE.out ww hh.inv;exact ov gX
      refine stq ?_ (fun aa ww ll hh=>?_) ?_;rotate_left
      ·have e15:=hh.gt 3 0;have ec:=evc aa;exact ov gX
      refine stm 4 0 ?_;refine stq ?_ (fun aa ww ll hh=>?_) ?_;rotate_left
      ·have e0:=hh.oL 0;refine hh.og 0 ?_;rw[xmv e0]
      refine stq ?_ (fun aa ww ll hh=>?_) ?_;rotate_left
      ·have e5:=hh.oL 5;refine hh.og 1 ?_;rw[xmv e5]
      refine stq ?_ (fun aa ww ll hh=>?_) ?_;rotate_left
      ·have e18:=hh.gt 6 1;have e19:=hh.gt 7 0;exact hh.og 2 gX
      refine stq ?_ (fun aa ww ll hh=>?_) ?_;rotate_left
      ·have e20:=hh.gt 8 0;have c0:=HCE.out ww hh.inv;exact hh.og 3 gX
      refine stq ?_ (fun aa ww ll hh=>?_) ?_;rotate_left
      ·have e1:=hh.oL 1;refine hh.og 4 ?_;rw[xmv e1]
      refine stq ?_ (fun aa ww ll hh=>?_) ?_;rotate_left
      ·have e21:=hh.gt 9 1;have e22:=hh.gt 10 0;exact hh.og 5 gX
      refine stq ?_ (fun aa ww ll hh=>?_) ?_;rotate_left
      ·have e17:=hh.gt 5 6;have e23:=hh.gt 11 0;have ec:=evc aa;exact ov gX
      refine stm 12 0 ?_;refine stq ?_ (fun aa ww ll hh=>?_) ?_;rotate_left
      ·have e0:=hh.oL 0;refine hh.og 0 ?_;rw[xmv e0]
      refine stq ?_ (fun aa ww ll hh=>?_) ?_;rotate_left
      ·have e5:=hh.oL 5;refine hh.og 1 ?_;rw[xmv e5]
      refine stq ?_ (fun aa ww ll hh=>?_) ?_;rotate_left
      ·have e26:=hh.gt 14 1;have e27:=hh.gt 15 0;exact hh.og 2 gX
      refine stq ?_ (fun aa ww ll hh=>?_) ?_;rotate_left
      ·have e0:=hh.oL 0;refine hh.og 3 ?_;rw[xmv e0]
      refine stq ?_ (fun aa ww ll hh=>?_) ?_;rotate_left
      ·have e5:=hh.oL 5;refine hh.og 4 ?_;rw[xmv e5]
      refine stq ?_ (fun aa ww ll hh=>?_) ?_;rotate_left
      ·have e29:=hh.gt 17 1;have e30:=hh.gt 18 0;exact hh.og 5 gX
      refine stq ?_ (fun aa ww ll hh=>?_) ?_;rotate_left
      ·have e31:=hh.gt 19 0;have c0:=HCE.out ww hh.inv;exact hh.og 6 gX
      refine ⟨.eq (.bool false),trivial,rfl,fun aa ww ll hh=>?_,?_⟩
      ·have e28:=hh.gt 16 4;have e32:=hh.gt 20 0;have ef:=evf aa;refine out_call_eq (hh.go 7 rfl (by kernel_rfl) rfl rfl) ?_ (HIN.out ww hh.inv);exact gX
      refine stq ?_ (fun aa ww ll hh=>?_) ?_;rotate_left
      ·have e25:=hh.gt 13 8;have e33:=hh.gt 21 0;have ec:=evc aa;exact ov gX
      intro ll w3 hS hok;clear hok;simp only[List.reverse_cons,List.reverse_nil,List.nil_append,List.cons_append,layO,Out.val,Act.put,List.setIfInBounds_toArray,List.set_cons_zero,List.set_cons_succ];go_wp2_with fail;go_roundw
      case rel=>exact ⟨k+1,by omega,by go_num,HB.out.trans (hS.mono HB.out.size),(HST.out.trans (by rw[decide_eq_true (by omega)];rfl)).symm⟩
      case measure=>simp[intOf];omega
     ·skip;refine roB wr ?_;refine stq ?_ (fun aa ww ll hh=>?_) ?_;rotate_left
      ·have e0:=hh.oL 0;refine ov ?_;rw[xmv e0]
      refine stq ?_ (fun aa ww ll hh=>?_) ?_;rotate_left
      ·have e5:=hh.oL 5;refine ov ?_;rw[xmv e5]
      refine stq ?_ (fun aa ww ll hh=>?_) ?_;rotate_left
      ·have e12:=hh.gt 0 1;have e13:=hh.gt 1 0;exact ov gX
      refine stq ?_ (fun aa ww ll hh=>?_) ?_;rotate_left
      ·have e14:=hh.gt 2 0;have c0:=HCE.out ww hh.inv;exact ov gX
      refine stq ?_ (fun aa ww ll hh=>?_) ?_;rotate_left
      ·have e15:=hh.gt 3 0;have ec:=evc aa;exact ov gX
      refine stm 4 0 ?_;refine stq ?_ (fun aa ww ll hh=>?_) ?_;rotate_left
      ·have e0:=hh.oL 0;refine hh.og 0 ?_;rw[xmv e0]
      refine stq ?_ (fun aa ww ll hh=>?_) ?_;rotate_left
      ·have e5:=hh.oL 5;refine hh.og 1 ?_;rw[xmv e5]
      refine stq ?_ (fun aa ww ll hh=>?_) ?_;rotate_left
      ·have e18:=hh.gt 6 1;have e19:=hh.gt 7 0;exact hh.og 2 gX
      refine stq ?_ (fun aa ww ll hh=>?_) ?_;rotate_left
      ·have e20:=hh.gt 8 0;have c0:=HCE.out ww hh.inv;exact hh.og 3 gX
      refine stq ?_ (fun aa ww ll hh=>?_) ?_;rotate_left
      ·have e1:=hh.oL 1;refine hh.og 4 ?_;rw[xmv e1]
      refine stq ?_ (fun aa ww ll hh=>?_) ?_;rotate_left
      ·have e21:=hh.gt 9 1;have e22:=hh.gt 10 0;exact hh.og 5 gX
      refine stq ?_ (fun aa ww ll hh=>?_) ?_;rotate_left
      ·have e17:=hh.gt 5 6;have e23:=hh.gt 11 0;have ec:=evc aa;exact ov gX
      refine stm 12 0 ?_;refine stq ?_ (fun aa ww ll hh=>?_) ?_;rotate_left
      ·have e0:=hh.oL 0;refine hh.og 0 ?_;rw[xmv e0]
      refine stq ?_ (fun aa ww ll hh=>?_) ?_;rotate_left
      ·have e5:=hh.oL 5;refine hh.og 1 ?_;rw[xmv e5]
      refine stq ?_ (fun aa ww ll hh=>?_) ?_;rotate_left
      ·have e26:=hh.gt 14 1;have e27:=hh.gt 15 0;exact hh.og 2 gX
      refine stq ?_ (fun aa ww ll hh=>?_) ?_;rotate_left
      ·have e0:=hh.oL 0;refine hh.og 3 ?_;rw[xmv e0]
      refine stq ?_ (fun aa ww ll hh=>?_) ?_;rotate_left
      ·have e5:=hh.oL 5;refine hh.og 4 ?_;rw[xmv e5]
      refine stq ?_ (fun aa ww ll hh=>?_) ?_;rotate_left
      ·have e29:=hh.gt 17 1;have e30:=hh.gt 18 0;exact hh.og 5 gX
      refine stq ?_ (fun aa ww ll hh=>?_) ?_;rotate_left
      ·have e31:=hh.gt 19 0;have c0:=HCE.out ww hh.inv;exact hh.og 6 gX
      refine ⟨.eq (.bool true),trivial,rfl,fun aa ww ll hh=>?_,?_⟩
      ·have e28:=hh.gt 16 4;have e32:=hh.gt 20 0;have ef:=evf aa;refine out_call_eq (hh.go 7 rfl (by kernel_rfl) rfl rfl) ?_ (HIN.out ww hh.inv);exact gX
      refine stq ?_ (fun aa ww ll hh=>?_) ?_;rotate_left
      ·have e25:=hh.gt 13 8;have e33:=hh.gt 21 0;have ec:=evc aa;exact ov gX
      intro ll w3 hS hok;clear hok;simp only[List.reverse_cons,List.reverse_nil,List.nil_append,List.cons_append,layO,Out.val,Act.put,List.setIfInBounds_toArray,List.set_cons_zero,List.set_cons_succ];go_wp2_with fail;go_ret;refine ⟨?_,HB.out.trans (hS.mono HB.out.size)⟩;have e:listsP below [] l=false:=by rw[HST.out,decide_eq_true (by omega)];rfl
      rw[e];rfl
  ·obtain rfl:k=n:=by omega
   go_wp2_with fail;go_ret;refine ⟨?_,HB.out⟩;have e:listsP below [] l=true:=by rw[<- HL.out,List.drop_of_length_le (by have:=HE.out;omega)];rfl
   rw[e];rfl
open Go.RowKit
theorem refAnd_any (a b:Nat) (ha:a<B*B) (hb:b<B*B) (w:World):
 Calls Tryz.prog 87 #[numV a,numV b] w (RetNum w (a &&& b)):=by
 obtain ⟨fa,hfa⟩:∃fa,fa=a.testBit:=⟨_,rfl⟩;obtain ⟨fb,hfb⟩:∃fb,fb=b.testBit:=⟨_,rfl⟩;have HA:Hid (∀ W,Calls Tryz.prog 52 #[numV a] W fun e w'=>e= .returned (.agg (rowA fa))/\Below W.heap.size W w'):=fun W=>by rw[hfa];exact refBits_any a ha W
 have HB:Hid (∀ W,Calls Tryz.prog 52 #[numV b] W fun e w'=>e= .returned (.agg (rowA fb))/\Below W.heap.size W w'):=fun W=>by rw[hfb];exact refBits_any b hb W
 have HFA:=hD hfa;have HFB:=hD hfb;obtain ⟨h1,l1,e1,-,-⟩:=numV_parts a;obtain ⟨h2,l2,e2,-,-⟩:=numV_parts b;rw[e1] at HA⊢;rw[e2] at HB⊢;clear e1 e2 hfa hfb;go_enter Tryz.func87,Tryz.ntmps87;go_wp2_with fail;obtain ⟨W0,hW0⟩:∃W0,W0=((w.alloc (.cells #[.int .u64 (h1:Int), .int .u64 (l1:Int)] 60)).alloc (.cells #[.int .u64 (h2:Int), .int .u64 (l2:Int)] 60)).alloc (.cells #[.int .u64 0, .int .u64 0] 60):=⟨_,rfl⟩;have hbW:Below w.heap.size w W0:=by rw[hW0];exact (by repeat (first|exact Below.refl _ _|assumption|refine Below.drew ?_|refine blA ?_|refine blS ?_|refine blT ?_ (by assumption)))
 have z0:w.heap.size<W0.heap.size:=by rw[hW0];simp<;>omega
 have z1:w.heap.size+1<W0.heap.size:=by rw[hW0];simp
 have c0:W0.cell? ⟨w.heap.size,0,none⟩=some (.int .u64 (h1:Int)):=by rw[hW0];simp[go_sem]
 have c1:W0.cell? ⟨w.heap.size,1,none⟩=some (.int .u64 (l1:Int)):=by rw[hW0];simp[go_sem]
 have c2:W0.cell? ⟨w.heap.size+1,0,none⟩=some (.int .u64 (h2:Int)):=by rw[hW0];simp[go_sem]
 have c3:W0.cell? ⟨w.heap.size+1,1,none⟩=some (.int .u64 (l2:Int)):=by rw[hW0];simp[go_sem]
 have z2:w.heap.size+1+1<W0.heap.size:=by rw[hW0];simp
 have cr:W0.heap[w.heap.size+1+1]?=some (.cells #[.int .u64 0, .int .u64 0] 60 (0,0)):=by
  rw[hW0];have:=heap_new ((w.alloc (.cells #[.int .u64 (h1:Int), .int .u64 (l1:Int)] 60)).alloc (.cells #[.int .u64 (h2:Int), .int .u64 (l2:Int)] 60)) (.cells #[.int .u64 0, .int .u64 0] 60);simp only[World.size_alloc] at this;exact this
 rw[<- hW0];have HBW0:=hD hbW;clear hW0 hbW;refine wp_region_inv (by kernel_rfl) (fun L a' w'=>∃v5 v6 v8 v9 v10 v11:Value,a'=⟨#[.agg #[.int .u64 (h1:Int), .int .u64 (l1:Int)], .agg #[.int .u64 (h2:Int), .int .u64 (l2:Int)], .pointer (some ⟨w.heap.size,0,none⟩), .pointer (some ⟨w.heap.size+1,0,none⟩), .pointer (some ⟨w.heap.size+1+1,0,none⟩),v5,v6,undef,v8,v9,v10,v11,undef,undef,undef,undef,undef,undef,undef,undef,undef,undef,undef,undef,undef,undef,undef,undef],[]⟩/\TwoI (.agg #[.int .u64 (h1:Int), .int .u64 (l1:Int)]) (.agg #[.int .u64 (h2:Int), .int .u64 (l2:Int)]) fa fb W0 L v5 v6 v8 v9 v10 v11 w') ?_ ?_ ?_ ?_
 ·exact ⟨_,_,_,_,_,_,rfl,TwoI.init (by funext i;unfold did;match i with|0=>rfl|1=>rfl|2=>rfl|3=>rfl|4=>rfl|5=>rfl|6=>rfl|7=>rfl|i+8=>rfl) (below_drewN (Below.refl _ _) 1)⟩
 ·rintro L a' w' i hL hi hnd hdep ⟨v5,v6,v8,v9,v10,v11,rfl,hI⟩;have hL8:L.size=8:=hL;have HI:=hD hI;have d0:w'.cell? ⟨w.heap.size,0,none⟩=some (.int .u64 (h1:Int)):=(hI.below.cell (p:=⟨w.heap.size,0,none⟩) z0).trans c0;have d1:w'.cell? ⟨w.heap.size,1,none⟩=some (.int .u64 (l1:Int)):=(hI.below.cell (p:=⟨w.heap.size,1,none⟩) z0).trans c1;have d2:w'.cell? ⟨w.heap.size+1,0,none⟩=some (.int .u64 (h2:Int)):=(hI.below.cell (p:=⟨w.heap.size+1,0,none⟩) z1).trans c2;have d3:w'.cell? ⟨w.heap.size+1,1,none⟩=some (.int .u64 (l2:Int)):=(hI.below.cell (p:=⟨w.heap.size+1,1,none⟩) z1).trans c3;have hZ:Tryz.zeroCells114=rowA fun _=>false:=by kernel_rfl
  have HZ:=hD hZ;clear hZ hI
  match i,hi with
  |0,_=>
   clear hdep hnd;refine wpOp_step rfl (fun K' hK=>?_);go_simp;exact hK _ _ ⟨_,_,_,_,_,_,rfl,HI.out.s0 hL8⟩
  |1,_=>
   have q:=HI.out.h0 (hdep _ rfl ⟨0, .data⟩ (by simp) (by kernel_rfl));subst q;clear hdep hnd;refine wpOp_step rfl (fun K' hK=>?_);go_simp;refine (HA.out _).mono ?_;rintro e w1 ⟨rfl,hb1⟩;exact hK _ _ ⟨_,_,_,_,_,_,rfl,(HI.out.below' hb1).s1 hL8⟩
  |2,_=>
   clear hdep hnd;refine wpOp_step rfl (fun K' hK=>?_);go_simp;exact hK _ _ ⟨_,_,_,_,_,_,rfl,HI.out.s2 hL8⟩
  |3,_=>
   have q:=HI.out.h2 (hdep _ rfl ⟨2, .data⟩ (by simp) (by kernel_rfl));subst q;clear hdep hnd;refine wpOp_step rfl (fun K' hK=>?_);go_simp;refine (HB.out _).mono ?_;rintro e w1 ⟨rfl,hb1⟩;exact hK _ _ ⟨_,_,_,_,_,_,rfl,(HI.out.below' hb1).s3 hL8⟩
  |4,_=>
   have hnd':=hD hnd;clear hdep hnd;refine wpOp_step rfl (fun K' hK=>?_);go_simp;rw[HZ.out];exact hK _ _ ⟨_,_,_,_,_,_,rfl,HI.out.s4 hL8 hnd'.out⟩
  |5,_=>
   have hnd':=hD hnd;clear hdep hnd;refine wpOp_step rfl (fun K' hK=>?_);go_simp;rw[HZ.out];exact hK _ _ ⟨_,_,_,_,_,_,rfl,HI.out.s5 hL8 hnd'.out⟩
  |6,_=>
   have q4:=hdep _ rfl ⟨4, .data⟩ (by simp) (by kernel_rfl);have q:=HI.out.h1 (hdep _ rfl ⟨1, .data⟩ (by simp) (by kernel_rfl));subst q;obtain ⟨g,e1,-,e3⟩:=HI.out.h4 q4;subst e1;clear hdep hnd;refine wpOp_step rfl (fun K' hK=>?_);refine store_wanted rfl ?_;exact wp_store_row 114 (.tmp 5) (.tmp 9) rfl g (rowA fa) rfl rfl 114 _ e3 (by rw[rowA_size];exact infoRow) (by rw[rowA_size,rowA_size]) (rowA_one _) (hK _ _ ⟨_,_,_,_,_,_,rfl,HI.out.s6 hL8 q4 rfl⟩)
  |7,_=>
   have q5:=hdep _ rfl ⟨5, .data⟩ (by simp) (by kernel_rfl);have q:=HI.out.h3 (hdep _ rfl ⟨3, .data⟩ (by simp) (by kernel_rfl));subst q;obtain ⟨g,e1,-,e3⟩:=HI.out.h5 q5;subst e1;clear hdep hnd;refine wpOp_step rfl (fun K' hK=>?_);refine store_wanted rfl ?_;exact wp_store_row 114 (.tmp 6) (.tmp 11) rfl g (rowA fb) rfl rfl 114 _ e3 (by rw[rowA_size];exact infoRow) (by rw[rowA_size,rowA_size]) (rowA_one _) (hK _ _ ⟨_,_,_,_,_,_,rfl,HI.out.s7 hL8 q5 rfl⟩)
 ·intro i o ho e he
  match i,ho with
  |0,ho=>cases ho;simp at he
  |1,ho=>cases ho;simp at he;subst he;show (0:Nat)<1;omega
  |2,ho=>cases ho;simp at he
  |3,ho=>cases ho;simp at he;rcases he with rfl|rfl<;>(simp<;>omega)
  |4,ho=>cases ho;simp at he
  |5,ho=>cases ho;simp at he
  |6,ho=>cases ho;simp at he;rcases he with rfl|rfl|rfl|rfl|rfl|rfl|rfl|rfl|rfl<;>(simp<;>omega)
  |7,ho=>cases ho;simp at he;rcases he with rfl|rfl|rfl|rfl|rfl|rfl|rfl|rfl|rfl|rfl<;>(simp<;>omega)
 rintro L a' w' hall ⟨v5,v6,v8,v9,v10,v11,rfl,hI⟩;obtain ⟨rfl,rfl,rfl,rfl,gx,gy,hgn,rfl,rfl,hgx,hgy,hrx,hry,hbw⟩:=hI.all hall;have HRX:=hD hrx;have HRY:=hD hry;have HBW:=hD hbw;have HGN:=hD hgn;clear hI hall hrx hry hbw hgn HA HB c0 c1 c2 c3;have crx:=(HBW.out.block (w.heap.size+1+1) z2).trans cr;have hgx0:w.heap.size+1+1<gx:=by omega
 have hgy0:w.heap.size+1+1<gy:=by omega
 have H0:Hid (OpAt and fa fb w gx gy 0 w'):=⟨by rw[HRX.out];congr 2,HRY.out,⟨_,_,crx⟩,HBW0.out.trans (HBW.out.mono HBW0.out.size)⟩;clear crx cr HBW HBW0 z0 z1 z2 HRX HRY;go_wp2_with fail;go_loopw [7] (fun i wr=>∃k:Nat,k<=128/\i= .int .i64 k/\Hid (OpAt and fa fb w gx gy k wr)) (fun i _=>128-(intOf i).toNat)
 case atStart=>exact ⟨0,Nat.zero_le _,rfl,H0⟩
 case round=>
  obtain ⟨k,hk,rfl,HK⟩:=hrel;by_cases hlt:k<128
  ·obtain ⟨r1,r2,r3⟩:=HK.out.cells hlt;cases hf1:fa k<;>cases hf2:fb k
   all_goals
    rw[hf1] at r1;rw[hf2] at r2;have HF1:=hD hf1;have HF2:=hD hf2;clear hf1 hf2;go_wp2_with fail;go_roundw
    case rel=>exact ⟨k+1,by omega,by go_num,HK.out.step hlt HGN.out (by omega) (by rw[HF1.out,HF2.out];rfl)⟩
    case measure=>simp[intOf];omega
  ·obtain rfl:k=128:=by omega
   obtain ⟨r1,r2,⟨x0,x1,r3⟩,r4⟩:=HK.out;have e:(rowA fun i=>if i<128 then and (fa i) (fb i) else fa i)=rowA fun i=>and (fa i) (fb i):=rowA_congr fun i hi=>by rw[if_pos hi]
   rw[e] at r1;have HE:Hid (ofBits (fun i=>and (fa i) (fb i)) 128=a &&& b):=by
    show _=_;rw[HFA.out,HFB.out];refine ofBits_eq (by rw[<- BB_pow2];exact Nat.lt_of_le_of_lt Nat.and_le_left ha) fun i _=>?_
    simp[Nat.testBit_and]
   have HNUM:Hid (∀ W,Calls Tryz.prog 53 #[.agg (rowA fun i=>and (fa i) (fb i))] W (RetNum W (a &&& b))):=fun W=>by rw[<- HE.out];exact refNum_any _ W
   have HB4:=hD r4;have H3:=hD r3;clear e r2 r3 r4 HE HK H0 HGN;have hRR:(rowA fun i=>and (fa i) (fb i)).size=128:=rowA_size _;generalize (rowA fun i=>and (fa i) (fb i))=RR at r1 HNUM hRR;go_wp2_with (first
    |(refine wpList_load_row rfl 114 (.tmp 5) rfl gx rfl 114 RR (0,0) _ r1 Tryz.underlying114 rfl (by rw[hRR];exact infoRow) ?_))
   clear r1;obtain ⟨h3,l3,e3,-,-⟩:=numV_parts (a &&& b);have HE3:=hD e3;have HNUM2:Hid (∀ W,Calls Tryz.prog 53 #[.agg RR] W fun e w'=>e= .returned (.agg #[.int .u64 (h3:Int), .int .u64 (l3:Int)])/\Below W.heap.size W w'):=fun W=>by rw[<- HE3.out];exact HNUM.out W
   clear HNUM e3;refine (HNUM2.out _).mono ?_;rintro e w1 ⟨rfl,hb1⟩;have hr:=(hb1.block (w.heap.size+1+1) (lt_of_block H3.out)).trans H3.out;have q0:w1.cell? ⟨w.heap.size+1+1,0,none⟩=some x0:=by simp[World.cell?,hr]
   have q1:w1.cell? ⟨w.heap.size+1+1,1,none⟩=some x1:=by simp[World.cell?,hr]
   have qz:∀j,w1.frozen? ⟨w.heap.size+1+1,j,none⟩=false:=fun j=>by simp[World.frozen?,hr]
   have HR:=hD hr;have HB1:Hid (Below w.heap.size w w1):=HB4.out.trans (hb1.mono HB4.out.size);clear hr hb1;go_wp2_with fail;have hg:=set_lo (.int .u64 (l3:Int)) (set_hi (.int .u64 (h3:Int)) HR.out);exact bodyPost_ret (v:= .agg #[.int .u64 (h3:Int), .int .u64 (l3:Int)]) (results_cell_row Tryz.results87 _ _ (w.heap.size+1+1) _ _ _ _ (by simp[go_sem]) hg Tryz.underlying60 rfl (by kernel_rfl)) rfl ⟨by rw[HE3.out],(HB1.out.setCell (by show w.heap.size<=w.heap.size+1+1;omega) _).setCell (by show w.heap.size<=w.heap.size+1+1;omega) _⟩
end Go.Proofs.YtjfhfaodbjecdaaGreat
