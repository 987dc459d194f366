/-
  Lemmas, joined: MayE, EvP.
-/
import Derived.Test.YtjfhfaodbjecdaaGreatJC06
import Derived.Test.YtjfhfaodbjecdaaGreatJC04
set_option maxHeartbeats 3200000
set_option maxRecDepth 100000
namespace Go.Proofs.YtjfhfaodbjecdaaGreat
open Go.RowKit
theorem mayPat_any (x:Pt) (k:Int) (w:World) (hv:x.v<B*B) (hm:x.m<B*B):
 Calls Tryz.prog 61 #[.agg #[.int .u64 ((x.v/B:Nat):Int), .int .u64 ((x.v%B:Nat):Int), .int .u64 ((x.m/B:Nat):Int), .int .u64 ((x.m%B:Nat):Int)], .int .i64 k] w fun e w'=>e= .returned (.bool (mayPatP x k))/\Below w.heap.size w w':=by
 obtain ⟨v,m⟩:=x;dsimp only at hv hm⊢;have HF1:Hid (∀ W,Calls Tryz.prog 55 #[numV v, .int .i64 k] W fun e w'=>e= .returned (.bool (fitsP v k))/\Below W.heap.size W w'):=fun W=>fits01_any v k W hv
 have HF2:Hid (∀ W,Calls Tryz.prog 55 #[numV m, .int .i64 k] W fun e w'=>e= .returned (.bool (fitsP m k))/\Below W.heap.size W w'):=fun W=>fits01_any m k W hm
 have HAN:Hid (∀ W,Calls Tryz.prog 87 #[numV v,numV m] W (RetNum W (v &&& m))):=fun W=>refAnd_any v m hv hm W
 have heq:=fun W=>eqln (v &&& m) v W
 have hR:mayPatP ⟨v,m⟩ k=(fitsP v k&&fitsP m k&&decide (v &&& m=v)):=rfl;rw[hR];clear hR hv hm;unfold RetNum at HAN;obtain ⟨v1,v2,ev,ev1,ev2⟩:=numV_parts v;obtain ⟨m1,m2,em,em1,em2⟩:=numV_parts m;obtain ⟨a1,a2,ea,-,-⟩:=numV_parts (v &&& m);rw[ev] at HF1;rw[em] at HF2;rw[ea,ev,em] at HAN;rw[ea,ev] at heq;rw[<- ev1, <-ev2, <-em1, <-em2];clear ev ev1 ev2 em em1 em2 ea;generalize decide (v &&& m=v)=r3 at*;generalize fitsP v k=r1 at*;generalize fitsP m k=r2 at*;go_enter Tryz.func61,Tryz.ntmps61;go_wp2_with fail;obtain ⟨W0,hW0⟩:∃W0,W0=w.alloc (.cells #[.int .u64 (v1:Int), .int .u64 (v2:Int), .int .u64 (m1:Int), .int .u64 (m2:Int)] 128):=⟨_,rfl⟩;have hb0:Below w.heap.size w W0:=by rw[hW0];exact (Below.refl _ _).alloc (Nat.le_refl _) _
 have hn0:W0.heap[w.heap.size]?=some (.cells #[.int .u64 (v1:Int), .int .u64 (v2:Int), .int .u64 (m1:Int), .int .u64 (m2:Int)] 128 (0,0)):=by rw[hW0];exact heap_new _ _
 have HCE:Hid (∀ W,Below W0.heap.size W0 W->W.cell? ⟨w.heap.size,0,none⟩=some (.int .u64 (v1:Int))/\W.cell? ⟨w.heap.size,1,none⟩=some (.int .u64 (v2:Int))/\W.cell? ⟨w.heap.size,2,none⟩=some (.int .u64 (m1:Int))/\W.cell? ⟨w.heap.size,3,none⟩=some (.int .u64 (m2:Int))):=fun W h=>by
  have h2:=(h.block _ (Array.getElem?_eq_some_iff.1 hn0).1).trans hn0;refine ⟨?_,?_,?_,?_⟩<;>simp[World.cell?,h2]
 have HB0:=hD hb0;rw[<- hW0];clear hW0 hb0 hn0;cases r1
 ·skip;refine roB W0 ?_;refine stq ?_ (fun aa ww ll hh=>?_) ?_;rotate_left
  ·have e2:=hh.oL 2;exact ov gX
  refine stq ?_ (fun aa ww ll hh=>?_) ?_;rotate_left
  ·have e5:=hh.gt 0 0;obtain ⟨q0,q1,q2,q3⟩:=HCE.out ww hh.inv;exact ov gX
  refine stq ?_ (fun aa ww ll hh=>?_) ?_;rotate_left
  ·have e1:=hh.oL 1;refine ov ?_;rw[xmv e1]
  refine ⟨.eq (.bool false),trivial,rfl,fun aa ww ll hh=>?_,?_⟩
  ·have e6:=hh.gt 1 1;have e7:=hh.gt 2 0;have ef:=evf aa;refine out_call_eq (wanted_none rfl) ?_ (HF1.out ww);exact gX
  refine stm 3 0 ?_;refine stk 0 ?_;refine stk 1 ?_;refine stk 2 ?_;refine stk 3 ?_;refine stq ?_ (fun aa ww ll hh=>?_) ?_;rotate_left
  ·have e9:=hh.gt 4 4;have e13:=hh.gt 8 0;have ec:=evc aa;exact ov gX
  refine stm 9 0 ?_;refine stk 0 ?_;refine stk 1 ?_;refine stk 2 ?_;refine stk 3 ?_;refine stk 4 ?_;refine stk 5 ?_;refine stk 6 ?_;refine stk 7 ?_;refine stq ?_ (fun aa ww ll hh=>?_) ?_;rotate_left
  ·have e15:=hh.gt 10 8;have e23:=hh.gt 18 0;have ec:=evc aa;exact ov gX
  refine stm 19 0 ?_;intro ll w3 hS hok;clear hok;simp only[List.reverse_cons,List.reverse_nil,List.nil_append,List.cons_append,layO,Out.val,Act.put,List.setIfInBounds_toArray,List.set_cons_zero,List.set_cons_succ];go_wp2_with fail;go_ret;exact ⟨rfl,HB0.out.trans (hS.mono HB0.out.size)⟩
 ·cases r2
  ·skip;refine roB W0 ?_;refine stq ?_ (fun aa ww ll hh=>?_) ?_;rotate_left
   ·have e2:=hh.oL 2;exact ov gX
   refine stq ?_ (fun aa ww ll hh=>?_) ?_;rotate_left
   ·have e5:=hh.gt 0 0;obtain ⟨q0,q1,q2,q3⟩:=HCE.out ww hh.inv;exact ov gX
   refine stq ?_ (fun aa ww ll hh=>?_) ?_;rotate_left
   ·have e1:=hh.oL 1;refine ov ?_;rw[xmv e1]
   refine ⟨.eq (.bool true),trivial,rfl,fun aa ww ll hh=>?_,?_⟩
   ·have e6:=hh.gt 1 1;have e7:=hh.gt 2 0;have ef:=evf aa;refine out_call_eq (wanted_none rfl) ?_ (HF1.out ww);exact gX
   refine stm 3 0 ?_;refine stq ?_ (fun aa ww ll hh=>?_) ?_;rotate_left
   ·have e2:=hh.oL 2;exact hh.og 0 gX
   refine stq ?_ (fun aa ww ll hh=>?_) ?_;rotate_left
   ·have e10:=hh.gt 5 0;obtain ⟨q0,q1,q2,q3⟩:=HCE.out ww hh.inv;exact hh.og 1 gX
   refine stq ?_ (fun aa ww ll hh=>?_) ?_;rotate_left
   ·have e1:=hh.oL 1;refine hh.og 2 ?_;rw[xmv e1]
   refine ⟨.eq (.bool false),trivial,rfl,fun aa ww ll hh=>?_,?_⟩
   ·have e11:=hh.gt 6 1;have e12:=hh.gt 7 0;have ef:=evf aa;refine out_call_eq (hh.go 3 rfl (by kernel_rfl) rfl rfl) ?_ (HF2.out ww);exact gX
   refine stq ?_ (fun aa ww ll hh=>?_) ?_;rotate_left
   ·have e9:=hh.gt 4 4;have e13:=hh.gt 8 0;have ec:=evc aa;exact ov gX
   refine stm 9 0 ?_;refine stk 0 ?_;refine stk 1 ?_;refine stk 2 ?_;refine stk 3 ?_;refine stk 4 ?_;refine stk 5 ?_;refine stk 6 ?_;refine stk 7 ?_;refine stq ?_ (fun aa ww ll hh=>?_) ?_;rotate_left
   ·have e15:=hh.gt 10 8;have e23:=hh.gt 18 0;have ec:=evc aa;exact ov gX
   refine stm 19 0 ?_;intro ll w3 hS hok;clear hok;simp only[List.reverse_cons,List.reverse_nil,List.nil_append,List.cons_append,layO,Out.val,Act.put,List.setIfInBounds_toArray,List.set_cons_zero,List.set_cons_succ];go_wp2_with fail;go_ret;exact ⟨rfl,HB0.out.trans (hS.mono HB0.out.size)⟩
  ·skip;refine roB W0 ?_;refine stq ?_ (fun aa ww ll hh=>?_) ?_;rotate_left
   ·have e2:=hh.oL 2;exact ov gX
   refine stq ?_ (fun aa ww ll hh=>?_) ?_;rotate_left
   ·have e5:=hh.gt 0 0;obtain ⟨q0,q1,q2,q3⟩:=HCE.out ww hh.inv;exact ov gX
   refine stq ?_ (fun aa ww ll hh=>?_) ?_;rotate_left
   ·have e1:=hh.oL 1;refine ov ?_;rw[xmv e1]
   refine ⟨.eq (.bool true),trivial,rfl,fun aa ww ll hh=>?_,?_⟩
   ·have e6:=hh.gt 1 1;have e7:=hh.gt 2 0;have ef:=evf aa;refine out_call_eq (wanted_none rfl) ?_ (HF1.out ww);exact gX
   refine stm 3 0 ?_;refine stq ?_ (fun aa ww ll hh=>?_) ?_;rotate_left
   ·have e2:=hh.oL 2;exact hh.og 0 gX
   refine stq ?_ (fun aa ww ll hh=>?_) ?_;rotate_left
   ·have e10:=hh.gt 5 0;obtain ⟨q0,q1,q2,q3⟩:=HCE.out ww hh.inv;exact hh.og 1 gX
   refine stq ?_ (fun aa ww ll hh=>?_) ?_;rotate_left
   ·have e1:=hh.oL 1;refine hh.og 2 ?_;rw[xmv e1]
   refine ⟨.eq (.bool true),trivial,rfl,fun aa ww ll hh=>?_,?_⟩
   ·have e11:=hh.gt 6 1;have e12:=hh.gt 7 0;have ef:=evf aa;refine out_call_eq (hh.go 3 rfl (by kernel_rfl) rfl rfl) ?_ (HF2.out ww);exact gX
   refine stq ?_ (fun aa ww ll hh=>?_) ?_;rotate_left
   ·have e9:=hh.gt 4 4;have e13:=hh.gt 8 0;have ec:=evc aa;exact ov gX
   refine stm 9 0 ?_;refine stq ?_ (fun aa ww ll hh=>?_) ?_;rotate_left
   ·have e2:=hh.oL 2;exact hh.og 0 gX
   refine stq ?_ (fun aa ww ll hh=>?_) ?_;rotate_left
   ·have e16:=hh.gt 11 0;obtain ⟨q0,q1,q2,q3⟩:=HCE.out ww hh.inv;exact hh.og 1 gX
   refine stq ?_ (fun aa ww ll hh=>?_) ?_;rotate_left
   ·have e2:=hh.oL 2;exact hh.og 2 gX
   refine stq ?_ (fun aa ww ll hh=>?_) ?_;rotate_left
   ·have e18:=hh.gt 13 0;obtain ⟨q0,q1,q2,q3⟩:=HCE.out ww hh.inv;exact hh.og 3 gX
   refine ⟨.eq (.agg #[.int .u64 (a1:Int), .int .u64 (a2:Int)]),trivial,rfl,fun aa ww ll hh=>?_,?_⟩
   ·have e17:=hh.gt 12 2;have e19:=hh.gt 14 0;have ef:=evf aa;refine out_call_eq (hh.go 4 rfl (by kernel_rfl) rfl rfl) ?_ (HAN.out ww);exact gX
   refine stq ?_ (fun aa ww ll hh=>?_) ?_;rotate_left
   ·have e2:=hh.oL 2;exact hh.og 5 gX
   refine stq ?_ (fun aa ww ll hh=>?_) ?_;rotate_left
   ·have e21:=hh.gt 16 0;obtain ⟨q0,q1,q2,q3⟩:=HCE.out ww hh.inv;exact hh.og 6 gX
   refine stq ?_ (fun aa ww ll hh=>?_) ?_;rotate_left
   ·have e20:=hh.gt 15 2;have e22:=hh.gt 17 0;exact hh.og 7 gX
   refine stq ?_ (fun aa ww ll hh=>?_) ?_;rotate_left
   ·have e15:=hh.gt 10 8;have e23:=hh.gt 18 0;have ec:=evc aa;exact ov gX
   refine stm 19 0 ?_;intro ll w3 hS hok;clear hok;simp only[List.reverse_cons,List.reverse_nil,List.nil_append,List.cons_append,layO,Out.val,Act.put,List.setIfInBounds_toArray,List.set_cons_zero,List.set_cons_succ];go_wp2_with fail;go_ret;refine ⟨?_,HB0.out.trans (hS.mono HB0.out.size)⟩;cases r3<;>rfl
def RBox (w:World) (g:Nat) (act:Int) (ap:Option Addr) (an ac:Nat):Prop:=w.heap[g]?=some (.cells #[.int .i64 act, .slice ap an ac] 52 (0,0))
theorem RBox.cells {w:World} {g:Nat} {act:Int} {ap:Option Addr} {an ac:Nat} (h:RBox w g act ap an ac):w.cell? ⟨g,0,none⟩=some (.int .i64 act)/\w.cell? ⟨g,1,none⟩=some (.slice ap an ac):=by
 unfold RBox at h;refine ⟨?_,?_⟩<;>simp[World.cell?,h]
theorem RBox.below {w w':World} {g:Nat} {act:Int} {ap:Option Addr} {an ac:Nat} (h:RBox w g act ap an ac) (hb:Below w.heap.size w w'):RBox w' g act ap an ac:=(hb.block g (Array.getElem?_eq_some_iff.1 h).1).trans h
def truthN (b:Bool):Nat:=if b then 1 else 0
def thereP (x:Pkt) (h f:Int):Prop:=0<=h/\h<(x.valid.length:Int)/\h<(x.fields.length:Int)/\0<=f/\f<((x.fields.getD h.toNat []).length:Int)
instance (x:Pkt) (h f:Int):Decidable (thereP x h f):=inferInstanceAs (Decidable (_/\_))
def getP (x:Pkt) (h f:Int):Nat:=if thereP x h f/\x.valid.getD h.toNat false=true then (x.fields.getD h.toNat []).getD f.toNat 0 else 0
def accP (x:Pkt) (h f:Int):Bool:=decide (thereP x h f)&& !x.valid.getD h.toNat false
def leafP (x:Pkt) (args:List Nat) (n:Nod):Nat:=
 if n.op=1 then n.v else if n.op=2 then getP x n.a n.b else if n.op=3 then x.metas.getD n.a.toNat 0 else if n.op=4 then args.getD n.a.toNat 0 else if n.op=5 then x.port.toNat else truthN (x.valid.getD n.a.toNat false)
def leafA (x:Pkt) (n:Nod):Bool:=decide (n.op=2)&&accP x n.a n.b
def un1 (n:Nod) (v:Nat):Nat:=
 if n.op=7 then (v%2 ^ sh n.w) ^^^ (2 ^ sh n.w-1) else if n.op=8 then (0+(B*B-v))%(B*B)%2 ^ sh n.w else if n.op=9 then v/2 ^ sh n.b%2 ^ sh (n.a-n.b+1) else if n.op=13 then v*2 ^ sh n.a%(B*B)%2 ^ sh n.w else v/2 ^ sh n.a
def bin2 (n:Nod) (a b:Nat) (wb:Int):Nat:=
 if n.op=10 then (a*2 ^ sh wb%(B*B)%2 ^ sh 128) ||| (b%2 ^ sh wb) else if n.op=11 then (a+b)%(B*B)%2 ^ sh n.w else if n.op=12 then (a+(B*B-b))%(B*B)%2 ^ sh n.w
 else if n.op=15 then a &&& b else if n.op=16 then a ^^^ b else if n.op=17 then a ||| b else if n.op=18 then truthN (decide (a=b)) else if n.op=19 then truthN (decide (a<b)) else truthN (decide (a<=b))
def evT (x:Pkt) (args:List Nat):Tr->Nat
 | .leaf n=>leafP x args n%2 ^ sh n.w
 | .un n t=>un1 n (evT x args t)%2 ^ sh n.w
 | .bin n a b=>bin2 n (evT x args a) (evT x args b) b.root.w%2 ^ sh n.w
theorem ev_lt (x:Pkt) (args:List Nat) (t:Tr):evT x args t<2 ^ sh t.root.w:=by
 cases t<;>exact Nat.mod_lt _ (Nat.two_pow_pos _)
theorem pow_BB:(2:Nat) ^ 128=B*B:=by decide
theorem sh_ltBB {v:Nat} {k:Int} (h:v<2 ^ sh k):v<B*B:=by
 rw[<- pow_BB];exact Nat.lt_of_lt_of_le h (Nat.pow_le_pow_right (by omega) (sh_le k))
def numsP (l:List Nat) (ws:List Int):Bool:=decide (l.length=ws.length)&&(List.zip l ws).all fun x=>fitsP x.1 x.2
def pktP (p:Prg) (x:Pkt):Bool:=
 decide (x.valid.length=p.heads.length/\x.fields.length=p.heads.length)&&numsP x.metas p.metas&&allIdx (fun i l=>numsP l (p.heads.getD i [])&&(x.valid.getD i false||l.all fun v=>decide (v=0))) 0 x.fields
theorem allIdx_iff {α:Type} {f:Nat->α->Bool}:∀{l:List α} {i:Nat},allIdx f i l=true↔∀(j:Nat) (x:α),l[j]?=some x->f (i+j) x=true
 |[],i=>by simp[allIdx]
 |y::l,i=>by
  rw[allIdx,Bool.and_eq_true,allIdx_iff (l:=l)];constructor
  ·rintro ⟨h1,h2⟩ j x hj;cases j with
   |zero=>simp only[List.getElem?_cons_zero,Option.some.injEq] at hj;subst hj;simpa using h1
   |succ j=>have:=h2 j x (by simpa using hj);rwa [show i+1+j=i+(j+1) by omega] at this
  ·intro h;refine ⟨by simpa using h 0 y (by simp),fun j x hj=>?_⟩;have:=h (j+1) x (by simpa using hj)
   rwa [show i+(j+1)=i+1+j by omega] at this
end Go.Proofs.YtjfhfaodbjecdaaGreat
