/- Lemmas. -/
import Derived.Test.YtikilcbpogfgkaaGreatJI06
set_option maxHeartbeats 3200000
set_option maxRecDepth 100000
namespace Go.Proofs.YtikilcbpogfgkaaGreat
open Go.RowKit
variable {w:World} {g an ac:Nat} {act:Int} {ap:Option Addr}
theorem mayPat_any (x:Pt) (k:Int) (w:World) (hv:x.v<B*B) (hm:x.m<B*B):
 Calls Tryz.prog 83 #[.agg #[.int .u64 ((x.v/B:Nat):Int), .int .u64 ((x.v%B:Nat):Int), .int .u64 ((x.m/B:Nat):Int), .int .u64 ((x.m%B:Nat):Int)], .int .i64 k] w fun e w'=>e= .returned (.bool (mayPatP x k))/\Bl w w':=by
 obtain ⟨v,m⟩:=x;dsimp only at hv hm⊢;have HF1:Hd (∀ W,CR 70 #[numV v, .int .i64 k] W (.bool (fitsP v k))):=fun W=>fits01_any v k W hv
 have HF2:Hd (∀ W,CR 70 #[numV m, .int .i64 k] W (.bool (fitsP m k))):=fun W=>fits01_any m k W hm
 have HAN:Hd (∀ W,Calls Tryz.prog 111 #[numV v,numV m] W (RetNum W (v &&& m))):=fun W=>refAnd_any v m hv hm W
 have heq:=fun W=>eqln (v &&& m) v W
 have hR:mayPatP ⟨v,m⟩ k=(fitsP v k&&fitsP m k&&decide (v &&& m=v)):=rfl;rw[hR];clear hR hv hm;unfold RetNum at HAN;obtain ⟨v1,v2,ev,ev1,ev2⟩:=numV_parts v;obtain ⟨m1,m2,em,em1,em2⟩:=numV_parts m;obtain ⟨a1,a2,ea,-,-⟩:=numV_parts (v &&& m);rw[ev] at HF1;rw[em] at HF2;rw[ea,ev,em] at HAN;rw[ea,ev] at heq;rw[<- ev1, <-ev2, <-em1, <-em2];clear ev ev1 ev2 em em1 em2 ea;generalize decide (v &&& m=v)=r3 at*;generalize fitsP v k=r1 at*;generalize fitsP m k=r2 at*;go_enter Tryz.func83,Tryz.ntmps83;go_wp2_with fail;obtain ⟨W0,hW0⟩:=nm (w.alloc (.cells #[.int .u64 (v1:Int), .int .u64 (v2:Int), .int .u64 (m1:Int), .int .u64 (m2:Int)] 142));have hb0:Bl w W0:=by rw[hW0];exact br.alloc lr _
 have hn0:W0.heap[w.heap.size]?=some (.cells #[.int .u64 (v1:Int), .int .u64 (v2:Int), .int .u64 (m1:Int), .int .u64 (m2:Int)] 142 (0,0)):=by rw[hW0];exact heap_new _ _
 have HCE:Hd (∀ W,Bl W0 W->Cl W w.heap.size 0 (.int .u64 (v1:Int))/\Cl W w.heap.size 1 (.int .u64 (v2:Int))/\Cl W w.heap.size 2 (.int .u64 (m1:Int))/\Cl W w.heap.size 3 (.int .u64 (m2:Int))):=fun W h=>by
  have h2:=(h.block _ (gA_ hn0).1).trans hn0;refine ⟨?_,?_,?_,?_⟩<;>simp[World.cell?,h2]
 have HB0:=hD hb0;rw[<- hW0];clear hW0 hb0 hn0;cases r1
 ·skip;refine roB W0 ?_;refine sq (fun aa ww ll hh=>by have:=hh.oL 2;exact ov gX) ?_;refine sq (fun aa ww ll hh=>by have:=hh.gt 0 0;exact ov (fC (HCE.o ww hh.inv))) ?_;refine sq (fun aa ww ll hh=>by exact ov (xmv (hh.oL 1))) ?_;refine ⟨.eq (.bool false),trivial,rfl,fun aa ww ll hh=>?_,?_⟩
  ·exact gI2
  refine stm 3 0 ?_;refine stk 0 ?_;refine stk 1 ?_;refine stk 2 ?_;refine stk 3 ?_;exact gI1
 ·cases r2
  ·skip;refine roB W0 ?_;refine sq (fun aa ww ll hh=>by have:=hh.oL 2;exact ov gX) ?_;refine sq (fun aa ww ll hh=>by have:=hh.gt 0 0;exact ov (fC (HCE.o ww hh.inv))) ?_;refine sq (fun aa ww ll hh=>by exact ov (xmv (hh.oL 1))) ?_;refine ⟨.eq (.bool true),trivial,rfl,fun aa ww ll hh=>?_,?_⟩
   ·exact gI2
   refine stm 3 0 ?_;refine sq (fun aa ww ll hh=>by have:=hh.oL 2;exact hh.og 0 gX) ?_;refine sq (fun aa ww ll hh=>by have:=hh.gt 5 0;exact hh.og 1 (fC (HCE.o ww hh.inv))) ?_;refine sq (fun aa ww ll hh=>by exact hh.og 2 (xmv (hh.oL 1))) ?_;refine ⟨.eq (.bool false),trivial,rfl,fun aa ww ll hh=>?_,?_⟩
   ·exact gW3
   exact gI1
  ·skip;refine roB W0 ?_;refine sq (fun aa ww ll hh=>by have:=hh.oL 2;exact ov gX) ?_;refine sq (fun aa ww ll hh=>by have:=hh.gt 0 0;exact ov (fC (HCE.o ww hh.inv))) ?_;refine sq (fun aa ww ll hh=>by exact ov (xmv (hh.oL 1))) ?_;refine ⟨.eq (.bool true),trivial,rfl,fun aa ww ll hh=>?_,?_⟩
   ·exact gI2
   refine stm 3 0 ?_;refine sq (fun aa ww ll hh=>by have:=hh.oL 2;exact hh.og 0 gX) ?_;refine sq (fun aa ww ll hh=>by have:=hh.gt 5 0;exact hh.og 1 (fC (HCE.o ww hh.inv))) ?_;refine sq (fun aa ww ll hh=>by exact hh.og 2 (xmv (hh.oL 1))) ?_;refine ⟨.eq (.bool true),trivial,rfl,fun aa ww ll hh=>?_,?_⟩
   ·exact gW3
   refine sq (fun aa ww ll hh=>by have:=hh.gt 4 4;have:=hh.gt 8 0;have ec:=evc aa;exact ov gX) ?_;refine stm 9 0 ?_;refine sq (fun aa ww ll hh=>by have:=hh.oL 2;exact hh.og 0 gX) ?_;refine sq (fun aa ww ll hh=>by have:=hh.gt 11 0;exact hh.og 1 (fC (HCE.o ww hh.inv))) ?_;refine sq (fun aa ww ll hh=>by have:=hh.oL 2;exact hh.og 2 gX) ?_;refine sq (fun aa ww ll hh=>by have:=hh.gt 13 0;exact hh.og 3 (fC (HCE.o ww hh.inv))) ?_;refine ⟨.eq (.agg #[.int .u64 (a1:Int), .int .u64 (a2:Int)]),trivial,rfl,fun aa ww ll hh=>?_,?_⟩
   ·have e17:=hh.gt 12 2;have e19:=hh.gt 14 0;have ef:=evf aa;refine out_call_eq (hh.go 4 rfl kq rfl rfl) ?_ (HAN.o ww);exact gX
   refine sq (fun aa ww ll hh=>by have:=hh.oL 2;exact hh.og 5 gX) ?_;refine sq (fun aa ww ll hh=>by have:=hh.gt 16 0;exact hh.og 6 (fC (HCE.o ww hh.inv))) ?_;refine sq (fun aa ww ll hh=>by have:=hh.gt 15 2;have:=hh.gt 17 0;exact hh.og 7 gX) ?_;refine sq (fun aa ww ll hh=>by have:=hh.gt 10 8;have:=hh.gt 18 0;have ec:=evc aa;exact ov gX) ?_;refine stm 19 0 ?_;intro ll w3 hS hok;clear hok;simp only[ly];go_wp2_with fail;go_ret;refine ⟨?_,HB0.o.trans (hS.mono HB0.o.size)⟩;cases r3<;>rfl
def RBox (w:World) (g:Nat) (act:Int) (ap:Option Addr) (an ac:Nat):Prop:=w.heap[g]?=some (.cells #[.int .i64 act, .slice ap an ac] 119 (0,0))
theorem RBox.cells (h:RBox w g act ap an ac):w.cell? ⟨g,0,none⟩=some (.int .i64 act)/\w.cell? ⟨g,1,none⟩=some (.slice ap an ac):=by
 unfold RBox at h;refine ⟨?_,?_⟩<;>simp[World.cell?,h]
theorem RBox.below {w':World} (h:RBox w g act ap an ac) (hb:Bl w w'):RBox w' g act ap an ac:=(hb.block g (gA_ h).1).trans h
def truthN (b:Bool):Nat:=if b then 1 else 0
def thereP (x:Pkt) (h f:Int):Prop:=0<=h/\h<(x.valid.length:Int)/\h<(x.fields.length:Int)/\0<=f/\f<((x.fields.getD h.toNat []).length:Int)
instance (x:Pkt) (h f:Int):Decidable (thereP x h f):=inferInstanceAs (Decidable (_/\_))
def getP (x:Pkt) (h f:Int):Nat:=if thereP x h f/\x.valid.getD h.toNat false=true then (x.fields.getD h.toNat []).getD f.toNat 0 else 0
def accP (x:Pkt) (h f:Int):Bool:=decide (thereP x h f)&& !x.valid.getD h.toNat false
def leafP (x:Pkt) (args:List Nat) (n:Nod):Nat:=
 if n.op=1 then n.v else if n.op=2 then getP x n.a n.b else if n.op=3 then x.metas.getD n.a.toNat 0 else if n.op=4 then args.getD n.a.toNat 0 else if n.op=5 then x.port.toNat else truthN (x.valid.getD n.a.toNat false)
def leafA (x:Pkt) (n:Nod):Bool:=decide (n.op=2)&&accP x n.a n.b
def un1 (n:Nod) (v:Nat):Nat:=
 if n.op=7 then (v%2 ^ sh n.w) ^^^ (2 ^ sh n.w-1) else if n.op=8 then (0+(B*B-v))%(B*B)%2 ^ sh n.w else if n.op=9 then v/2 ^ sh n.b%2 ^ sh (n.a-n.b+1) else if n.op=13 then v*2 ^ sh n.a%(B*B)%2 ^ sh n.w else v/2 ^ sh n.a
def bin2 (n:Nod) (a b:Nat) (wb:Int):Nat:=
 if n.op=10 then (a*2 ^ sh wb%(B*B)%2 ^ sh 128) ||| (b%2 ^ sh wb) else if n.op=11 then (a+b)%(B*B)%2 ^ sh n.w else if n.op=12 then (a+(B*B-b))%(B*B)%2 ^ sh n.w
 else if n.op=15 then a &&& b else if n.op=16 then a ^^^ b else if n.op=17 then a ||| b else if n.op=18 then truthN (decide (a=b)) else if n.op=19 then truthN (decide (a<b)) else truthN (decide (a<=b))
def evT (x:Pkt) (args:List Nat):Tr->Nat
 | .leaf n=>leafP x args n%2 ^ sh n.w
 | .un n t=>un1 n (evT x args t)%2 ^ sh n.w
 | .bin n a b=>bin2 n (evT x args a) (evT x args b) b.root.w%2 ^ sh n.w
theorem ev_lt (x:Pkt) (args:List Nat) (t:Tr):evT x args t<2 ^ sh t.root.w:=by
 cases t<;>exact Nat.mod_lt _ (Nat.two_pow_pos _)
theorem pow_BB:(2:Nat) ^ 128=B*B:=by decide
theorem sh_ltBB {v:Nat} {k:Int} (h:v<2 ^ sh k):v<B*B:=by
 rw[<- pow_BB];exact Nat.lt_of_lt_of_le h (Nat.pow_le_pow_right om (sh_le k))
theorem allIdx_iff {α:Type} {f:Nat->α->Bool}:∀{l:List α} {i:Nat},allIdx f i l=true↔∀(j:Nat) (x:α),l[j]?=some x->f (i+j) x=true
 |[],i=>by simp[allIdx]
 |y::l,i=>by
  rw[allIdx,Bool.and_eq_true,allIdx_iff (l:=l)];constructor
  ·rintro ⟨h1,h2⟩ j x hj;cases j with
   |zero=>simp only[List.getElem?_cons_zero,Option.some.injEq] at hj;subst hj;simpa using h1
   |succ j=>have:=h2 j x (by simpa using hj);rwa [show i+1+j=i+(j+1) by omega] at this
  ·intro h;refine ⟨by simpa using h 0 y sm,fun j x hj=>?_⟩;have:=h (j+1) x (by simpa using hj)
   rwa [show i+(j+1)=i+1+j by omega] at this
end Go.Proofs.YtikilcbpogfgkaaGreat
