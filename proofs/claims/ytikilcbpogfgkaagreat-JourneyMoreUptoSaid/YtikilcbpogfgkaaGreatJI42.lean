/- Lemmas. -/
import Derived.Test.YtikilcbpogfgkaaGreatJI40
set_option maxHeartbeats 1600000
set_option maxRecDepth 100000
namespace Go.Proofs.YtikilcbpogfgkaaGreat
open Go.RowKit
variable {f:Nat->Bool} {k n N i id:Nat} {ops:Array Oper} {o:Oper} {R:World->World->Prop} {S:World->Prop} {w:World} {v:Value} {P:Program} {Q:Exit->Act->World->Prop} {d:Tmp}
theorem digit03_is (c:Int):∃b,∀w,Calls Tryz.prog 103 #[.int .u8 c] w fun e w'=>e= .returned (.bool b)/\w'=w:=by
 obtain ⟨R,hR⟩:=nm (decide (48<=c/\c<=57));refine ⟨R,fun w=>?_⟩;have HR:=hD hR;clear hR;go_enter Tryz.func103,Tryz.ntmps103;exact gF3
theorem letter03_is (c:Int):∃b,∀w,Calls Tryz.prog 105 #[.int .u8 c] w fun e w'=>e= .returned (.bool b)/\w'=w:=by
 obtain ⟨R,hR⟩:=nm (decide (97<=c/\c<=122\/65<=c/\c<=90\/c=95));refine ⟨R,fun w=>?_⟩;have HR:=hD hR;clear hR;go_enter Tryz.func105,Tryz.ntmps105;exact gF3
def kwL:List ByteArray:=[⟨#[104,101,97,100,101,114]⟩,⟨#[109,101,116,97,100,97,116,97]⟩,⟨#[98,105,116]⟩,⟨#[112,97,114,115,101,114]⟩,⟨#[115,116,97,116,101]⟩,⟨#[101,120,116,114,97,99,116]⟩,⟨#[116,114,97,110,115,105,116,105,111,110]⟩,⟨#[115,101,108,101,99,116]⟩,⟨#[97,99,99,101,112,116]⟩,⟨#[114,101,106,101,99,116]⟩,⟨#[100,101,102,97,117,108,116]⟩,⟨#[97,99,116,105,111,110]⟩,⟨#[116,97,98,108,101]⟩,⟨#[107,101,121]⟩,⟨#[97,99,116,105,111,110,115]⟩,⟨#[101,120,97,99,116]⟩,⟨#[108,112,109]⟩,⟨#[116,101,114,110,97,114,121]⟩,⟨#[99,111,110,116,114,111,108]⟩,⟨#[97,112,112,108,121]⟩,⟨#[105,102]⟩,⟨#[101,108,115,101]⟩,⟨#[100,114,111,112]⟩,⟨#[102,111,114,119,97,114,100]⟩,⟨#[118,97,108,105,100]⟩,⟨#[105,110,118,97,108,105,100]⟩,⟨#[100,101,112,97,114,115,101,114]⟩,⟨#[101,109,105,116]⟩,⟨#[109,101,116,97]⟩,⟨#[112,111,114,116]⟩,⟨#[105,115,86,97,108,105,100]⟩,⟨#[95]⟩]
theorem any_drop {f:ByteArray->Bool} {l:List ByteArray} (h:k<l.length):(l.drop k).any f=(f (l.getD k ⟨#[]⟩)||(l.drop (k+1)).any f):=by
 rw[List.drop_eq_getElem_cons h,List.any_cons,List.getD_eq_getElem?_getD,gE_ h];rfl
theorem iskw03_is (s:ByteArray):∃b,∀w,Calls Tryz.prog 104 #[.string s] w fun e w'=>e= .returned (.bool b)/\Bl w w':=by
 obtain ⟨R,hR⟩:=nm ((kwL.drop 0).any fun b=>b.toList==s.toList);refine ⟨R,fun w=>?_⟩;have HR:=hD hR;clear hR;go_enter Tryz.func104,Tryz.ntmps104;go_upto_region 2 with fail;obtain ⟨W0,hW0⟩:=nm (w.alloc (.cells #[.string ⟨#[104,101,97,100,101,114]⟩, .string ⟨#[109,101,116,97,100,97,116,97]⟩, .string ⟨#[98,105,116]⟩, .string ⟨#[112,97,114,115,101,114]⟩, .string ⟨#[115,116,97,116,101]⟩, .string ⟨#[101,120,116,114,97,99,116]⟩, .string ⟨#[116,114,97,110,115,105,116,105,111,110]⟩, .string ⟨#[115,101,108,101,99,116]⟩, .string ⟨#[97,99,99,101,112,116]⟩, .string ⟨#[114,101,106,101,99,116]⟩, .string ⟨#[100,101,102,97,117,108,116]⟩, .string ⟨#[97,99,116,105,111,110]⟩, .string ⟨#[116,97,98,108,101]⟩, .string ⟨#[107,101,121]⟩, .string ⟨#[97,99,116,105,111,110,115]⟩, .string ⟨#[101,120,97,99,116]⟩, .string ⟨#[108,112,109]⟩, .string ⟨#[116,101,114,110,97,114,121]⟩, .string ⟨#[99,111,110,116,114,111,108]⟩, .string ⟨#[97,112,112,108,121]⟩, .string ⟨#[105,102]⟩, .string ⟨#[101,108,115,101]⟩, .string ⟨#[100,114,111,112]⟩, .string ⟨#[102,111,114,119,97,114,100]⟩, .string ⟨#[118,97,108,105,100]⟩, .string ⟨#[105,110,118,97,108,105,100]⟩, .string ⟨#[100,101,112,97,114,115,101,114]⟩, .string ⟨#[101,109,105,116]⟩, .string ⟨#[109,101,116,97]⟩, .string ⟨#[112,111,114,116]⟩, .string ⟨#[105,115,86,97,108,105,100]⟩, .string ⟨#[95]⟩] 9));have HB0:Hd (Bl w W0):=by show Below _ _ _;rw[hW0];exact bL
 have HK:Hd (∀ W,Bl W0 W->∀i,i<32->Cl W w.heap.size i (.string (kwL.getD i ⟨#[]⟩))):=fun W hb i hi=>by
  have h1:W0.heap[w.heap.size]?=some (.cells (kwL.map Value.string).toArray 9 (0,0)):=by rw[hW0];exact heap_new _ _
  have h2:(kwL.map Value.string)[i]?=some (.string (kwL.getD i ⟨#[]⟩)):=by
   have:i<kwL.length:=hi;rw[List.getElem?_map,gE_ this,List.getD_eq_getElem?_getD,gE_ this];rfl
  refine (hb.cell (p:=⟨w.heap.size,i,none⟩) (gA_ h1).1).trans ?_;simp only[World.cell?,h1];simpa using h2
 rw[<- hW0];clear hW0;go_wp2_with fail;go_loopw [4] (fun i wr=>∃k:Nat,k<=32/\i= .int .i64 (k:Int)/\Hd (R=(kwL.drop k).any fun b=>b.toList==s.toList)/\Hd (Bl W0 wr)) (fun i _=>32-(intOf i).toNat)
 case atStart=>exact ⟨0,zl,rfl,HR.o,Below.refl _ _⟩
 case round=>
  obtain ⟨k,hk,rfl,HI,HB⟩:=hrel;have HB2:=hD (HB0.o.trans (HB.o.mono HB0.o.size));by_cases hlt:k<32
  ·have hki:(k:Int)<32:=om;have hb:=HK.o wr HB.o k hlt;have HI2:Hd (R=((kwL.getD k ⟨#[]⟩).toList==s.toList||(kwL.drop (k+1)).any fun b=>b.toList==s.toList)):=HI.o.trans (any_drop (by exact hlt));generalize kwL.getD k ⟨#[]⟩=b at*;cases hx:(b.toList==s.toList)
   ·go_wp2_with fail;go_roundw
    case rel=>exact ⟨k+1,om,by go_num,by show _=_;rw[HI2.o,hx];rfl,HB.o⟩
    case measure=>exact mz
   ·go_wp2_with fail;go_ret;exact ⟨by rw[HI2.o,hx];rfl,HB2.o⟩
  obtain rfl:k=32:=om;have hki:¬((32:Nat):Int)<32:=om;go_wp2_with fail;go_ret;exact ⟨by rw[HI.o];rfl,HB2.o⟩
def allN (f:Nat->Bool):Nat->Nat->Bool
 |0,_=>true
 |m+1,k=>f k&&allN f m (k+1)
def allFrom (f:Nat->Bool) (n k:Nat):Bool:=allN f (n-k) k
theorem allFrom_step (h:k<n):allFrom f n k=(f k&&allFrom f n (k+1)):=by
 unfold allFrom;rw[show n-k=(n-(k+1))+1 by omega];rfl
theorem allFrom_end:allFrom f n n=true:=by unfold allFrom;rw[Nat.sub_self];rfl
theorem isname03_is (s:ByteArray):∃b,∀w,Calls Tryz.prog 72 #[.string s] w fun e w'=>e= .returned (.bool b)/\Bl w w':=by
 obtain ⟨D,hDg⟩:=Classical.axiomOfChoice digit03_is;obtain ⟨L,hL⟩:=Classical.axiomOfChoice letter03_is;obtain ⟨K,hK⟩:=iskw03_is s;have HD:=hD hDg;have HL:=hD hL;have HK:=hD hK;obtain ⟨f,hf⟩:∃f:Nat->Bool,f=fun i=>if h:i<s.size then (L (s[i].toNat:Int)||D (s[i].toNat:Int)) else true:=⟨_,rfl⟩
 obtain ⟨R,hR⟩:=nm (allFrom f s.size 0);have HF:=hD hf;have HR:=hD hR;clear hDg hL hK hf hR;by_cases h1:((s.size:Nat):Int)<1
 ·refine ⟨false,fun w=>?_⟩;go_enter Tryz.func72,Tryz.ntmps72;exact gS1
 by_cases h2:(16:Int)<((s.size:Nat):Int)
 ·refine ⟨false,fun w=>?_⟩;go_enter Tryz.func72,Tryz.ntmps72;exact gS1
 have h3:0<s.size:=om;obtain ⟨d0,hd0⟩:=nm (D (s[0].toNat:Int));have HD0:Hd (∀ w,Calls Tryz.prog 103 #[.int .u8 (s[0].toNat:Int)] w fun e w'=>e= .returned (.bool d0)/\w'=w):=fun w=>by rw[hd0];exact HD.o _ w
 clear hd0;refine ⟨!d0&& !K&&R,fun w=>?_⟩;obtain ⟨ANS,hANS⟩:=nm (!d0&& !K&&R);rw[<- hANS];have HANS:=hD hANS;clear hANS;go_enter Tryz.func72,Tryz.ntmps72;cases d0;rotate_left
 ·go_wp2_with (go_at_call 103;refine (HD0.o _).mono ?_;rintro e w1 ⟨rfl,hw1⟩;obtain rfl:w=w1:=hw1.symm;clear hw1);go_ret;exact ⟨by rw[HANS.o];rfl,Below.refl _ _⟩
 cases K;rotate_left
 ·go_wp2_with (first
   |(go_at_call 103;refine (HD0.o _).mono ?_;rintro e w1 ⟨rfl,hw1⟩;obtain rfl:w=w1:=hw1.symm;clear hw1)
   |(go_at_call 104;refine (HK.o _).mono ?_;rintro e w2 ⟨rfl,hb2⟩;have HB2:=hD hb2;clear hb2))
  go_ret;exact ⟨by rw[HANS.o];rfl,HB2.o⟩
 go_upto_region 3 with (first
  |(go_at_call 103;refine (HD0.o _).mono ?_;rintro e w1 ⟨rfl,hw1⟩;obtain rfl:w=w1:=hw1.symm;clear hw1)
  |(go_at_call 104;refine (HK.o _).mono ?_;rintro e w2 ⟨rfl,hb2⟩;have HB2:=hD hb2;clear hb2))
 go_wp2_with fail;go_loopw [3] (fun i wr=>∃k:Nat,k<=s.size/\i= .int .i64 (k:Int)/\Hd (R=allFrom f s.size k)/\Hd (Bl w wr)) (fun i _=>s.size-(intOf i).toNat)
 case atStart=>exact ⟨0,zl,rfl,HR.o,HB2.o⟩
 case round=>
  obtain ⟨k,hk,rfl,HI,HB⟩:=hrel;by_cases hlt:k<s.size
  ·have hki:(k:Int)<((s.size:Nat):Int):=om;obtain ⟨a,ha⟩:=nm (L (s[k].toNat:Int));obtain ⟨d,hd⟩:=nm (D (s[k].toNat:Int));have HI2:Hd (R=((a||d)&&allFrom f s.size (k+1))):=by
    show _=_;rw[HI.o,allFrom_step hlt,ha,hd];conv=>lhs;arg 1;rw[HF.o]
    simp only[hlt,dite_true]
   have HLk:Hd (∀ w,Calls Tryz.prog 105 #[.int .u8 (s[k].toNat:Int)] w fun e w'=>e= .returned (.bool a)/\w'=w):=fun w=>by rw[ha];exact HL.o _ w
   have HDk:Hd (∀ w,Calls Tryz.prog 103 #[.int .u8 (s[k].toNat:Int)] w fun e w'=>e= .returned (.bool d)/\w'=w):=fun w=>by rw[hd];exact HD.o _ w
   clear ha hd;cases a
   ·cases d
    ·go_wp2_with (first
      |(go_at_call 105;refine (HLk.o _).mono ?_;rintro e w3 ⟨rfl,hw3⟩;obtain rfl:wr=w3:=hw3.symm;clear hw3)
      |(go_at_call 103;refine (HDk.o _).mono ?_;rintro e w4 ⟨rfl,hw4⟩;obtain rfl:wr=w4:=hw4.symm;clear hw4))
     go_ret;exact ⟨by rw[HANS.o,HI2.o];rfl,HB.o⟩
    ·go_wp2_with (first
      |(go_at_call 105;refine (HLk.o _).mono ?_;rintro e w3 ⟨rfl,hw3⟩;obtain rfl:wr=w3:=hw3.symm;clear hw3)
      |(go_at_call 103;refine (HDk.o _).mono ?_;rintro e w4 ⟨rfl,hw4⟩;obtain rfl:wr=w4:=hw4.symm;clear hw4))
     exact gW4
   ·go_wp2_with (go_at_call 105;refine (HLk.o _).mono ?_;rintro e w3 ⟨rfl,hw3⟩;obtain rfl:wr=w3:=hw3.symm;clear hw3);exact gW4
  obtain rfl:k=s.size:=om;have hki:¬((s.size:Nat):Int)<((s.size:Nat):Int):=om;go_wp2_with fail;go_ret;exact ⟨by rw[HANS.o,HI.o,allFrom_end];rfl,HB.o⟩
namespace OutE
open Go.RowKit
variable {f:Nat->Bool} {k n N i id:Nat} {ops:Array Oper} {o:Oper} {R:World->World->Prop} {S:World->Prop} {w:World} {v:Value} {P:Program} {Q:Exit->Act->World->Prop} {d:Tmp}
def oldOk (ops:Array Oper) (o:Oper) (t:Tmp):Bool:=ops.toList.all fun o'=> !(o'.dst==some t)||(o.dst.isSome&&(depsOf o').any fun j=>dstOf ops j==o.dst)
def chkE (ops:Array Oper) (N i:Nat) (js:List Nat) (o:Oper):Bool:=
 (depsOf o).all (fun j=>decide (j<i))&&js.all (fun j=>(depsOf o).contains j)&&
 (match o.guard with|none=>true|some (g,_)=>(depsOf o).contains g&&(dstOf ops g).isSome)&&
 (match o.dst with|none=>true|some d=>decide (d<N)&&(List.range ops.size).all (fun j=>decide (j=i)|| !(dstOf ops j==some d)))
def chkAllE (ops:Array Oper) (N:Nat) (js:List (List Nat)):Bool:=
 decide (js.length=ops.size)&&(List.range ops.size).all (fun i=>match ops[i]? with|none=>true|some o=>chkE ops N i (js.getD i []) o)
theorem chkE_at {js:List (List Nat)} (h:chkAllE ops N js=true) (ho:ops[i]?=some o):chkE ops N i (js.getD i []) o=true:=by
 unfold chkAllE at h;exact gN3
structure ChkE (ops:Array Oper) (N i:Nat) (js:List Nat) (o:Oper):Prop where
 back:∀j∈depsOf o,j<i
 js:∀j∈js,j∈depsOf o
 guard:∀g b,o.guard=some (g,b)->g∈depsOf o/\∃d,dstOf ops g=some d
 dst:∀d,o.dst=some d->d<N/\∀j,j≠i->dstOf ops j≠some d
theorem ChkE.of {js:List Nat} (h:chkE ops N i js o=true):ChkE ops N i js o:=by
 unfold chkE at h;simp only[Bool.and_eq_true,List.all_eq_true,List.contains_eq_mem,decide_eq_true_eq] at h;obtain ⟨⟨⟨h1,h2⟩,h4⟩,h6⟩:=h;refine ⟨h1,h2,fun g b hg=>?_,fun d hd=>?_⟩
 ·rw[hg] at h4;simp only[Bool.and_eq_true,decide_eq_true_eq,Option.isSome_iff_exists] at h4;exact h4
 exact gM1
inductive Out
 |eq (v:Value)
 |rel (p:World->Value->Prop)
 |rell (js:List Nat) (p:List Value->World->Value->Prop)
 |fn (js:List Nat) (F:List Value->Value)
def Out.js:Out->List Nat
 | .fn js _=>js
 | .rell js _=>js
 |_=>[]
def Out.ok (l:Nat->Value) (w:World) (v:Value):Out->Prop
 | .eq u=>v=u
 | .rel p=>p w v
 | .rell js p=>p (js.map l) w v
 | .fn js F=>v=F (js.map l)
def Out.val (x:Value):Out->Value
 | .eq v=>v
 |_=>x
def Out.keeps (R:World->World->Prop):Out->Prop
 | .rel p=>∀w w' v,p w v->R w w'->p w' v
 | .rell _ p=>∀xs w w' v,p xs w v->R w w'->p xs w' v
 |_=>True
structure AtO (S:World->Prop) (Ks:List Out) (ops:Array Oper) (a0:Act) (o:Oper) (a:Act) (w:World) (l:Nat->Value):Prop where
 inv:S w
 old:∀t,oldOk ops o t=true->a.eval (.tmp t)=a0.eval (.tmp t)
 dep:∀j,(depsOf o).contains j=true->∀d,dstOf ops j=some d->a.eval (.tmp d)=l j
 ok:∀j,(depsOf o).contains j=true->∀k,Ks[j]?=some k->k.ok l w (l j)
 yield:∀g b,o.guard=some (g,b)->yielded ops a.tmps g=(match l g with| .bool b=>some b|_=>none)
def OutStep (R:World->World->Prop) (P:Program) (ops:Array Oper) (Q:Exit->Act->World->Prop) (o:Oper) (k:Out) (l:Nat->Value) (a:Act) (w:World):Prop:=
 if Region.wanted o (yielded ops a.tmps) then ∀K:Act->World->Prop,(∀ v w',R w w'->k.ok l w' v->K (a.put o.dst v) w')->o.wp P a w K Q else k.ok l w undef
def layO (a0:Act) (l:Nat->Value):List Out->List Oper->Nat->Act
 |k::ks,o::os,i=>layO (a0.put o.dst (k.val (l i))) l ks os (i+1)
 |_,_,_=>a0
structure FrO (ops:Array Oper) (a0:Act) (L:Array Bool) (l:Nat->Value) (a:Act):Prop where
 df:a.defers=a0.defers
 sz:a.tmps.size=a0.tmps.size
 old:∀s,(∀ j,didO L j=true->dstOf ops j≠some s)->a.tmps[s]?=a0.tmps[s]?
 new:∀j d,didO L j=true->dstOf ops j=some d->a.tmps[d]?=some (l j)
structure InO (S:World->Prop) (Ks:List Out) (ops:Array Oper) (a0:Act) (L:Array Bool) (l:Nat->Value) (a:Act) (w:World):Prop where
 ls:L.size=ops.size
 fr:FrO ops a0 L l a
 inv:S w
 ok:∀i,didO L i=true->∀k,Ks[i]?=some k->k.ok l w (l i)
 dp:∀i o,didO L i=true->ops[i]?=some o->∀j∈depsOf o,didO L j=true
theorem layO_at {a0:Act} {l:Nat->Value}:∀(ks:List Out) (os:List Oper) (i:Nat) (a:Act) (s:Tmp),ks.length=os.length->(∀ (x:Nat) (o:Oper),os[x]?=some o->o.dst≠some s)->(layO a l ks os i).tmps[s]?=a.tmps[s]?/\(layO a l ks os i).tmps.size=a.tmps.size/\(layO a l ks os i).defers=a.defers
 |[],os,_,_,_,_,_=>by unfold layO;exact ⟨rfl,rfl,rfl⟩
 |k::ks,[],_,_,_,_,_=>by unfold layO;exact ⟨rfl,rfl,rfl⟩
 |k::ks,o::os,i,a,s,hl,h=>by
  unfold layO;obtain ⟨h1,h2,h3⟩:=layO_at (a0:=a0) (l:=l) ks os (i+1) (a.put o.dst (k.val (l i))) s (by simpa using hl) (fun x o ho=>h (x+1) o (by simpa using ho));have h0:=h 0 o sm;cases hd:o.dst with
  |none=>rw[hd] at h1 h2 h3;exact ⟨h1,h2,h3⟩
  |some d=>
   rw[hd] at h1 h2 h3 h0;refine ⟨h1.trans ?_,h2.trans (by simp[Act.put]),h3⟩;simp only[Act.put];rw[Array.getElem?_setIfInBounds_ne (fun e=>h0 (by rw[e]))]
theorem layO_sz {l:Nat->Value}:∀(ks:List Out) (os:List Oper) (i:Nat) (a:Act),(layO a l ks os i).tmps.size=a.tmps.size/\(layO a l ks os i).defers=a.defers
 |[],os,_,_=>by unfold layO;exact ⟨rfl,rfl⟩
 |k::ks,[],_,_=>by unfold layO;exact ⟨rfl,rfl⟩
 |k::ks,o::os,i,a=>by
  unfold layO;obtain ⟨h2,h3⟩:=layO_sz (l:=l) ks os (i+1) (a.put o.dst (k.val (l i)));refine ⟨h2.trans ?_,h3.trans ?_⟩<;>cases o.dst<;>simp[Act.put]
theorem layO_new {l:Nat->Value}:∀(ks:List Out) (os:List Oper) (i:Nat) (a:Act) (x:Nat) (o:Oper) (k:Out) (d:Tmp),ks.length=os.length->ks[x]?=some k->os[x]?=some o->o.dst=some d->d<a.tmps.size->(∀ (y:Nat) (o':Oper),y≠x->os[y]?=some o'->o'.dst≠some d)->
 (layO a l ks os i).tmps[d]?=some (k.val (l (i+x)))
 |[],_,_,_,x,_,_,_,_,hk,_,_,_,_=>by simp at hk
 |_::_,[],_,_,x,_,_,_,_,_,ho,_,_,_=>by simp at ho
 |k0::ks,o0::os,i,a,0,o,k,d,hl,hk,ho,hd,hlt,hne=>by
  simp only[List.getElem?_cons_zero,Option.some.injEq] at hk ho;subst hk ho;unfold layO;rw[(layO_at (a0:=a) ks os (i+1) _ d (by simpa using hl) (fun x o ho=>hne (x+1) o om (by simpa using ho))).1,hd];simp only[Act.put,Nat.add_zero];rw[Array.getElem?_setIfInBounds_self_of_lt hlt]
 |k0::ks,o0::os,i,a,x+1,o,k,d,hl,hk,ho,hd,hlt,hne=>by
  unfold layO;have:=layO_new (l:=l) ks os (i+1) (a.put o0.dst (k0.val (l i))) x o k d (by simpa using hl) (by simpa using hk) (by simpa using ho) hd (by cases o0.dst<;>simp[Act.put,hlt]) (fun y o' hy ho'=>hne (y+1) o' om (by simpa using ho'));rw[this,show i+1+x=i+(x+1) by omega]
theorem InO.step {Ks:List Out} {a0 a:Act} {L:Array Bool} {l:Nat->Value} {w':World} {k:Out} (h:InO S Ks ops a0 L l a w) (hst:∀w w',S w->R w w'->S w') (hkp:∀k∈Ks,k.keeps R)
 (hc:∀i o,ops[i]?=some o->∀k,Ks[i]?=some k->ChkE ops a0.tmps.size i k.js o) (hlen:Ks.length=ops.size) (ho:ops[i]?=some o) (hk:Ks[i]?=some k) (hn:didO L i=false) (hd:∀j∈depsOf o,didO L j=true) (hb:R w w') (hv:k.ok l w' v):
 InO S Ks ops a0 (L.setIfInBounds i true) (updO l i v) (a.put o.dst v) w':=by
 exact gL
theorem region_out (hR:∀w,R w w) {a0:Act} (hm:P.follows .mixedOrders=true) (Ks:List Out) (S:World->Prop)
 (hst:∀w w',S w->R w w'->S w') (hkp:∀k∈Ks,k.keeps R) (hchk:chkAllE ops a0.tmps.size (Ks.map Out.js)=true) (h0:S w.drew)
 (hstep:∀(i:Nat) (o:Oper) (k:Out),ops[i]?=some o->Ks[i]?=some k->∀(a:Act) (w:World) (l:Nat->Value),AtO S Ks ops a0 o a w l->OutStep R P ops Q o k l a w)
 (hend:∀(l:Nat->Value) (w:World),S w->(∀ (i:Nat) (k:Out),Ks[i]?=some k->k.ok l w (l i))->Q .normal (layO a0 l Ks ops.toList 0) w):(Code.region id ops true).wp P Q a0 w:=by
 have hlen:Ks.length=ops.size:=by
  unfold chkAllE at hchk;exact gE3
 have hc:∀i o,ops[i]?=some o->∀k,Ks[i]?=some k->ChkE ops a0.tmps.size i k.js o:=fun i o ho k hk=>by
  have:=chkE_at hchk ho;rw[List.getD_eq_getElem?_getD,List.getElem?_map,hk] at this;exact ChkE.of this
 have hget:∀i o,ops[i]?=some o->∃k,Ks[i]?=some k:=fun i o ho=>⟨_,gE_ (by rw[hlen];exact (gA_ ho).1)⟩
 refine wp_region_invO hm (fun L a w=>∃l,InO S Ks ops a0 L l a w) ?_ ?_ ?_ ?_
 ·exact gM2
 ·rintro L a w i hL hi hn hd ⟨l,hI⟩;have ho:=Array.getElem?_eq_getElem hi;obtain ⟨k,hk⟩:=hget i _ ho;have ci:=hc i _ ho k hk;have hd':∀j∈depsOf ops[i],didO L j=true:=fun j hj=>by
   unfold depsOf at hj;rw[List.mem_map] at hj;obtain ⟨e,he,rfl⟩:=hj;rw[List.mem_filter] at he;exact hd _ ho e (by simpa using he.1) he.2
  have hat:AtO S Ks ops a0 ops[i] a w l:=by
   refine ⟨hI.inv,fun t ht=>eval_of (hI.fr.old t fun j _ e=>?_),fun j hj d hjd=>eval_some (hI.fr.new j d (hd' j (by simpa using hj)) hjd),fun j hj kj hkj=>hI.ok j (hd' j (by simpa using hj)) kj hkj,fun g b hg=>?_⟩
   ·unfold oldOk at ht;rw[List.all_eq_true] at ht;have e0:=e;unfold dstOf at e;cases q:ops[j]? with
    |none=>rw[q] at e;cases e
    |some o'=>
     rw[q] at e;have e:o'.dst=some t:=e;have:=ht o' (by rw[Array.mem_toList_iff];exact Array.mem_of_getElem? q);rw[e,beq_self_eq_true,Bool.not_true,Bool.false_or,Bool.and_eq_true,Option.isSome_iff_exists,List.any_eq_true] at this;obtain ⟨⟨d,hd0⟩,x,hx,hxd⟩:=this;rw[beq_iff_eq,hd0] at hxd;have hxi:x=i:=Decidable.byContradiction fun hne=>(ci.dst d hd0).2 x hne hxd
     have:=hI.dp j o' (by assumption) q x hx;rw[hxi,hn] at this;cases this
   exact gO1
  exact gV1
 ·exact gF1
 exact gU1
def StepsO (R:World->World->Prop) (P:Program) (ops:Array Oper) (Q:Exit->Act->World->Prop) (S:World->Prop) (a0:Act):List Oper->List Out->(List Out->Prop)->Prop
 |[],Rs,fin=>fin Rs.reverse
 |o::rest,Rs,fin=>∃k:Out,k.keeps R/\k.js.all (fun j=>(depsOf o).contains j)=true/\(∀ (a:Act) (w:World) (l:Nat->Value),AtO S Rs.reverse ops a0 o a w l->OutStep R P ops Q o k l a w)/\StepsO R P ops Q S a0 rest (k::Rs) fin
theorem stepsO_full {a0:Act} {fin:List Out->Prop}:∀(todo:List Oper) (Rs:List Out),(∀ k∈Rs,k.keeps R)->StepsO R P ops Q S a0 todo Rs fin->
 ∃Kf:List Out,Kf.take Rs.length=Rs.reverse/\Kf.length=Rs.length+todo.length/\fin Kf/\(∀ k∈Kf,k.keeps R)/\∀(x:Nat) (o:Oper) (k:Out),todo[x]?=some o->Kf[Rs.length+x]?=some k->k.js.all (fun j=>(depsOf o).contains j)=true/\∀(a:Act) (w:World) (l:Nat->Value),AtO S (Kf.take (Rs.length+x)) ops a0 o a w l->OutStep R P ops Q o k l a w
 |[],Rs,hk,h=>⟨Rs.reverse,by rw[List.take_of_length_le sm],by simp,h,(fun k hk2=>hk k (List.mem_reverse.1 hk2)),fun x o k ho=>by simp at ho⟩
 |o::rest,Rs,hk,h=>by
  obtain ⟨k,h1,h2,h3,h4⟩:=h;obtain ⟨Kf,q1,q2,q3,q4,q5⟩:=stepsO_full rest (k::Rs) (fun x hx=>by
   rw[List.mem_cons] at hx;rcases hx with rfl|hx
   ·exact h1
   ·exact hk x hx) h4
  rw[List.length_cons] at q1 q2 q5;rw[List.reverse_cons] at q1;have hrl:Rs.reverse.length=Rs.length:=by simp
  have q6:Kf.take Rs.length=Rs.reverse:=by
   have:=congrArg (List.take Rs.length) q1;rw[List.take_take,Nat.min_eq_left om,List.take_left' hrl] at this;exact this
  have q7:Kf[Rs.length]?=some k:=by
   have:(Kf.take (Rs.length+1))[Rs.length]?=(Rs.reverse++[k])[Rs.length]?:=by rw[q1]
   rw[List.getElem?_take_of_lt om,List.getElem?_append_right om] at this;simpa using this
  refine ⟨Kf,q6,by rw[q2,List.length_cons];omega,q3,q4,fun x o' k' ho hk'=>?_⟩;cases x with
  |zero=>
   have ho2:o=o':=by simpa using ho
   subst ho2;rw[Nat.add_zero,q7] at hk';cases hk';rw[Nat.add_zero,q6];exact ⟨h2,h3⟩
  |succ x=>
   have:=q5 x o' k' (by simpa using ho) (by rw[show Rs.length+1+x=Rs.length+(x+1) by omega];exact hk');rw[show Rs.length+1+x=Rs.length+(x+1) by omega] at this;exact this
theorem chkE_js {js:List Nat} (h:chkE ops N i [] o=true) (hj:js.all (fun j=>(depsOf o).contains j)=true):chkE ops N i js o=true:=by
 unfold chkE at h⊢;simp only[Bool.and_eq_true] at h⊢;obtain ⟨⟨⟨h1,-⟩,h4⟩,h6⟩:=h;exact ⟨⟨⟨h1,hj⟩,h4⟩,h6⟩
theorem region_outE (R:World->World->Prop) (hR:∀w,R w w) {os:List Oper} {a0:Act} (hm:P.follows .mixedOrders=true) (S:World->Prop)
 (hst:∀w w',S w->R w w'->S w') (hchk:chkAllE os.toArray a0.tmps.size (os.map fun _=>[])=true) (h0:S w.drew)
 (hsteps:StepsO R P os.toArray Q S a0 os [] fun Ks=>∀(l:Nat->Value) (w:World),S w->(∀ (i:Nat) (k:Out),Ks[i]?=some k->k.ok l w (l i))->Q .normal (layO a0 l Ks os 0) w):(Code.region id os.toArray true).wp P Q a0 w:=by
 obtain ⟨Kf,-,h2,h3,h4,h5⟩:=stepsO_full os [] (fun k hk=>by cases hk) hsteps;rw[List.length_nil,Nat.zero_add] at h2;refine region_out hR hm Kf S hst (fun k hk=>h4 k hk) ?_ h0 (fun i o k ho hk a w l hat=>?_) (by simpa using h3)
 ·unfold chkAllE at hchk⊢;simp only[Bool.and_eq_true,decide_eq_true_eq,List.length_map,List.size_toArray,List.all_eq_true,List.mem_range] at hchk⊢;refine ⟨h2,fun i hi=>?_⟩;have hc:=hchk.2 i hi;have ho:os[i]?=some os[i]:=gE_ hi;have hk:Kf[i]?=some (Kf[i]'(by rw[h2];exact hi)):=gE_ _;have hj:=(h5 i _ _ ho (by rw[List.length_nil,Nat.zero_add];exact hk)).1;simp only[List.getElem?_toArray,ho,List.getD_eq_getElem?_getD,List.getElem?_map,hk,Option.map_some,Option.getD_some] at hc⊢;exact chkE_js hc hj
 exact gA2
section
variable {P:Program} {ops:Array Oper} {Q:Exit->Act->World->Prop} {o:Oper} {k:Out} {l:Nat->Value} {a:Act} {w w':World} {S:World->Prop} {Ks:List Out} {a0:Act} {R:World->World->Prop}
theorem rev_at {Rs:List Out} {j m:Nat} {k:Out} (hm:Rs.length=m+1+j) (hk:Rs[m]?=some k):Rs.reverse[j]?=some k:=by
 rw[List.getElem?_reverse om, <-hk];congr 1;omega
theorem AtO.get (h:AtO S Ks.reverse ops a0 o a w l) (j m:Nat) (hj:(depsOf o).contains j=true) (hd:dstOf ops j=some d) (hm:Ks.length=m+1+j) (hk:Ks[m]?=some (.eq v)):a.eval (.tmp d)=v:=
 (h.dep j hj d hd).trans (h.ok j hj _ (rev_at hm hk))
theorem AtO.got (h:AtO S Ks.reverse ops a0 o a w l) (j m:Nat) {p:World->Value->Prop} (hj:(depsOf o).contains j=true) (hd:dstOf ops j=some d) (hm:Ks.length=m+1+j) (hk:Ks[m]?=some (.rel p)):∃v,a.eval (.tmp d)=v/\l j=v/\p w v:=
 ⟨_,h.dep j hj d hd,rfl,h.ok j hj _ (rev_at hm hk)⟩
theorem out_val (hR:∀w,R w w) (hw:Region.wanted o (yielded ops a.tmps)=true) (hex:(execOp a.eval o).run P w= .ok (.value v) w):OutStep R P ops Q o (.eq v) l a w:=by
 unfold OutStep;rw[hw];intro K hK;unfold Oper.wp;rw[hex,Oper.upon_value];exact hK v w (hR w) rfl
theorem out_new (hw:Region.wanted o (yielded ops a.tmps)=true) (hex:(execOp a.eval o).run P w= .ok (.value v) w') (hb:R w w') (hk:k.ok l w' v):OutStep R P ops Q o k l a w:=by
 unfold OutStep;rw[hw];intro K hK;unfold Oper.wp;rw[hex,Oper.upon_value];exact hK v w' hb hk
theorem stq {rest:List Oper} {Rs:List Out} {fin:List Out->Prop} (v:Value) (h:∀(a:Act) (w:World) (l:Nat->Value),AtO S Rs.reverse ops a0 o a w l->OutStep R P ops Q o (.eq v) l a w) (hr:StepsO R P ops Q S a0 rest (.eq v::Rs) fin):StepsO R P ops Q S a0 (o::rest) Rs fin:=⟨.eq v,trivial,rfl,h,hr⟩
theorem sq {rest:List Oper} {Rs:List Out} {fin:List Out->Prop} {v:Value} (h:∀(a:Act) (w:World) (l:Nat->Value),AtO S Rs.reverse ops a0 o a w l->OutStep R P ops Q o (.eq v) l a w) (hr:StepsO R P ops Q S a0 rest (.eq v::Rs) fin):StepsO R P ops Q S a0 (o::rest) Rs fin:=stq v h hr
theorem AtO.gt {v:Value} {d:Tmp} (h:AtO S Ks.reverse ops a0 o a w l) (j m:Nat) (hj:(depsOf o).contains j=true:=by kernel_rfl) (hd:dstOf ops j=some d:=by exact rfl) (hm:Ks.length=m+1+j:=by exact rfl) (hk:Ks[m]?=some (.eq v):=by exact rfl):a.eval (.tmp d)=v:=h.get j m hj hd hm hk
theorem AtO.oL {v:Value} {tm:List Value} {df} (h:AtO S Ks ops ⟨tm.toArray,df⟩ o a w l) (t:Tmp) (hv:nthO tm t=v:=by simp only[nthO];rfl) (hw:oldOk ops o t=true:=by kernel_rfl):a.eval (.tmp t)=v:=(h.old t hw).trans (evalO hv)
end
end OutE
end Go.Proofs.YtikilcbpogfgkaaGreat
