/- Lemmas. -/
import Derived.Test.YtikilcbpogfgkaaGreatJI02
set_option maxHeartbeats 3200000
set_option maxRecDepth 100000
namespace Go.Proofs.YtikilcbpogfgkaaGreat
open Go.RowKit
variable {L:Array Bool} {p q:Nat->Bool} {P:Program} {ops:Array Oper} {Q:Exit->Act->World->Prop} {id N g:Nat} {a:Act} {w:World} {o:Oper} {v:Value} {dst:Option Tmp} {d t:Tmp} {tm:List Value} {df:List Deferred} {R:World->World->Prop} {S:World->Prop} {os rest:List Oper} {b:Bool} {ev:Operand->Value} {f:FuncId} {args:Array Value}
def didO (L:Array Bool) (i:Nat):Bool:=L.getD i false
theorem didO_set {i j:Nat} (hi:i<L.size):didO (L.setIfInBounds i true) j=(decide (j=i)||didO L j):=by
 unfold didO;exact gA4
theorem didO_none (n i:Nat):didO (Array.replicate n false) i=false:=by
 unfold didO;rw[Array.getD_eq_getD_getElem?,Array.getElem?_replicate];split<;>rfl
theorem filterO_le (h:∀j,q j=true->p j=true):∀l:List Nat,(l.filter q).length<=(l.filter p).length
 |[]=>Nat.le_refl _
 |x::l=>by
  have ih:=filterO_le h l;rw[List.filter_cons,List.filter_cons];cases hq:q x
  ·simp only[Bool.false_eq_true,if_false];split
   ·simp only[List.length_cons];omega
   ·exact ih
  ·rw[h x hq];simp only[if_true,List.length_cons];omega
theorem filterO_lt (h:∀j,q j=true->p j=true) {i:Nat} (hp:p i=true) (hq:q i=false):∀l:List Nat,i∈l->(l.filter q).length<(l.filter p).length
 |[],hi=>by cases hi
 |x::l,hi=>by
  rw[List.filter_cons,List.filter_cons];by_cases e:x=i
  ·subst e;have:=filterO_le h l;rw[hp,hq];simp only[Bool.false_eq_true,if_false,if_true,List.length_cons];omega
  ·have ih:=filterO_lt h hp hq l (by
    rcases List.mem_cons.1 hi with h1|h1
    ·exact absurd h1.symm e
    ·exact h1)
   cases hq':q x
   ·simp only[Bool.false_eq_true,if_false];split
    ·simp only[List.length_cons];omega
    ·exact ih
   ·rw[h x hq'];simp only[if_true,List.length_cons];omega
theorem wpAny_invO {md:Region.Mode} (I:Array Bool->Act->World->Prop)
 (hstep:∀L a w i,L.size=ops.size->i<ops.size->didO L i=false->(∀ o,ops[i]?=some o->∀e∈o.after,Region.binds md e=true->didO L e.on=true)->I L a w->wpOp P ops Q i (I (L.setIfInBounds i true)) a w)
 (hend:∀L a w,L.size=ops.size->Region.ready md ops L=[]->I L a w->Q .normal a w):
 ∀(n:Nat) (L:Array Bool) (a:Act) (w:World),L.size=ops.size->(∀ i,i<ops.size->didO L i=false->0<n)->((List.range ops.size).filter fun i=> !didO L i).length<=n->I L a w->wpAny P md ops Q n L a w:=by
 intro n;induction n with
 |zero=>
  intro L a w hL hn hlen hI;have hr:Region.ready md ops L=[]:=by
   rw[List.eq_nil_iff_forall_not_mem];intro i hi;obtain ⟨h1,o,ho,-⟩:=mem_ready.1 hi;have hlt:i<ops.size:=(gA_ ho).1;have:didO L i=false:=by unfold didO;simpa [hL,hlt] using h1
   exact absurd (hn i hlt this) om
  exact ⟨hr,hend L a w hL hr hI⟩
 |succ n ih=>
  intro L a w hL hn hlen hI;refine ⟨fun hr=>hend L a w hL hr hI,fun i hi=>?_⟩;obtain ⟨h1,o,ho,hall⟩:=mem_ready.1 hi;have hlt:i<ops.size:=(gA_ ho).1;have hd:didO L i=false:=by unfold didO;simpa [hL,hlt] using h1
  refine wpOp_mono (fun a' w' hI'=>?_) (hstep L a w i hL hlt hd (fun o' ho' e he hb=>by rw[ho] at ho';cases ho';exact hall e he hb) hI);have hset:((List.range ops.size).filter fun j=> !didO (L.setIfInBounds i true) j).length<((List.range ops.size).filter fun j=> !didO L j).length:=by
   refine filterO_lt (fun j hj=>?_) (i:=i) (by simp[hd]) (by rw[didO_set om];simp) _ (List.mem_range.2 hlt);rw[didO_set om] at hj;cases h:didO L j
   ·rfl
   ·rw[h] at hj;simp at hj
  refine ih _ a' w' (by simpa using hL) (fun j hj hdj=>?_) om hI';rcases Nat.eq_zero_or_pos n with h0|h0
  ·exfalso;have hm:j∈(List.range ops.size).filter fun j=> !didO (L.setIfInBounds i true) j:=by
    rw[List.mem_filter,List.mem_range];exact ⟨hj,by simp[hdj]⟩
   have:=List.length_pos_of_mem hm;omega
  exact h0
theorem wp_region_invO (hm:P.follows .mixedOrders=true) (I:Array Bool->Act->World->Prop)
 (h0:I (Array.replicate ops.size false) a w.drew)
 (hstep:∀L a w i,L.size=ops.size->i<ops.size->didO L i=false->(∀ o,ops[i]?=some o->∀e∈o.after,Region.binds .any e=true->didO L e.on=true)->I L a w->wpOp P ops Q i (I (L.setIfInBounds i true)) a w)
 (hback:∀(i:Nat) (o:Oper),ops[i]?=some o->∀e∈o.after,Region.binds .any e=true->e.on<i)
 (hend:∀L a w,(∀ i,i<ops.size->didO L i=true)->I L a w->Q .normal a w):(Code.region id ops true).wp P Q a w:=by
 refine wp_region_any hm (wpAny_invO I hstep (fun L a w hL hr hI=>hend L a w ?_ hI) ops.size _ a _ sm (fun i hi _=>by omega) ?_ h0)
 ·intro i;induction i using Nat.strongRecOn with
  |_ i ih=>
   intro hi;cases hd:didO L i
   ·exfalso;have:i∈Region.ready .any ops L:=by
     rw[mem_ready];refine ⟨?_,ops[i],Array.getElem?_eq_getElem hi,fun e he hb=>?_⟩
     ·unfold didO at hd;simpa [hL,hi] using hd
     have hlt:=hback i _ (Array.getElem?_eq_getElem hi) e he hb;exact ih e.on hlt om
    rw[hr] at this;cases this
   ·rfl
 exact gE2
def depsOf (o:Oper):List Nat:=(o.after.toList.filter fun e=>Region.binds .any e).map (·.on)
def dstOf (ops:Array Oper) (j:Nat):Option Tmp:=(ops[j]?).bind (·.dst)
def writes (ops:Array Oper) (s:Tmp):Bool:=ops.toList.any fun o=>o.dst==some s
def tmpsOf (o:Oper):List Tmp:=o.op.operands.toList.filterMap fun| .tmp t=>some t|_=>none
def chkO (ops:Array Oper) (N i:Nat) (js:List Nat) (o:Oper):Bool:=
 (depsOf o).all (fun j=>decide (j<i))&&js.all (fun j=>(depsOf o).contains j)&&
 (tmpsOf o).all (fun t=> !writes ops t||(depsOf o).any (fun j=>dstOf ops j==some t))&&
 (match o.guard with|none=>true|some (g,_)=>(depsOf o).contains g&&(dstOf ops g).isSome)&&
 (match o.op with| .select _ _=>false|_=>true)&&
 (match o.dst with|none=>true|some d=>decide (d<N)&&(List.range ops.size).all (fun j=>decide (j=i)|| !(dstOf ops j==some d)))
def chkAll (ops:Array Oper) (N:Nat) (js:List (List Nat)):Bool:=
 decide (js.length=ops.size)&&(List.range ops.size).all (fun i=>match ops[i]? with|none=>true|some o=>chkO ops N i (js.getD i []) o)
theorem chk_at {js:List (List Nat)} (h:chkAll ops N js=true) {i:Nat} (ho:ops[i]?=some o):chkO ops N i (js.getD i []) o=true:=by
 unfold chkAll at h;exact gN3
structure ChkO (ops:Array Oper) (N i:Nat) (js:List Nat) (o:Oper):Prop where
 back:∀j∈depsOf o,j<i
 js:∀j∈js,j∈depsOf o
 tmp:∀t∈tmpsOf o,writes ops t=false\/∃j∈depsOf o,dstOf ops j=some t
 guard:∀g b,o.guard=some (g,b)->g∈depsOf o/\∃d,dstOf ops g=some d
 sel:∀cs b,o.op≠ .select cs b
 dst:∀d,o.dst=some d->d<N/\∀j,j≠i->dstOf ops j≠some d
theorem ChkO.of {i:Nat} {js:List Nat} (h:chkO ops N i js o=true):ChkO ops N i js o:=by
 unfold chkO at h;simp only[Bool.and_eq_true,List.all_eq_true,List.contains_eq_mem,decide_eq_true_eq,Bool.or_eq_true,Bool.not_eq_true',List.any_eq_true,beq_iff_eq] at h;obtain ⟨⟨⟨⟨⟨h1,h2⟩,h3⟩,h4⟩,h5⟩,h6⟩:=h;refine ⟨h1,h2,h3,fun g b hg=>?_,fun cs b hs=>?_,fun d hd=>?_⟩
 ·rw[hg] at h4;simp only[Bool.and_eq_true,decide_eq_true_eq,Option.isSome_iff_exists] at h4;exact h4
 ·rw[hs] at h5;cases h5
 exact gM1
def updO (l:Nat->Value) (i:Nat) (v:Value):Nat->Value:=fun j=>if j=i then v else l j
theorem updO_self {l:Nat->Value} {i:Nat} :updO l i v i=v:=if_pos rfl
theorem updO_ne {l:Nat->Value} {i j:Nat} (h:j≠i):updO l i v j=l j:=if_neg h
theorem put_at {s:Tmp} (h:dst≠some s):(a.put dst v).tmps[s]?=a.tmps[s]?:=by
 cases dst with
 |none=>rfl
 |some d=>simp only[Act.put];rw[Array.getElem?_setIfInBounds_ne (fun e=>h (by rw[e]))]
theorem put_self (h:d<a.tmps.size):(a.put (some d) v).tmps[d]?=some v:=by
 simp only[Act.put];rw[Array.getElem?_setIfInBounds_self_of_lt h]
theorem put_size:(a.put dst v).tmps.size=a.tmps.size:=by cases dst<;>simp[Act.put]
theorem put_defers:(a.put dst v).defers=a.defers:=by cases dst<;>rfl
theorem eval_of {a':Act} (h:a.tmps[t]?=a'.tmps[t]?):a.eval (.tmp t)=a'.eval (.tmp t):=by
 simp only[Act.eval,Array.getD_eq_getD_getElem?,h]
theorem eval_some (h:a.tmps[t]?=some v):a.eval (.tmp t)=v:=by
 simp only[Act.eval,Array.getD_eq_getD_getElem?,h];rfl
def nthO:List Value->Nat->Value
 |[],_=>undef
 |v::_,0=>v
 |_::l,n+1=>nthO l n
theorem nthO_eq:∀(l:List Value) (n:Nat),nthO l n=l.getD n undef
 |[],_=>by simp[nthO]
 |v::_,0=>by simp[nthO]
 |_::l,n+1=>by rw[nthO,nthO_eq l n];simp
theorem evalO (h:nthO tm t=v):(⟨tm.toArray,df⟩:Act).eval (.tmp t)=v:=by
 rw[<- h,nthO_eq];simp[Act.eval,Array.getD_eq_getD_getElem?,List.getD_eq_getElem?_getD]
open Go.RowKit
inductive Out
 |eq (v:Value)
 |rel (p:World->Value->Prop)
 |rell (js:List Nat) (p:List Value->World->Value->Prop)
 |fn (js:List Nat) (F:List Value->Value)
def Out.js:Out->List Nat
 | .fn js _=>js
 | .rell js _=>js
 |_=>[]
def Out.ok (l:Nat->Value) (w:World) (v:Value):Out->Prop
 | .eq u=>v=u
 | .rel p=>p w v
 | .rell js p=>p (js.map l) w v
 | .fn js F=>v=F (js.map l)
def Out.val (x:Value):Out->Value
 | .eq v=>v
 |_=>x
def Out.keeps (R:World->World->Prop):Out->Prop
 | .rel p=>∀w w' v,p w v->R w w'->p w' v
 | .rell _ p=>∀xs w w' v,p xs w v->R w w'->p xs w' v
 |_=>True
structure AtO (S:World->Prop) (Ks:List Out) (ops:Array Oper) (a0:Act) (o:Oper) (a:Act) (w:World) (l:Nat->Value):Prop where
 inv:S w
 old:∀t,writes ops t=false->a.eval (.tmp t)=a0.eval (.tmp t)
 dep:∀j,(depsOf o).contains j=true->∀d,dstOf ops j=some d->a.eval (.tmp d)=l j
 ok:∀j,(depsOf o).contains j=true->∀k,Ks[j]?=some k->k.ok l w (l j)
 yield:∀g b,o.guard=some (g,b)->yielded ops a.tmps g=(match l g with| .bool b=>some b|_=>none)
def OutStep (R:World->World->Prop) (P:Program) (ops:Array Oper) (Q:Exit->Act->World->Prop) (o:Oper) (k:Out) (l:Nat->Value) (a:Act) (w:World):Prop:=
 if Region.wanted o (yielded ops a.tmps) then ∀K:Act->World->Prop,(∀ v w',R w w'->k.ok l w' v->K (a.put o.dst v) w')->o.wp P a w K Q else k.ok l w undef
def layO (a0:Act) (l:Nat->Value):List Out->List Oper->Nat->Act
 |k::ks,o::os,i=>layO (a0.put o.dst (k.val (l i))) l ks os (i+1)
 |_,_,_=>a0
structure FrO (ops:Array Oper) (a0:Act) (L:Array Bool) (l:Nat->Value) (a:Act):Prop where
 df:a.defers=a0.defers
 sz:a.tmps.size=a0.tmps.size
 old:∀s,(∀ j,didO L j=true->dstOf ops j≠some s)->a.tmps[s]?=a0.tmps[s]?
 new:∀j d,didO L j=true->dstOf ops j=some d->a.tmps[d]?=some (l j)
structure InO (S:World->Prop) (Ks:List Out) (ops:Array Oper) (a0:Act) (L:Array Bool) (l:Nat->Value) (a:Act) (w:World):Prop where
 ls:L.size=ops.size
 fr:FrO ops a0 L l a
 inv:S w
 ok:∀i,didO L i=true->∀k,Ks[i]?=some k->k.ok l w (l i)
 dp:∀i o,didO L i=true->ops[i]?=some o->∀j∈depsOf o,didO L j=true
theorem layO_at {a0:Act} {l:Nat->Value}:∀(ks:List Out) (os:List Oper) (i:Nat) (a:Act) (s:Tmp),ks.length=os.length->(∀ (x:Nat) (o:Oper),os[x]?=some o->o.dst≠some s)->(layO a l ks os i).tmps[s]?=a.tmps[s]?/\(layO a l ks os i).tmps.size=a.tmps.size/\(layO a l ks os i).defers=a.defers
 |[],os,_,_,_,_,_=>by unfold layO;exact ⟨rfl,rfl,rfl⟩
 |k::ks,[],_,_,_,_,_=>by unfold layO;exact ⟨rfl,rfl,rfl⟩
 |k::ks,o::os,i,a,s,hl,h=>by
  unfold layO;obtain ⟨h1,h2,h3⟩:=layO_at (a0:=a0) (l:=l) ks os (i+1) (a.put o.dst (k.val (l i))) s (by simpa using hl) (fun x o ho=>h (x+1) o (by simpa using ho));have h0:=h 0 o sm;cases hd:o.dst with
  |none=>rw[hd] at h1 h2 h3;exact ⟨h1,h2,h3⟩
  |some d=>
   rw[hd] at h1 h2 h3 h0;refine ⟨h1.trans ?_,h2.trans (by simp[Act.put]),h3⟩;simp only[Act.put];rw[Array.getElem?_setIfInBounds_ne (fun e=>h0 (by rw[e]))]
theorem layO_sz {l:Nat->Value}:∀(ks:List Out) (os:List Oper) (i:Nat) (a:Act),(layO a l ks os i).tmps.size=a.tmps.size/\(layO a l ks os i).defers=a.defers
 |[],os,_,_=>by unfold layO;exact ⟨rfl,rfl⟩
 |k::ks,[],_,_=>by unfold layO;exact ⟨rfl,rfl⟩
 |k::ks,o::os,i,a=>by
  unfold layO;obtain ⟨h2,h3⟩:=layO_sz (l:=l) ks os (i+1) (a.put o.dst (k.val (l i)));refine ⟨h2.trans ?_,h3.trans ?_⟩<;>cases o.dst<;>simp[Act.put]
theorem layO_new {l:Nat->Value}:∀(ks:List Out) (os:List Oper) (i:Nat) (a:Act) (x:Nat) (o:Oper) (k:Out) (d:Tmp),ks.length=os.length->ks[x]?=some k->os[x]?=some o->o.dst=some d->d<a.tmps.size->(∀ (y:Nat) (o':Oper),y≠x->os[y]?=some o'->o'.dst≠some d)->
 (layO a l ks os i).tmps[d]?=some (k.val (l (i+x)))
 |[],_,_,_,x,_,_,_,_,hk,_,_,_,_=>by simp at hk
 |_::_,[],_,_,x,_,_,_,_,_,ho,_,_,_=>by simp at ho
 |k0::ks,o0::os,i,a,0,o,k,d,hl,hk,ho,hd,hlt,hne=>by
  simp only[List.getElem?_cons_zero,Option.some.injEq] at hk ho;subst hk ho;unfold layO;rw[(layO_at (a0:=a) ks os (i+1) _ d (by simpa using hl) (fun x o ho=>hne (x+1) o om (by simpa using ho))).1,hd];simp only[Act.put,Nat.add_zero];rw[Array.getElem?_setIfInBounds_self_of_lt hlt]
 |k0::ks,o0::os,i,a,x+1,o,k,d,hl,hk,ho,hd,hlt,hne=>by
  unfold layO;have:=layO_new (l:=l) ks os (i+1) (a.put o0.dst (k0.val (l i))) x o k d (by simpa using hl) (by simpa using hk) (by simpa using ho) hd (by cases o0.dst<;>simp[Act.put,hlt]) (fun y o' hy ho'=>hne (y+1) o' om (by simpa using ho'));rw[this,show i+1+x=i+(x+1) by omega]
theorem InO.step {Ks:List Out} {a0:Act} {l:Nat->Value} {w':World} {i:Nat} {k:Out} (h:InO S Ks ops a0 L l a w) (hst:∀w w',S w->R w w'->S w') (hkp:∀k∈Ks,k.keeps R)
 (hc:∀i o,ops[i]?=some o->∀k,Ks[i]?=some k->ChkO ops a0.tmps.size i k.js o) (hlen:Ks.length=ops.size) (ho:ops[i]?=some o) (hk:Ks[i]?=some k) (hn:didO L i=false) (hd:∀j∈depsOf o,didO L j=true) (hb:R w w') (hv:k.ok l w' v):
 InO S Ks ops a0 (L.setIfInBounds i true) (updO l i v) (a.put o.dst v) w':=by
 exact gL
theorem region_out (hR:∀w,R w w) {a0:Act} (hm:P.follows .mixedOrders=true) (Ks:List Out) (S:World->Prop)
 (hst:∀w w',S w->R w w'->S w') (hkp:∀k∈Ks,k.keeps R) (hchk:chkAll ops a0.tmps.size (Ks.map Out.js)=true) (h0:S w.drew)
 (hstep:∀(i:Nat) (o:Oper) (k:Out),ops[i]?=some o->Ks[i]?=some k->∀(a:Act) (w:World) (l:Nat->Value),AtO S Ks ops a0 o a w l->OutStep R P ops Q o k l a w)
 (hend:∀(l:Nat->Value) (w:World),S w->(∀ (i:Nat) (k:Out),Ks[i]?=some k->k.ok l w (l i))->Q .normal (layO a0 l Ks ops.toList 0) w):(Code.region id ops true).wp P Q a0 w:=by
 have hlen:Ks.length=ops.size:=by
  unfold chkAll at hchk;exact gE3
 have hc:∀i o,ops[i]?=some o->∀k,Ks[i]?=some k->ChkO ops a0.tmps.size i k.js o:=fun i o ho k hk=>by
  have:=chk_at hchk ho;rw[List.getD_eq_getElem?_getD,List.getElem?_map,hk] at this;exact ChkO.of this
 have hget:∀i o,ops[i]?=some o->∃k,Ks[i]?=some k:=fun i o ho=>⟨_,gE_ (by rw[hlen];exact (gA_ ho).1)⟩
 refine wp_region_invO hm (fun L a w=>∃l,InO S Ks ops a0 L l a w) ?_ ?_ ?_ ?_
 ·exact gM2
 ·rintro L a w i hL hi hn hd ⟨l,hI⟩;have ho:=Array.getElem?_eq_getElem hi;obtain ⟨k,hk⟩:=hget i _ ho;have ci:=hc i _ ho k hk;have hd':∀j∈depsOf ops[i],didO L j=true:=fun j hj=>by
   unfold depsOf at hj;rw[List.mem_map] at hj;obtain ⟨e,he,rfl⟩:=hj;rw[List.mem_filter] at he;exact hd _ ho e (by simpa using he.1) he.2
  have hat:AtO S Ks ops a0 ops[i] a w l:=by
   exact gY
  exact gV1
 ·exact gF1
 exact gU1
def StepsO (R:World->World->Prop) (P:Program) (ops:Array Oper) (Q:Exit->Act->World->Prop) (S:World->Prop) (a0:Act):List Oper->List Out->(List Out->Prop)->Prop
 |[],Rs,fin=>fin Rs.reverse
 |o::rest,Rs,fin=>∃k:Out,k.keeps R/\k.js.all (fun j=>(depsOf o).contains j)=true/\(∀ (a:Act) (w:World) (l:Nat->Value),AtO S Rs.reverse ops a0 o a w l->OutStep R P ops Q o k l a w)/\StepsO R P ops Q S a0 rest (k::Rs) fin
theorem stepsO_full {a0:Act} {fin:List Out->Prop}:∀(todo:List Oper) (Rs:List Out),(∀ k∈Rs,k.keeps R)->StepsO R P ops Q S a0 todo Rs fin->
 ∃Kf:List Out,Kf.take Rs.length=Rs.reverse/\Kf.length=Rs.length+todo.length/\fin Kf/\(∀ k∈Kf,k.keeps R)/\∀(x:Nat) (o:Oper) (k:Out),todo[x]?=some o->Kf[Rs.length+x]?=some k->k.js.all (fun j=>(depsOf o).contains j)=true/\∀(a:Act) (w:World) (l:Nat->Value),AtO S (Kf.take (Rs.length+x)) ops a0 o a w l->OutStep R P ops Q o k l a w
 |[],Rs,hk,h=>⟨Rs.reverse,by rw[List.take_of_length_le sm],by simp,h,(fun k hk2=>hk k (List.mem_reverse.1 hk2)),fun x o k ho=>by simp at ho⟩
 |o::rest,Rs,hk,h=>by
  obtain ⟨k,h1,h2,h3,h4⟩:=h;obtain ⟨Kf,q1,q2,q3,q4,q5⟩:=stepsO_full rest (k::Rs) (fun x hx=>by
   rw[List.mem_cons] at hx;rcases hx with rfl|hx
   ·exact h1
   ·exact hk x hx) h4
  rw[List.length_cons] at q1 q2 q5;rw[List.reverse_cons] at q1;have hrl:Rs.reverse.length=Rs.length:=by simp
  have q6:Kf.take Rs.length=Rs.reverse:=by
   have:=congrArg (List.take Rs.length) q1;rw[List.take_take,Nat.min_eq_left om,List.take_left' hrl] at this;exact this
  have q7:Kf[Rs.length]?=some k:=by
   have:(Kf.take (Rs.length+1))[Rs.length]?=(Rs.reverse++[k])[Rs.length]?:=by rw[q1]
   rw[List.getElem?_take_of_lt om,List.getElem?_append_right om] at this;simpa using this
  refine ⟨Kf,q6,by rw[q2,List.length_cons];omega,q3,q4,fun x o' k' ho hk'=>?_⟩;cases x with
  |zero=>
   have ho2:o=o':=by simpa using ho
   subst ho2;rw[Nat.add_zero,q7] at hk';cases hk';rw[Nat.add_zero,q6];exact ⟨h2,h3⟩
  |succ x=>
   have:=q5 x o' k' (by simpa using ho) (by rw[show Rs.length+1+x=Rs.length+(x+1) by omega];exact hk');rw[show Rs.length+1+x=Rs.length+(x+1) by omega] at this;exact this
theorem chkO_js {i:Nat} {js:List Nat} (h:chkO ops N i [] o=true) (hj:js.all (fun j=>(depsOf o).contains j)=true):chkO ops N i js o=true:=by
 exact gU2
theorem region_outR (R:World->World->Prop) (hR:∀w,R w w) {a0:Act} (hm:P.follows .mixedOrders=true) (S:World->Prop)
 (hst:∀w w',S w->R w w'->S w') (hchk:chkAll os.toArray a0.tmps.size (os.map fun _=>[])=true) (h0:S w.drew)
 (hsteps:StepsO R P os.toArray Q S a0 os [] fun Ks=>∀(l:Nat->Value) (w:World),S w->(∀ (i:Nat) (k:Out),Ks[i]?=some k->k.ok l w (l i))->Q .normal (layO a0 l Ks os 0) w):(Code.region id os.toArray true).wp P Q a0 w:=by
 obtain ⟨Kf,-,h2,h3,h4,h5⟩:=stepsO_full os [] (fun k hk=>by cases hk) hsteps;rw[List.length_nil,Nat.zero_add] at h2;refine region_out hR hm Kf S hst (fun k hk=>h4 k hk) ?_ h0 (fun i o k ho hk a w l hat=>?_) (by simpa using h3)
 ·exact gB1
 exact gA2
section
variable {P:Program} {ops:Array Oper} {Q:Exit->Act->World->Prop} {o:Oper} {k:Out} {l:Nat->Value} {a:Act} {w w':World} {S:World->Prop} {Ks:List Out} {a0:Act} {R:World->World->Prop}
theorem rev_at {Rs:List Out} {j m:Nat} {k:Out} (hm:Rs.length=m+1+j) (hk:Rs[m]?=some k):Rs.reverse[j]?=some k:=by
 rw[List.getElem?_reverse om, <-hk];congr 1;omega
theorem AtO.get (h:AtO S Ks.reverse ops a0 o a w l) (j m:Nat) (hj:(depsOf o).contains j=true) (hd:dstOf ops j=some d) (hm:Ks.length=m+1+j) (hk:Ks[m]?=some (.eq v)):a.eval (.tmp d)=v:=
 (h.dep j hj d hd).trans (h.ok j hj _ (rev_at hm hk))
theorem AtO.got (h:AtO S Ks.reverse ops a0 o a w l) (j m:Nat) {p:World->Value->Prop} (hj:(depsOf o).contains j=true) (hd:dstOf ops j=some d) (hm:Ks.length=m+1+j) (hk:Ks[m]?=some (.rel p)):∃v,a.eval (.tmp d)=v/\l j=v/\p w v:=
 ⟨_,h.dep j hj d hd,rfl,h.ok j hj _ (rev_at hm hk)⟩
theorem AtO.gotl (h:AtO S Ks.reverse ops a0 o a w l) (j m:Nat) {js:List Nat} {p:List Value->World->Value->Prop} (hj:(depsOf o).contains j=true) (hm:Ks.length=m+1+j) (hk:Ks[m]?=some (.rell js p)):p (js.map l) w (l j):=
 h.ok j hj _ (rev_at hm hk)
theorem AtO.go (h:AtO S Ks.reverse ops a0 o a w l) (m:Nat) (hg:o.guard=some (g,b)) (hj:(depsOf o).contains g=true) (hm:Ks.length=m+1+g) (hk:Ks[m]?=some (.eq (.bool b))):Region.wanted o (yielded ops a.tmps)=true:=by
 have e:l g= .bool b:=h.ok g hj _ (rev_at hm hk);unfold Region.wanted;rw[hg];simp only[h.yield g b hg,e,beq_self_eq_true]
theorem AtO.stop (h:AtO S Ks.reverse ops a0 o a w l) (m:Nat) (hg:o.guard=some (g,b)) (hj:(depsOf o).contains g=true) (hm:Ks.length=m+1+g) (hk:Ks[m]?=some (.eq v)) (hv:v= .bool (!b)\/v=undef):Region.wanted o (yielded ops a.tmps)=false:=by
 have e:l g=v:=h.ok g hj _ (rev_at hm hk);unfold Region.wanted;rw[hg];simp only[h.yield g b hg,e];rcases hv with rfl|rfl
 ·cases b<;>rfl
 rfl
theorem wanted_none (h:o.guard=none):Region.wanted o (yielded ops a.tmps)=true:=by unfold Region.wanted;rw[h]
theorem ex_moveO {x:Operand} (h:o.op= .move x\/o.op= .assign x) (hv:ev x=v):(execOp ev o).run P w= .ok (.value v) w:=by
 rcases h with h|h<;>(unfold execOp;rw[h, <-hv];rfl)
theorem out_skip (hw:Region.wanted o (yielded ops a.tmps)=false):OutStep R P ops Q o (.eq undef) l a w:=by
 unfold OutStep;rw[hw];exact rfl
theorem out_val (hw:Region.wanted o (yielded ops a.tmps)=true) (hex:(execOp a.eval o).run P w= .ok (.value v) w) (hR:∀w,R w w:=by first|exact fun _=>Below.refl _ _|exact BR.refl _ _ _ _|exact PR.refl _ _ _ _ _ _ _ _ _|exact RR.refl _ _ _ _ _ _|exact AR.refl _ _ _|exact AR.refl _ _ _ _|exact KR.refl _ _ _ _|exact FW.refl _ _ _ _ _ _ _ _ _ _|exact AQ.refl _ _ _ _ _ _ _ _ _ _ _ _|exact GR.refl _ _|exact ER.refl _ _|exact TR.refl _ _|exact ZR.refl _ _ _):OutStep R P ops Q o (.eq v) l a w:=by
 unfold OutStep;rw[hw];intro K hK;unfold Oper.wp;rw[hex,Oper.upon_value];exact hK v w (hR w) rfl
theorem out_new (hw:Region.wanted o (yielded ops a.tmps)=true) (hex:(execOp a.eval o).run P w= .ok (.value v) w') (hb:R w w') (hk:k.ok l w' v):OutStep R P ops Q o k l a w:=by
 unfold OutStep;rw[hw];intro K hK;unfold Oper.wp;rw[hex,Oper.upon_value];exact hK v w' hb hk
theorem out_store (hw:Region.wanted o (yielded ops a.tmps)=true) (hex:(execOp a.eval o).run P w= .ok .skip w') (hb:R w w') (hk:k.ok l w' undef):OutStep R P ops Q o k l a w:=by
 unfold OutStep;rw[hw];intro K hK;unfold Oper.wp;rw[hex,Oper.upon_skip];exact hK undef w' hb hk
theorem out_call (hw:Region.wanted o (yielded ops a.tmps)=true) (hex:(execOp a.eval o).run P w= .ok (.enter f args) w) (hc:Calls P f args w fun e w'=>∃v,e= .returned v/\k.ok l w' v/\R w w'):OutStep R P ops Q o k l a w:=by
 unfold OutStep;rw[hw];intro K hK;unfold Oper.wp;rw[hex,Oper.upon_enter];refine hc.mono ?_;rintro e w' ⟨v,rfl,h1,h2⟩;exact hK v w' h2 h1
theorem out_call_eq (hw:Region.wanted o (yielded ops a.tmps)=true) (hex:(execOp a.eval o).run P w= .ok (.enter f args) w) (hc:Calls P f args w fun e w'=>e= .returned v/\R w w'):OutStep R P ops Q o (.eq v) l a w:=
 out_call hw hex (hc.mono fun _e _w' h=>⟨v,h.1,rfl,h.2⟩)
theorem stq {Rs:List Out} {fin:List Out->Prop} (v:Value) (h:∀(a:Act) (w:World) (l:Nat->Value),AtO S Rs.reverse ops a0 o a w l->OutStep R P ops Q o (.eq v) l a w) (hr:StepsO R P ops Q S a0 rest (.eq v::Rs) fin):StepsO R P ops Q S a0 (o::rest) Rs fin:=⟨.eq v,trivial,rfl,h,hr⟩
theorem stk {Rs:List Out} {fin:List Out->Prop} (m:Nat) (hr:StepsO R P ops Q S a0 rest (.eq undef::Rs) fin) (hg:o.guard=some (g,b):=by exact rfl) (hj:(depsOf o).contains g=true:=by kernel_rfl) (hm:Rs.length=m+1+g:=by exact rfl) (hk:Rs[m]?=some (.eq v):=by exact rfl) (hv:v= .bool (!b)\/v=undef:=by exact .inl rfl):StepsO R P ops Q S a0 (o::rest) Rs fin:=stq undef (fun _ _ _ hh=>out_skip (hh.stop m hg hj hm hk hv)) hr
theorem AtO.gt (h:AtO S Ks.reverse ops a0 o a w l) (j m:Nat) (hj:(depsOf o).contains j=true:=by kernel_rfl) (hd:dstOf ops j=some d:=by exact rfl) (hm:Ks.length=m+1+j:=by exact rfl) (hk:Ks[m]?=some (.eq v):=by exact rfl):a.eval (.tmp d)=v:=h.get j m hj hd hm hk
theorem AtO.ol (h:AtO S Ks ops ⟨tm.toArray,df⟩ o a w l) (t:Tmp) (hw:writes ops t=false:=by kernel_rfl) (hv:nthO tm t=v:=by exact rfl):a.eval (.tmp t)=v:=(h.old t hw).trans (evalO hv)
theorem ov (hex:(execOp a.eval o).run P w= .ok (.value v) w) (hg:o.guard=none:=by exact rfl) (hR:∀w,R w w:=by first|exact fun _=>Below.refl _ _|exact BR.refl _ _ _ _|exact PR.refl _ _ _ _ _ _ _ _ _|exact RR.refl _ _ _ _ _ _|exact AR.refl _ _ _|exact AR.refl _ _ _ _|exact KR.refl _ _ _ _|exact FW.refl _ _ _ _ _ _ _ _ _ _|exact AQ.refl _ _ _ _ _ _ _ _ _ _ _ _|exact GR.refl _ _|exact ER.refl _ _|exact TR.refl _ _|exact ZR.refl _ _ _):OutStep R P ops Q o (.eq v) l a w:=out_val (wanted_none hg) hex hR
theorem AtO.og (h:AtO S Ks.reverse ops a0 o a w l) (m:Nat) (hex:(execOp a.eval o).run P w= .ok (.value v) w) (hg:o.guard=some (g,b):=by exact rfl) (hj:(depsOf o).contains g=true:=by kernel_rfl) (hm:Ks.length=m+1+g:=by exact rfl) (hk:Ks[m]?=some (.eq (.bool b)):=by exact rfl) (hR:∀w,R w w:=by first|exact fun _=>Below.refl _ _|exact BR.refl _ _ _ _|exact PR.refl _ _ _ _ _ _ _ _ _|exact RR.refl _ _ _ _ _ _|exact AR.refl _ _ _|exact AR.refl _ _ _ _|exact KR.refl _ _ _ _|exact FW.refl _ _ _ _ _ _ _ _ _ _|exact AQ.refl _ _ _ _ _ _ _ _ _ _ _ _|exact GR.refl _ _|exact ER.refl _ _|exact TR.refl _ _|exact ZR.refl _ _ _):OutStep R P ops Q o (.eq v) l a w:=out_val (h.go m hg hj hm hk) hex hR
theorem stm {Rs:List Out} {fin:List Out->Prop} (j m:Nat) (hr:StepsO R P ops Q S a0 rest (.eq v::Rs) fin) (hj:(depsOf o).contains j=true:=by kernel_rfl) (hd:dstOf ops j=some d:=by exact rfl) (hm:Rs.length=m+1+j:=by exact rfl) (hk:Rs[m]?=some (.eq v):=by exact rfl) (hop:o.op= .move (.tmp d)\/o.op= .assign (.tmp d):=by first|exact .inl rfl|exact .inr rfl) (hg:o.guard=none:=by exact rfl) (hR:∀w,R w w:=by first|exact fun _=>Below.refl _ _|exact BR.refl _ _ _ _|exact PR.refl _ _ _ _ _ _ _ _ _|exact RR.refl _ _ _ _ _ _|exact AR.refl _ _ _|exact AR.refl _ _ _ _|exact KR.refl _ _ _ _|exact FW.refl _ _ _ _ _ _ _ _ _ _|exact AQ.refl _ _ _ _ _ _ _ _ _ _ _ _|exact GR.refl _ _|exact ER.refl _ _|exact TR.refl _ _|exact ZR.refl _ _ _):StepsO R P ops Q S a0 (o::rest) Rs fin:=stq v (fun _ _ _ hh=>out_val (wanted_none hg) (ex_moveO hop (hh.get j m hj hd hm hk)) hR) hr
theorem stn {Rs:List Out} {fin:List Out->Prop} (n:Nat) (j m:Nat) (hr:StepsO R P ops Q S a0 rest (.eq v::Rs) fin) (hj:(depsOf o).contains j=true:=by kernel_rfl) (hd:dstOf ops j=some d:=by exact rfl) (hm:Rs.length=m+1+j:=by exact rfl) (hk:Rs[m]?=some (.eq v):=by exact rfl) (hop:o.op= .move (.tmp d)\/o.op= .assign (.tmp d):=by first|exact .inl rfl|exact .inr rfl) (hg:o.guard=some (g,b):=by exact rfl) (hj2:(depsOf o).contains g=true:=by kernel_rfl) (hm2:Rs.length=n+1+g:=by exact rfl) (hk2:Rs[n]?=some (.eq (.bool b)):=by exact rfl) (hR:∀w,R w w:=by first|exact fun _=>Below.refl _ _|exact BR.refl _ _ _ _|exact PR.refl _ _ _ _ _ _ _ _ _|exact RR.refl _ _ _ _ _ _|exact AR.refl _ _ _|exact AR.refl _ _ _ _|exact KR.refl _ _ _ _|exact FW.refl _ _ _ _ _ _ _ _ _ _|exact AQ.refl _ _ _ _ _ _ _ _ _ _ _ _|exact GR.refl _ _|exact ER.refl _ _|exact TR.refl _ _|exact ZR.refl _ _ _):StepsO R P ops Q S a0 (o::rest) Rs fin:=stq v (fun _ _ _ hh=>out_val (hh.go n hg hj2 hm2 hk2) (ex_moveO hop (hh.get j m hj hd hm hk)) hR) hr
theorem AtO.oL (h:AtO S Ks ops ⟨tm.toArray,df⟩ o a w l) (t:Tmp) (hv:nthO tm t=v:=by simp only[nthO];rfl) (hw:writes ops t=false:=by kernel_rfl):a.eval (.tmp t)=v:=(h.old t hw).trans (evalO hv)
theorem xmv {x:Operand} (hv:ev x=v) (h:o.op= .move x\/o.op= .assign x:=by first|exact .inl rfl|exact .inr rfl):(execOp ev o).run P w= .ok (.value v) w:=ex_moveO h hv
theorem evc (a:Act):∀v,a.eval (.const v)=v:=fun _=>rfl
theorem evf (a:Act):∀f,a.eval (.func f)= .func (.func f) #[] #[]:=fun _=>rfl
theorem roB (W:World) (h:StepsO (fun w w'=>Bl w w') P os.toArray Q (fun Wk=>Bl W Wk) a0 os [] fun Ks=>∀(l:Nat->Value) (w:World),Bl W w->(∀ (i:Nat) (k:Out),Ks[i]?=some k->k.ok l w (l i))->Q .normal (layO a0 l Ks os 0) w) (hm:P.follows .mixedOrders=true:=by kernel_rfl) (hc:chkAll os.toArray a0.tmps.size (os.map fun _=>[])=true:=by kernel_rfl):(Code.region id os.toArray true).wp P Q a0 W:=region_outR _ (fun _=>Below.refl _ _) hm _ (fun _ _ h1 h2=>h1.trans (h2.mono h1.size)) hc (Below.drew br) h
end
theorem gX {P:Prop} (h:P:=by
 try clear hh
 generalize aa.eval=ev at*;go_simp;try rfl):P:=h
theorem fC {Q P : Prop} (hz : Q) (h : Q → P := by
  try clear hh
  intro hz;generalize aa.eval = ev at *;go_simp;try rfl) : P := h hz
theorem ly:(∀ (a:List Out) x,(x::a).reverse=a.reverse++[x])/\([]:List Out).reverse=[]/\(∀ (a:List Out),[]++a=a)/\(∀ (a b:List Out) x,(x::a)++b=x::(a++b))/\(∀ a l k ks (o:Oper) os i,layO a l (k::ks) (o::os) i=layO (a.put o.dst (k.val (l i))) l ks os (i+1))/\(∀ a l os i,layO a l [] os i=a)/\(∀ x v,Out.val x (.eq v)=v)/\(∀ x p,Out.val x (.rel p)=x)/\(∀ x js p,Out.val x (.rell js p)=x)/\(∀ x js F,Out.val x (.fn js F)=x)/\(∀ (a:Act) v,a.put none v=a)/\(∀ (a:Act) d v,a.put (some d) v={ a with tmps:=a.tmps.setIfInBounds d v })/\(∀ (l:List Value) i v,l.toArray.setIfInBounds i v=(l.set i v).toArray)/\(∀ (l:List Value) x v,(x::l).set 0 v=v::l)/\∀(l:List Value) x i v,(x::l).set (i+1) v=x::l.set i v:=by
 refine ⟨fun _ _=>List.reverse_cons,rfl,fun _=>rfl,fun _ _ _=>rfl,?_,?_,fun _ _=>rfl,fun _ _=>rfl,fun _ _ _=>rfl,fun _ _ _=>rfl,fun _ _=>rfl,fun _ _ _=>rfl,fun _ _ _=>by simp,fun _ _ _=>rfl,fun _ _ _ _=>rfl⟩
 ·intro a l k ks o os i;conv=>lhs;unfold layO
 intro a l os i;unfold layO;rfl
theorem sq {a0:Act} {Rs:List Out} {fin:List Out->Prop} (h:∀(a:Act) (w:World) (l:Nat->Value),AtO S Rs.reverse ops a0 o a w l->OutStep R P ops Q o (.eq v) l a w) (hr:StepsO R P ops Q S a0 rest (.eq v::Rs) fin):StepsO R P ops Q S a0 (o::rest) Rs fin:=stq v h hr
open Go.RowKit
theorem ok10_any (x:Int) (w:World):Calls Tryz.prog 79 #[.int .i64 x] w fun e w'=>e= .returned (.bool (okP x))/\Bl w w':=by
 by_cases h1:0<x
 ·by_cases h2:x<129
  ·rw[show okP x=true by simp[okP,h1,h2]];go_enter Tryz.func79,Tryz.ntmps79;exact gS1
  rw[show okP x=false by simp[okP,h2]];go_enter Tryz.func79,Tryz.ntmps79;exact gS1
 rw[show okP x=false by simp[okP,h1]];go_enter Tryz.func79,Tryz.ntmps79;exact gS1
theorem IRow.el {p:Option Addr} {n c:Nat} {l:List Int} (h:IRow w (.slice p n c) l) {j:Nat} (hj:j<l.length):∃b o,p=some ⟨b,o,none⟩/\b<w.heap.size/\w.cell? ⟨b,o+j,none⟩=some (.int .i64 (l.getD j 0)):=by
 obtain ⟨b,o,e,h1,h2⟩:=h.get (some_getD 0 hj);rw[Nat.mul_one] at h2;exact ⟨b,o,e,h1,h2⟩
theorem of10_any (l:List Int) (p:Option Addr) (n c:Nat) (i:Int) (w:World) (h:IRow w (.slice p n c) l) (_hl:n<=1000000000):Calls Tryz.prog 122 #[.slice p n c, .int .i64 i] w fun e w'=>e= .returned (.int .i64 (ofP l i))/\Bl w w':=by
 obtain ⟨e1,e2,e3,-⟩:=h.ln;by_cases h1:i<0
 ·rw[show ofP l i=0 by simp[ofP,h1]];clear h;go_enter Tryz.func122,Tryz.ntmps122;exact gS1
 by_cases h2:(n:Int)<=i
 ·rw[show ofP l i=0 by simp[ofP, <-e1,h2]];clear h;go_enter Tryz.func122,Tryz.ntmps122;exact gS1
 obtain ⟨k,rfl⟩:∃k:Nat,i=(k:Int):=⟨i.toNat,om⟩;obtain ⟨b,o,rfl,-,hc⟩:=h.el (j:=k) om;rw[show ofP l (k:Int)=l.getD k 0 by unfold ofP;rw[if_neg om];rfl];generalize l.getD k 0=z at*;have hk:k<n:=om;clear h e1;go_enter Tryz.func122,Tryz.ntmps122;exact gS1
theorem in10_any (l:List Int) (p:Option Addr) (n c:Nat) (x:Int) (w:World) (h:IRow w (.slice p n c) l) (hl:n<=1000000000):Calls Tryz.prog 80 #[.slice p n c, .int .i64 x] w fun e w'=>e= .returned (.bool (l.contains x))/\Bl w w':=by
 obtain ⟨e1,e2,e3,-⟩:=h.ln;have HH:=hD h;have HE:=hD e1;clear h e1;go_enter Tryz.func80,Tryz.ntmps80;go_wp2_with fail;go_loopw [5] (fun i wr=>∃k:Nat,k<=n/\i= .int .i64 k/\wr=w/\Hd (∀ j,j<k->l.getD j 0≠x)) (fun i _=>n-(intOf i).toNat)
 case atStart=>exact ⟨0,zl,rfl,rfl,fun j hj=>absurd hj om⟩
 case round=>
  obtain ⟨k,hk,rfl,rfl,HJ⟩:=hrel;by_cases hlt:k<n
  ·obtain ⟨b,o,rfl,-,hc⟩:=HH.o.el (j:=k) (by have:=HE.o;omega);have HG:=hD (rfl:l.getD k 0=l.getD k 0);obtain ⟨z,hz⟩:=nm (l.getD k 0);rw[<- hz] at hc;have HZ:=hD hz;clear hz HG;by_cases hx:z=x
   ·subst hx;go_wp2_with fail;go_ret;refine ⟨?_,Below.refl _ _⟩;rw[show l.contains z=true by
     rw[List.contains_iff_mem,HZ.o];exact gM_ (some_getD 0 (by have:=HE.o;omega))]
    rfl
   go_wp2_with fail;go_roundw
   case rel=>exact ⟨k+1,om,by go_num,(by first|trivial|rfl),fun j hj=>by
    rcases Nat.lt_or_ge j k with q|q
    ·exact HJ.o j q
    ·obtain rfl:j=k:=om
     rw[<- HZ.o];exact hx⟩
   case measure=>exact mz
  obtain rfl:k=n:=om;go_wp2_with fail;go_ret;refine ⟨?_,Below.refl _ _⟩;rw[show l.contains x=false by
   rw[Bool.eq_false_iff];intro hc;rw[List.contains_iff_mem] at hc;obtain ⟨j,hj,e⟩:=List.getElem_of_mem hc;have:=HJ.o j (by rw[HE.o];exact hj);rw[List.getD_eq_getElem?_getD,gE_ hj] at this;exact this e]
  rfl
theorem widths10_any (l:List Int) (p:Option Addr) (n c:Nat) (w:World) (h:IRow w (.slice p n c) l) (hl:n<=1000000000):Calls Tryz.prog 48 #[.slice p n c] w fun e w'=>e= .returned (.bool (l.all okP))/\Bl w w':=by
 obtain ⟨e1,e2,e3,-⟩:=h.ln;have HH:=hD h;have HE:=hD e1;clear h e1;go_enter Tryz.func48,Tryz.ntmps48;go_wp2_with fail;go_loopw [3] (fun i wr=>∃k:Nat,k<=n/\i= .int .i64 k/\Hd (Bl w wr)/\Hd (∀ j,j<k->okP (l.getD j 0)=true)) (fun i _=>n-(intOf i).toNat)
 case atStart=>exact ⟨0,zl,rfl,Below.refl _ _,fun j hj=>absurd hj om⟩
 case round=>
  obtain ⟨k,hk,rfl,HB,HJ⟩:=hrel;by_cases hlt:k<n
  ·obtain ⟨b,o,rfl,-,hc⟩:=IRow.el (HH.o.below keepI HB.o) (j:=k) (by have:=HE.o;omega);obtain ⟨z,hz⟩:=nm (l.getD k 0);have HO:Hd (∀ W,CR 79 #[.int .i64 z] W (.bool (okP z))):=fun W=>ok10_any z W
   rw[<- hz] at hc;have HZ:=hD hz;clear hz;obtain ⟨r,hr⟩:=nm (okP z);rw[<- hr] at HO;have HR:=hD hr;clear hr;cases r
   ·go_wp2_with (go_at_call 79;refine (HO.o _).mono ?_;rintro e w1 ⟨rfl,hb1⟩;have HB1:=hD hb1;clear hb1);go_ret;refine ⟨?_,HB.o.trans (HB1.o.mono HB.o.size)⟩;rw[show l.all okP=false by
     rw[Bool.eq_false_iff];intro hc;rw[List.all_eq_true] at hc;have:=hc z (by rw[HZ.o];exact gM_ (some_getD 0 (by have:=HE.o;omega)));rw[<- HR.o] at this;cases this]
    rfl
   ·go_wp2_with (go_at_call 79;refine (HO.o _).mono ?_;rintro e w1 ⟨rfl,hb1⟩;have HB1:=hD hb1;clear hb1);go_roundw
    case rel=>exact ⟨k+1,om,by go_num,HB.o.trans (HB1.o.mono HB.o.size),fun j hj=>by
     rcases Nat.lt_or_ge j k with q|q
     ·exact HJ.o j q
     ·obtain rfl:j=k:=om
      rw[<- HZ.o];exact HR.o.symm⟩
    case measure=>exact mz
  obtain rfl:k=n:=om;go_wp2_with fail;go_ret;refine ⟨?_,HB.o⟩;rw[show l.all okP=true by
   rw[List.all_eq_true];intro x hx;obtain ⟨j,hj,e⟩:=List.getElem_of_mem hx;have:=HJ.o j (by rw[HE.o];exact hj);rw[List.getD_eq_getElem?_getD,gE_ hj] at this;rw[<- e];exact this]
  rfl
theorem eql4 (x y z u:Nat) (W:World):(Go.binOp .eql 82 (.agg #[.int .u64 (x:Int), .int .u64 (y:Int)]) (.agg #[.int .u64 (z:Int), .int .u64 (u:Int)])).run Tryz.prog W= .ok (.bool (decide (x=z/\y=u))) W:=by
 exact gQ2
theorem neq4 (x y:Nat) (W:World):(Go.binOp .neq 82 (.agg #[.int .u64 (x:Int), .int .u64 (y:Int)]) (.agg #[.int .u64 0, .int .u64 0])).run Tryz.prog W= .ok (.bool (decide (¬ (x=0/\y=0)))) W:=by
 by_cases h1:x=0<;>by_cases h2:y=0<;>simp[go_sem,h1,h2]
theorem eqln (a b:Nat) (W:World):(Go.binOp .eql 82 (numV a) (numV b)).run Tryz.prog W= .ok (.bool (decide (a=b))) W:=by
 have e:decide (a=b)=decide (a/B=b/B/\a%B=b%B):=by
  rw[decide_eq_decide];exact gB4
 rw[e];exact eql4 _ _ _ _ W
theorem neqz (v:Nat) (W:World):(Go.binOp .neq 82 (numV v) (.agg #[.int .u64 0, .int .u64 0])).run Tryz.prog W= .ok (.bool (decide (v≠0))) W:=by
 have e:decide (v≠0)=decide (¬ (v/B=0/\v%B=0)):=by
  rw[decide_eq_decide];constructor
  ·intro h1 ⟨h2,h3⟩;have:=Nat.div_add_mod v B;rw[h2,h3] at this;exact h1 (by simpa using this.symm)
  rintro h1 rfl;exact h1 ⟨by simp,by simp⟩
 rw[e];exact neq4 _ _ W
theorem fits01_any (v:Nat) (x:Int) (w:World) (hv:v<B*B):Calls Tryz.prog 70 #[numV v, .int .i64 x] w fun e w'=>e= .returned (.bool (fitsP v x))/\Bl w w':=by
 have HC:Hd (∀ W,Calls Tryz.prog 102 #[numV v, .int .i64 x] W (RetNum W (v%2 ^ sh x))):=fun W=>refCut_any v x hv W
 have heq:=fun W=>eqln (v%2 ^ sh x) v W
 unfold fitsP;obtain ⟨h1,l1,e1,-,-⟩:=numV_parts v;obtain ⟨h2,l2,e2,-,-⟩:=numV_parts (v%2 ^ sh x);unfold RetNum at HC;rw[e1,e2] at HC heq;rw[e1];generalize decide (v%2 ^ sh x=v)=r at*;clear e1 e2 hv;go_enter Tryz.func70,Tryz.ntmps70;go_wp2_with fail;obtain ⟨W0,hW0⟩:=nm (w.alloc (.cells #[.int .u64 (h1:Int), .int .u64 (l1:Int)] 82));have hb0:Bl w W0:=by rw[hW0];exact br.alloc lr _
 have hn0:W0.heap[w.heap.size]?=some (.cells #[.int .u64 (h1:Int), .int .u64 (l1:Int)] 82 (0,0)):=by rw[hW0];exact heap_new _ _
 have HB:Hd (∀ W,Bl W0 W->Cl W w.heap.size 0 (.int .u64 (h1:Int))/\Cl W w.heap.size 1 (.int .u64 (l1:Int))):=fun W h=>by
  have h2:=(h.block _ (gA_ hn0).1).trans hn0;exact ⟨by simp[World.cell?,h2],by simp[World.cell?,h2]⟩
 have HB0:=hD hb0;rw[<- hW0];clear hW0 hb0 hn0;refine roB W0 ?_;refine sq (fun aa ww ll hh=>by have:=hh.oL 2;exact ov (fC (HB.o ww hh.inv))) ?_;refine sq (fun aa ww ll hh=>by exact ov (xmv (hh.oL 1))) ?_;refine ⟨.eq (.agg #[.int .u64 (h2:Int), .int .u64 (l2:Int)]),trivial,rfl,fun aa ww ll hh=>?_,?_⟩
 ·have e5:=hh.gt 0 1;have e6:=hh.gt 1 0;have ef:=evf aa;refine out_call_eq (wanted_none rfl) ?_ (HC.o ww);exact gX
 refine sq (fun aa ww ll hh=>by have:=hh.oL 2;exact ov (fC (HB.o ww hh.inv))) ?_;refine sq (fun aa ww ll hh=>by have:=hh.gt 2 1;have:=hh.gt 3 0;exact ov gX) ?_;refine stm 4 0 ?_;exact gE4
open Go.RowKit
def ndV (n:Nod):Value:= .agg #[.int .u8 n.op, .int .i64 n.w, .int .i64 n.a, .int .i64 n.b, .int .u64 ((n.v/B:Nat):Int), .int .u64 ((n.v%B:Nat):Int)]
structure Sm (p:Prg):Prop where
 heads:p.heads.length<=6000
 head:∀l∈p.heads,l.length<=6000
 metas:p.metas.length<=6000
 emit:p.emit.length<=6000
 steps:p.steps.length<=6000
 takes:∀x∈p.steps,x.takes.length<=6000
 skeys:∀x∈p.steps,x.keys.length<=6000
 scode:∀x∈p.steps,∀c∈x.keys,c.length<=6000
 brs:∀x∈p.steps,x.brs.length<=6000
 pats:∀x∈p.steps,∀b∈x.brs,b.pats.length<=6000
 acts:p.acts.length<=6000
 params:∀a∈p.acts,a.params.length<=6000
 body:∀a∈p.acts,a.body.length<=6000
 bcode:∀a∈p.acts,∀i∈a.body,i.e.length<=6000
 ctl:p.ctl.length<=6000
 ccode:∀i∈p.ctl,i.e.length<=6000
 tabs:p.tabs.length<=6000
 tkeys:∀x∈p.tabs,x.keys.length<=6000
 tcode:∀x∈p.tabs,∀c∈x.keys,c.length<=6000
 tacts:∀x∈p.tabs,x.acts.length<=6000
 dargs:∀x∈p.tabs,x.dargs.length<=6000
theorem wrapS {x:Int} (h: -1000000<=x) (h2:x<=1000000):wrap64 x=x:=by
 unfold wrap64;omega
theorem pair0_any (n:Nod) (x y:Int) (w:World) (hx:0<x/\x<129) (hy:0<y/\y<129):
 Calls Tryz.prog 110 #[ndV n, .int .i64 x, .int .i64 y] w fun e w'=>e= .returned (.int .i64 (pair0P n x y))/\Bl w w':=by
 obtain ⟨op,k,a,b,v⟩:=n;unfold ndV;dsimp only;obtain ⟨R,hR⟩:=nm (pair0P ⟨op,k,a,b,v⟩ x y);rw[<- hR];have HR:=hD hR;clear hR;have hw:wrap64 (x+y)=x+y:=wrapS om om;generalize ((v/B:Nat):Int)=v1;generalize ((v%B:Nat):Int)=v2;go_enter Tryz.func110,Tryz.ntmps110;go_wp2_with fail;all_goals
  go_ret;refine ⟨?_,bL⟩;show Ending.returned (.int .i64 _)=_;congr 2;rw[HR.o];unfold pair0P;dsimp only;simp only[bne_iff_ne,ne_eq,beq_iff_eq,beq_eq_false_iff_ne,bne_eq_false_iff_eq] at*
  repeat' split
  all_goals omega
theorem single0_any (n:Nod) (x:Int) (w:World) (hx:0<x/\x<129):
 Calls Tryz.prog 109 #[ndV n, .int .i64 x] w fun e w'=>e= .returned (.int .i64 (single0P n x))/\Bl w w':=by
 obtain ⟨op,k,a,b,v⟩:=n;unfold ndV;dsimp only;obtain ⟨R,hR⟩:=nm (single0P ⟨op,k,a,b,v⟩ x);rw[<- hR];have HR:=hD hR;clear hR;have hw:0<=b->b<=a->a<x->wrap64 (wrap64 (a-b)+1)=a-b+1:=fun h1 h2 h3=>by rw[wrapS (x:=a-b) om om,wrapS om om]
 have HW:=hD hw;clear hw;generalize ((v/B:Nat):Int)=v1;generalize ((v%B:Nat):Int)=v2;go_enter Tryz.func109,Tryz.ntmps109;go_wp2_with fail;all_goals
  go_ret;refine ⟨?_,bL⟩;show Ending.returned (.int .i64 _)=_;congr 2;rw[HR.o];unfold single0P;dsimp only;simp only[ne_eq,beq_iff_eq,beq_eq_false_iff_ne] at*;have hw:=HW.o
  repeat' split
  all_goals first|omega|(rw[hw om om om];try omega)
end Go.Proofs.YtikilcbpogfgkaaGreat
