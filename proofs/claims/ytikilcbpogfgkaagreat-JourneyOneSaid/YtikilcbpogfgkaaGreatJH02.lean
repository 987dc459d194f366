/- Lemmas. -/
import Derived.Test.YtikilcbpogfgkaaGreatJH01
set_option maxHeartbeats 1600000
set_option maxRecDepth 100000
namespace Go.Proofs.YtikilcbpogfgkaaGreat
open Go.RowKit
variable {L:Array Bool} {q:Nat->Bool} {P:Program} {ops:Array Oper} {Q:Exit->Act->World->Prop} {id N g:Nat} {a:Act} {w w':World} {o:Oper} {dst:Option Tmp} {d t:Tmp} {tm:List Value} {df:List Deferred} {R:World->World->Prop} {S:World->Prop} {os rest:List Oper} {b:Bool} {x:Operand} {ev:Operand->Value} {f:FuncId} {args:Array Value}
def didO (L:Array Bool) (i:Nat):Bool:=L.getD i false
theorem didO_set {i j:Nat} (hi:i<L.size):didO (L.setIfInBounds i true) j=(decide (j=i)||didO L j):=by
 unfold didO;by_cases h:i=j
 ·subst h;simp[hi]
 ·rw[getD_set_ne false h];have:decide (j=i)=false:=by simp;omega
  rw[this,Bool.false_or]
theorem didO_none (n i:Nat):didO (Array.replicate n false) i=false:=by
 unfold didO;rw[Array.getD_eq_getD_getElem?,Array.getElem?_replicate];split<;>rfl
theorem filterO_le {p:Nat->Bool} (h:∀j,q j=true->p j=true):∀l:List Nat,(l.filter q).length<=(l.filter p).length
 |[]=>Nat.le_refl _
 |x::l=>by
  have ih:=filterO_le h l;rw[List.filter_cons,List.filter_cons];cases hq:q x
  ·simp only[Bool.false_eq_true,if_false];split
   ·simp only[List.length_cons];omega
   ·exact ih
  ·rw[h x hq];simp only[if_true,List.length_cons];omega
theorem filterO_lt {p:Nat->Bool} (h:∀j,q j=true->p j=true) {i:Nat} (hp:p i=true) (hq:q i=false):∀l:List Nat,i∈l->(l.filter q).length<(l.filter p).length
 |[],hi=>by cases hi
 |x::l,hi=>by
  rw[List.filter_cons,List.filter_cons];by_cases e:x=i
  ·subst e;have:=filterO_le h l;rw[hp,hq];simp only[Bool.false_eq_true,if_false,if_true,List.length_cons];omega
  ·have ih:=filterO_lt h hp hq l (by
    rcases List.mem_cons.1 hi with h1|h1
    ·exact absurd h1.symm e
    ·exact h1)
   cases hq':q x
   ·simp only[Bool.false_eq_true,if_false];split
    ·simp only[List.length_cons];omega
    ·exact ih
   ·rw[h x hq'];simp only[if_true,List.length_cons];omega
theorem wpAny_invO {md:Region.Mode} (I:Array Bool->Act->World->Prop)
 (hstep:∀L a w i,L.size=ops.size->i<ops.size->didO L i=false->(∀ o,ops[i]?=some o->∀e∈o.after,Region.binds md e=true->didO L e.on=true)->I L a w->wpOp P ops Q i (I (L.setIfInBounds i true)) a w)
 (hend:∀L a w,L.size=ops.size->Region.ready md ops L=[]->I L a w->Q .normal a w):
 ∀(n:Nat) (L:Array Bool) (a:Act) (w:World),L.size=ops.size->(∀ i,i<ops.size->didO L i=false->0<n)->((List.range ops.size).filter fun i=> !didO L i).length<=n->I L a w->wpAny P md ops Q n L a w:=by
 intro n;induction n with
 |zero=>
  intro L a w hL hn hlen hI;have hr:Region.ready md ops L=[]:=by
   rw[List.eq_nil_iff_forall_not_mem];intro i hi;obtain ⟨h1,o,ho,-⟩:=mem_ready.1 hi;have hlt:i<ops.size:=(gA_ ho).1;have:didO L i=false:=by unfold didO;simpa [hL,hlt] using h1
   exact absurd (hn i hlt this) om
  exact ⟨hr,hend L a w hL hr hI⟩
 |succ n ih=>
  intro L a w hL hn hlen hI;refine ⟨fun hr=>hend L a w hL hr hI,fun i hi=>?_⟩;obtain ⟨h1,o,ho,hall⟩:=mem_ready.1 hi;have hlt:i<ops.size:=(gA_ ho).1;have hd:didO L i=false:=by unfold didO;simpa [hL,hlt] using h1
  refine wpOp_mono (fun a' w' hI'=>?_) (hstep L a w i hL hlt hd (fun o' ho' e he hb=>by rw[ho] at ho';cases ho';exact hall e he hb) hI);have hset:((List.range ops.size).filter fun j=> !didO (L.setIfInBounds i true) j).length<((List.range ops.size).filter fun j=> !didO L j).length:=by
   refine filterO_lt (fun j hj=>?_) (i:=i) (by simp[hd]) (by rw[didO_set om];simp) _ (List.mem_range.2 hlt);rw[didO_set om] at hj;cases h:didO L j
   ·rfl
   ·rw[h] at hj;simp at hj
  refine ih _ a' w' (by simpa using hL) (fun j hj hdj=>?_) om hI';rcases Nat.eq_zero_or_pos n with h0|h0
  ·exfalso;have hm:j∈(List.range ops.size).filter fun j=> !didO (L.setIfInBounds i true) j:=by
    rw[List.mem_filter,List.mem_range];exact ⟨hj,by simp[hdj]⟩
   have:=List.length_pos_of_mem hm;omega
  ·exact h0
theorem wp_region_invO (hm:P.follows .mixedOrders=true) (I:Array Bool->Act->World->Prop)
 (h0:I (Array.replicate ops.size false) a w.drew)
 (hstep:∀L a w i,L.size=ops.size->i<ops.size->didO L i=false->(∀ o,ops[i]?=some o->∀e∈o.after,Region.binds .any e=true->didO L e.on=true)->I L a w->wpOp P ops Q i (I (L.setIfInBounds i true)) a w)
 (hback:∀(i:Nat) (o:Oper),ops[i]?=some o->∀e∈o.after,Region.binds .any e=true->e.on<i)
 (hend:∀L a w,(∀ i,i<ops.size->didO L i=true)->I L a w->Q .normal a w):(Code.region id ops true).wp P Q a w:=by
 refine wp_region_any hm (wpAny_invO I hstep (fun L a w hL hr hI=>hend L a w ?_ hI) ops.size _ a _ sm (fun i hi _=>by omega) ?_ h0)
 ·intro i;induction i using Nat.strongRecOn with
  |_ i ih=>
   intro hi;cases hd:didO L i
   ·exfalso;have:i∈Region.ready .any ops L:=by
     rw[mem_ready];refine ⟨?_,ops[i],Array.getElem?_eq_getElem hi,fun e he hb=>?_⟩
     ·unfold didO at hd;simpa [hL,hi] using hd
     ·have hlt:=hback i _ (Array.getElem?_eq_getElem hi) e he hb;exact ih e.on hlt om
    rw[hr] at this;cases this
   ·rfl
 ·exact Nat.le_trans (List.length_filter_le _ _) sm
def depsOf (o:Oper):List Nat:=(o.after.toList.filter fun e=>Region.binds .any e).map (·.on)
def dstOf (ops:Array Oper) (j:Nat):Option Tmp:=(ops[j]?).bind (·.dst)
def writes (ops:Array Oper) (s:Tmp):Bool:=ops.toList.any fun o=>o.dst==some s
def tmpsOf (o:Oper):List Tmp:=o.op.operands.toList.filterMap fun| .tmp t=>some t|_=>none
def chkO (ops:Array Oper) (N i:Nat) (js:List Nat) (o:Oper):Bool:=
 (depsOf o).all (fun j=>decide (j<i))&&js.all (fun j=>(depsOf o).contains j)&&
 (tmpsOf o).all (fun t=> !writes ops t||(depsOf o).any (fun j=>dstOf ops j==some t))&&
 (match o.guard with|none=>true|some (g,_)=>(depsOf o).contains g&&(dstOf ops g).isSome)&&
 (match o.op with| .select _ _=>false|_=>true)&&
 (match o.dst with|none=>true|some d=>decide (d<N)&&(List.range ops.size).all (fun j=>decide (j=i)|| !(dstOf ops j==some d)))
def chkAll (ops:Array Oper) (N:Nat) (js:List (List Nat)):Bool:=
 decide (js.length=ops.size)&&(List.range ops.size).all (fun i=>match ops[i]? with|none=>true|some o=>chkO ops N i (js.getD i []) o)
theorem chk_at {js:List (List Nat)} (h:chkAll ops N js=true) {i:Nat} (ho:ops[i]?=some o):chkO ops N i (js.getD i []) o=true:=by
 unfold chkAll at h;rw[Bool.and_eq_true,List.all_eq_true] at h;have:=h.2 i (List.mem_range.2 (gA_ ho).1);simpa [ho] using this
structure ChkO (ops:Array Oper) (N i:Nat) (js:List Nat) (o:Oper):Prop where
 back:∀j∈depsOf o,j<i
 js:∀j∈js,j∈depsOf o
 tmp:∀t∈tmpsOf o,writes ops t=false\/∃j∈depsOf o,dstOf ops j=some t
 guard:∀g b,o.guard=some (g,b)->g∈depsOf o/\∃d,dstOf ops g=some d
 sel:∀cs b,o.op≠ .select cs b
 dst:∀d,o.dst=some d->d<N/\∀j,j≠i->dstOf ops j≠some d
theorem ChkO.of {i:Nat} {js:List Nat} (h:chkO ops N i js o=true):ChkO ops N i js o:=by
 unfold chkO at h;simp only[Bool.and_eq_true,List.all_eq_true,List.contains_eq_mem,decide_eq_true_eq,Bool.or_eq_true,Bool.not_eq_true',List.any_eq_true,beq_iff_eq] at h;obtain ⟨⟨⟨⟨⟨h1,h2⟩,h3⟩,h4⟩,h5⟩,h6⟩:=h;refine ⟨h1,h2,h3,fun g b hg=>?_,fun cs b hs=>?_,fun d hd=>?_⟩
 ·rw[hg] at h4;simp only[Bool.and_eq_true,decide_eq_true_eq,Option.isSome_iff_exists] at h4;exact h4
 ·rw[hs] at h5;cases h5
 ·rw[hd] at h6;simp only[Bool.and_eq_true,decide_eq_true_eq,List.all_eq_true,Bool.or_eq_true,Bool.not_eq_true',beq_eq_false_iff_ne,List.mem_range] at h6;refine ⟨h6.1,fun j hj e=>?_⟩;have hlt:j<ops.size:=by
   unfold dstOf at e;cases q:ops[j]? with
   |none=>rw[q] at e;cases e
   |some o'=>exact (gA_ q).1
  rcases h6.2 j hlt with h|h
  ·exact hj h
  ·exact h e
def updO (l:Nat->Value) (i:Nat) (v:Value):Nat->Value:=fun j=>if j=i then v else l j
theorem updO_self {l:Nat->Value} {i:Nat} {v:Value}:updO l i v i=v:=if_pos rfl
theorem updO_ne {l:Nat->Value} {i j:Nat} {v:Value} (h:j≠i):updO l i v j=l j:=if_neg h
theorem put_at {v:Value} {s:Tmp} (h:dst≠some s):(a.put dst v).tmps[s]?=a.tmps[s]?:=by
 cases dst with
 |none=>rfl
 |some d=>simp only[Act.put];rw[Array.getElem?_setIfInBounds_ne (fun e=>h (by rw[e]))]
theorem put_self {v:Value} (h:d<a.tmps.size):(a.put (some d) v).tmps[d]?=some v:=by
 simp only[Act.put];rw[Array.getElem?_setIfInBounds_self_of_lt h]
theorem put_size {v:Value}:(a.put dst v).tmps.size=a.tmps.size:=by cases dst<;>simp[Act.put]
theorem put_defers {v:Value}:(a.put dst v).defers=a.defers:=by cases dst<;>rfl
theorem eval_of {a':Act} (h:a.tmps[t]?=a'.tmps[t]?):a.eval (.tmp t)=a'.eval (.tmp t):=by
 simp only[Act.eval,Array.getD_eq_getD_getElem?,h]
theorem eval_some {v:Value} (h:a.tmps[t]?=some v):a.eval (.tmp t)=v:=by
 simp only[Act.eval,Array.getD_eq_getD_getElem?,h];rfl
def nthO:List Value->Nat->Value
 |[],_=>undef
 |v::_,0=>v
 |_::l,n+1=>nthO l n
theorem nthO_eq:∀(l:List Value) (n:Nat),nthO l n=l.getD n undef
 |[],_=>by simp[nthO]
 |v::_,0=>by simp[nthO]
 |_::l,n+1=>by rw[nthO,nthO_eq l n];simp
theorem evalO {v:Value} (h:nthO tm t=v):(⟨tm.toArray,df⟩:Act).eval (.tmp t)=v:=by
 rw[<- h,nthO_eq];simp[Act.eval,Array.getD_eq_getD_getElem?,List.getD_eq_getElem?_getD]
open Go.RowKit
inductive Out
 |eq (v:Value)
 |rel (p:World->Value->Prop)
 |rell (js:List Nat) (p:List Value->World->Value->Prop)
 |fn (js:List Nat) (F:List Value->Value)
def Out.js:Out->List Nat
 | .fn js _=>js
 | .rell js _=>js
 |_=>[]
def Out.ok (l:Nat->Value) (w:World) (v:Value):Out->Prop
 | .eq u=>v=u
 | .rel p=>p w v
 | .rell js p=>p (js.map l) w v
 | .fn js F=>v=F (js.map l)
def Out.val (x:Value):Out->Value
 | .eq v=>v
 |_=>x
def Out.keeps (R:World->World->Prop):Out->Prop
 | .rel p=>∀w w' v,p w v->R w w'->p w' v
 | .rell _ p=>∀xs w w' v,p xs w v->R w w'->p xs w' v
 |_=>True
structure AtO (S:World->Prop) (Ks:List Out) (ops:Array Oper) (a0:Act) (o:Oper) (a:Act) (w:World) (l:Nat->Value):Prop where
 inv:S w
 old:∀t,writes ops t=false->a.eval (.tmp t)=a0.eval (.tmp t)
 dep:∀j,(depsOf o).contains j=true->∀d,dstOf ops j=some d->a.eval (.tmp d)=l j
 ok:∀j,(depsOf o).contains j=true->∀k,Ks[j]?=some k->k.ok l w (l j)
 yield:∀g b,o.guard=some (g,b)->yielded ops a.tmps g=(match l g with| .bool b=>some b|_=>none)
def OutStep (R:World->World->Prop) (P:Program) (ops:Array Oper) (Q:Exit->Act->World->Prop) (o:Oper) (k:Out) (l:Nat->Value) (a:Act) (w:World):Prop:=
 if Region.wanted o (yielded ops a.tmps) then ∀K:Act->World->Prop,(∀ v w',R w w'->k.ok l w' v->K (a.put o.dst v) w')->o.wp P a w K Q else k.ok l w undef
def layO (a0:Act) (l:Nat->Value):List Out->List Oper->Nat->Act
 |k::ks,o::os,i=>layO (a0.put o.dst (k.val (l i))) l ks os (i+1)
 |_,_,_=>a0
structure FrO (ops:Array Oper) (a0:Act) (L:Array Bool) (l:Nat->Value) (a:Act):Prop where
 df:a.defers=a0.defers
 sz:a.tmps.size=a0.tmps.size
 old:∀s,(∀ j,didO L j=true->dstOf ops j≠some s)->a.tmps[s]?=a0.tmps[s]?
 new:∀j d,didO L j=true->dstOf ops j=some d->a.tmps[d]?=some (l j)
structure InO (S:World->Prop) (Ks:List Out) (ops:Array Oper) (a0:Act) (L:Array Bool) (l:Nat->Value) (a:Act) (w:World):Prop where
 ls:L.size=ops.size
 fr:FrO ops a0 L l a
 inv:S w
 ok:∀i,didO L i=true->∀k,Ks[i]?=some k->k.ok l w (l i)
 dp:∀i o,didO L i=true->ops[i]?=some o->∀j∈depsOf o,didO L j=true
theorem layO_at {a0:Act} {l:Nat->Value}:∀(ks:List Out) (os:List Oper) (i:Nat) (a:Act) (s:Tmp),ks.length=os.length->(∀ (x:Nat) (o:Oper),os[x]?=some o->o.dst≠some s)->(layO a l ks os i).tmps[s]?=a.tmps[s]?/\(layO a l ks os i).tmps.size=a.tmps.size/\(layO a l ks os i).defers=a.defers
 |[],os,_,_,_,_,_=>by unfold layO;exact ⟨rfl,rfl,rfl⟩
 |k::ks,[],_,_,_,_,_=>by unfold layO;exact ⟨rfl,rfl,rfl⟩
 |k::ks,o::os,i,a,s,hl,h=>by
  unfold layO;obtain ⟨h1,h2,h3⟩:=layO_at (a0:=a0) (l:=l) ks os (i+1) (a.put o.dst (k.val (l i))) s (by simpa using hl) (fun x o ho=>h (x+1) o (by simpa using ho));have h0:=h 0 o sm;cases hd:o.dst with
  |none=>rw[hd] at h1 h2 h3;exact ⟨h1,h2,h3⟩
  |some d=>
   rw[hd] at h1 h2 h3 h0;refine ⟨h1.trans ?_,h2.trans (by simp[Act.put]),h3⟩;simp only[Act.put];rw[Array.getElem?_setIfInBounds_ne (fun e=>h0 (by rw[e]))]
theorem layO_sz {l:Nat->Value}:∀(ks:List Out) (os:List Oper) (i:Nat) (a:Act),(layO a l ks os i).tmps.size=a.tmps.size/\(layO a l ks os i).defers=a.defers
 |[],os,_,_=>by unfold layO;exact ⟨rfl,rfl⟩
 |k::ks,[],_,_=>by unfold layO;exact ⟨rfl,rfl⟩
 |k::ks,o::os,i,a=>by
  unfold layO;obtain ⟨h2,h3⟩:=layO_sz (l:=l) ks os (i+1) (a.put o.dst (k.val (l i)));refine ⟨h2.trans ?_,h3.trans ?_⟩<;>cases o.dst<;>simp[Act.put]
theorem layO_new {l:Nat->Value}:∀(ks:List Out) (os:List Oper) (i:Nat) (a:Act) (x:Nat) (o:Oper) (k:Out) (d:Tmp),ks.length=os.length->ks[x]?=some k->os[x]?=some o->o.dst=some d->d<a.tmps.size->(∀ (y:Nat) (o':Oper),y≠x->os[y]?=some o'->o'.dst≠some d)->
 (layO a l ks os i).tmps[d]?=some (k.val (l (i+x)))
 |[],_,_,_,x,_,_,_,_,hk,_,_,_,_=>by simp at hk
 |_::_,[],_,_,x,_,_,_,_,_,ho,_,_,_=>by simp at ho
 |k0::ks,o0::os,i,a,0,o,k,d,hl,hk,ho,hd,hlt,hne=>by
  simp only[List.getElem?_cons_zero,Option.some.injEq] at hk ho;subst hk ho;unfold layO;rw[(layO_at (a0:=a) ks os (i+1) _ d (by simpa using hl) (fun x o ho=>hne (x+1) o om (by simpa using ho))).1,hd];simp only[Act.put,Nat.add_zero];rw[Array.getElem?_setIfInBounds_self_of_lt hlt]
 |k0::ks,o0::os,i,a,x+1,o,k,d,hl,hk,ho,hd,hlt,hne=>by
  unfold layO;have:=layO_new (l:=l) ks os (i+1) (a.put o0.dst (k0.val (l i))) x o k d (by simpa using hl) (by simpa using hk) (by simpa using ho) hd (by cases o0.dst<;>simp[Act.put,hlt]) (fun y o' hy ho'=>hne (y+1) o' om (by simpa using ho'));rw[this,show i+1+x=i+(x+1) by omega]
theorem InO.step {Ks:List Out} {a0:Act} {l:Nat->Value} {i:Nat} {k:Out} {v:Value} (h:InO S Ks ops a0 L l a w) (hst:∀w w',S w->R w w'->S w') (hkp:∀k∈Ks,k.keeps R)
 (hc:∀i o,ops[i]?=some o->∀k,Ks[i]?=some k->ChkO ops a0.tmps.size i k.js o) (hlen:Ks.length=ops.size) (ho:ops[i]?=some o) (hk:Ks[i]?=some k) (hn:didO L i=false) (hd:∀j∈depsOf o,didO L j=true) (hb:R w w') (hv:k.ok l w' v):
 InO S Ks ops a0 (L.setIfInBounds i true) (updO l i v) (a.put o.dst v) w':=by
 have hlt:i<ops.size:=(gA_ ho).1;have hset:∀j,didO (L.setIfInBounds i true) j=(decide (j=i)||didO L j):=fun j=>didO_set (by rw[h.ls];exact hlt)
 have hme:didO (L.setIfInBounds i true) i=true:=by rw[hset];simp
 have hdi:dstOf ops i=o.dst:=by unfold dstOf;rw[ho];rfl
 have hold:∀j,j≠i->didO (L.setIfInBounds i true) j=true->didO L j=true:=fun j hj h2=>by rw[hset] at h2;simpa [hj] using h2
 have ci:=hc i o ho k hk;refine ⟨by simpa using h.ls,⟨put_defers.trans h.fr.df,put_size.trans h.fr.sz,fun s hs=>?_,fun j d hj hjd=>?_⟩,hst _ _ h.inv hb,fun j hj kj hkj=>?_,fun j oj hj hoj x hx=>?_⟩
 ·rw[put_at (by rw[<- hdi];exact hs i hme)];exact h.fr.old s fun j hj=>hs j (by rw[hset,hj];simp)
 ·by_cases e:j=i
  ·subst e;rw[hdi] at hjd;rw[hjd,updO_self];exact put_self (by rw[h.fr.sz];exact (ci.dst d hjd).1)
  ·rw[put_at (fun q=>(ci.dst d q).2 j e hjd),updO_ne e];exact h.fr.new j d (hold j e hj) hjd
 ·by_cases e:j=i
  ·subst e;rw[hk] at hkj;cases hkj
   rw[updO_self];cases k with
   |eq u=>exact hv
   |rel p=>exact hv
   |rell js p=>
    show p (js.map _) w' v;rw[List.map_congr_left fun x hx=>updO_ne (l:=l) (v:=v) (fun q=>by have:=hd x (ci.js x hx);rw[q,hn] at this;cases this)];exact hv
   |fn js F=>
    show v=F (js.map _);rw[List.map_congr_left fun x hx=>updO_ne (l:=l) (v:=v) (fun q=>by have:=hd x (ci.js x hx);rw[q,hn] at this;cases this)];exact hv
  ·rw[updO_ne e];have hokj:=h.ok j (hold j e hj) kj hkj;cases kj with
   |eq u=>exact hokj
   |rel p=>exact hkp _ (gM_ hkj) w w' _ hokj hb
   |rell js p=>
    show p (js.map _) w' (l j);have hjl:j<ops.size:=by rw[<- hlen];exact (gL_ hkj).1
    have cj:=hc j _ (Array.getElem?_eq_getElem hjl) _ hkj;rw[List.map_congr_left fun x hx=>updO_ne (l:=l) (v:=v) (fun q=>by have:=h.dp j _ (hold j e hj) (Array.getElem?_eq_getElem hjl) x (cj.js x hx);rw[q,hn] at this;cases this)];exact hkp _ (gM_ hkj) _ w w' _ hokj hb
   |fn js F=>
    show l j=F (js.map _);have hjl:j<ops.size:=by rw[<- hlen];exact (gL_ hkj).1
    have cj:=hc j _ (Array.getElem?_eq_getElem hjl) _ hkj;rw[List.map_congr_left fun x hx=>updO_ne (l:=l) (v:=v) (fun q=>by have:=h.dp j _ (hold j e hj) (Array.getElem?_eq_getElem hjl) x (cj.js x hx);rw[q,hn] at this;cases this)];exact hokj
 ·by_cases e:j=i
  ·subst e;rw[ho] at hoj;cases hoj
   rw[hset,hd x hx];simp
  ·rw[hset,h.dp j oj (hold j e hj) hoj x hx];simp
theorem region_out (hR:∀w,R w w) {a0:Act} (hm:P.follows .mixedOrders=true) (Ks:List Out) (S:World->Prop)
 (hst:∀w w',S w->R w w'->S w') (hkp:∀k∈Ks,k.keeps R) (hchk:chkAll ops a0.tmps.size (Ks.map Out.js)=true) (h0:S w.drew)
 (hstep:∀(i:Nat) (o:Oper) (k:Out),ops[i]?=some o->Ks[i]?=some k->∀(a:Act) (w:World) (l:Nat->Value),AtO S Ks ops a0 o a w l->OutStep R P ops Q o k l a w)
 (hend:∀(l:Nat->Value) (w:World),S w->(∀ (i:Nat) (k:Out),Ks[i]?=some k->k.ok l w (l i))->Q .normal (layO a0 l Ks ops.toList 0) w):(Code.region id ops true).wp P Q a0 w:=by
 have hlen:Ks.length=ops.size:=by
  unfold chkAll at hchk;rw[Bool.and_eq_true,decide_eq_true_eq,List.length_map] at hchk;exact hchk.1
 have hc:∀i o,ops[i]?=some o->∀k,Ks[i]?=some k->ChkO ops a0.tmps.size i k.js o:=fun i o ho k hk=>by
  have:=chk_at hchk ho;rw[List.getD_eq_getElem?_getD,List.getElem?_map,hk] at this;exact ChkO.of this
 have hget:∀i o,ops[i]?=some o->∃k,Ks[i]?=some k:=fun i o ho=>⟨_,gE_ (by rw[hlen];exact (gA_ ho).1)⟩
 refine wp_region_invO hm (fun L a w=>∃l,InO S Ks ops a0 L l a w) ?_ ?_ ?_ ?_
 ·refine ⟨fun _=>undef,by simp,⟨rfl,rfl,fun _ _=>rfl,fun j d hj=>?_⟩,h0,fun i hi=>?_,fun i o hi=>?_⟩
  ·rw[didO_none] at hj;cases hj
  ·rw[didO_none] at hi;cases hi
  ·rw[didO_none] at hi;cases hi
 ·rintro L a w i hL hi hn hd ⟨l,hI⟩;have ho:=Array.getElem?_eq_getElem hi;obtain ⟨k,hk⟩:=hget i _ ho;have ci:=hc i _ ho k hk;have hd':∀j∈depsOf ops[i],didO L j=true:=fun j hj=>by
   unfold depsOf at hj;rw[List.mem_map] at hj;obtain ⟨e,he,rfl⟩:=hj;rw[List.mem_filter] at he;exact hd _ ho e (by simpa using he.1) he.2
  have hat:AtO S Ks ops a0 ops[i] a w l:=by
   refine ⟨hI.inv,fun t ht=>eval_of (hI.fr.old t fun j _ e=>?_),fun j hj d hjd=>eval_some (hI.fr.new j d (hd' j (by simpa using hj)) hjd),fun j hj kj hkj=>hI.ok j (hd' j (by simpa using hj)) kj hkj,fun g b hg=>?_⟩
   ·unfold writes at ht;rw[List.any_eq_false] at ht;unfold dstOf at e;cases q:ops[j]? with
    |none=>rw[q] at e;cases e
    |some o'=>
     rw[q] at e;have:=ht o' (by rw[Array.mem_toList_iff];exact Array.mem_of_getElem? q);rw[beq_iff_eq] at this;exact this e
   ·obtain ⟨h1,d,h2⟩:=ci.guard g b hg;have:=hI.fr.new g d (hd' g h1) h2;unfold yielded;have e2:(ops[g]?).bind (·.dst)=some d:=h2;rw[e2];simp only[Option.bind_some,this];cases l g<;>rfl
  have hs:=hstep i _ k ho hk a w l hat;refine wpOp_step ho fun K hK=>?_
  unfold OutStep at hs;split
  ·rename_i hw;rw[if_pos hw] at hs;exact hs K fun v w' hb hv=>hK _ _ ⟨_,hI.step hst hkp hc hlen ho hk hn hd' hb hv⟩
  ·rename_i hw;rw[if_neg hw] at hs;exact hK _ _ ⟨_,hI.step hst hkp hc hlen ho hk hn hd' (hR _) hs⟩
 ·intro i o ho e he hb;obtain ⟨k,hk⟩:=hget i o ho;exact (hc i o ho k hk).back e.on (by unfold depsOf;exact List.mem_map.2 ⟨e,List.mem_filter.2 ⟨by simpa using he,hb⟩,rfl⟩)
 ·rintro L a w hall ⟨l,hI⟩;have hok:∀(i:Nat) (k:Out),Ks[i]?=some k->k.ok l w (l i):=fun i k hk=>hI.ok i (hall i (by rw[<- hlen];exact (gL_ hk).1)) k hk
  have hlen2:Ks.length=ops.toList.length:=by simpa using hlen
  have e:a=layO a0 l Ks ops.toList 0:=by
   obtain ⟨s1,s2⟩:=layO_sz (l:=l) Ks ops.toList 0 a0;have ht:a.tmps=(layO a0 l Ks ops.toList 0).tmps:=by
    refine Array.ext_getElem? fun s=>?_
    by_cases hw:∃j,j<ops.size/\dstOf ops j=some s
    ·obtain ⟨j,hj,hjd⟩:=hw;have ho:=Array.getElem?_eq_getElem hj;obtain ⟨k,hk⟩:=hget j _ ho;have hd:(ops[j]).dst=some s:=by unfold dstOf at hjd;rw[ho] at hjd;exact hjd
     have cj:=hc j _ ho k hk;rw[hI.fr.new j s (hall j hj) hjd,layO_new Ks ops.toList 0 a0 j ops[j] k s hlen2 hk sm hd (cj.dst s hd).1 (fun y o' hy ho' e=>(cj.dst s hd).2 y hy (by
      unfold dstOf;have:ops[y]?=some o':=by simpa using ho'
      rw[this];exact e)),Nat.zero_add]
     have:=hok j k hk;cases k with
     |eq u=>have h2:l j=u:=this;rw[h2];rfl
     |rel p=>rfl
     |rell js p=>rfl
     |fn js F=>rfl
    ·rw[hI.fr.old s fun j hj e=>hw ⟨j,by
      unfold dstOf at e;cases q:ops[j]? with
      |none=>rw[q] at e;cases e
      |some o'=>exact (gA_ q).1,e⟩]
     rw[(layO_at (a0:=a0) Ks ops.toList 0 a0 s hlen2 fun x o ho e=>hw ⟨x,by
      have:ops[x]?=some o:=by simpa using ho
      exact ⟨(gA_ this).1,by unfold dstOf;rw[this];exact e⟩⟩).1]
   obtain ⟨t,df⟩:=a;have hdf:df=a0.defers:=hI.fr.df;generalize hX:layO a0 l Ks ops.toList 0=X at*;obtain ⟨t2,df2⟩:=X;simp only at ht s2;rw[ht,hdf,s2]
  rw[e];exact hend l w hI.inv hok
def StepsO (R:World->World->Prop) (P:Program) (ops:Array Oper) (Q:Exit->Act->World->Prop) (S:World->Prop) (a0:Act):List Oper->List Out->(List Out->Prop)->Prop
 |[],Rs,fin=>fin Rs.reverse
 |o::rest,Rs,fin=>∃k:Out,k.keeps R/\k.js.all (fun j=>(depsOf o).contains j)=true/\(∀ (a:Act) (w:World) (l:Nat->Value),AtO S Rs.reverse ops a0 o a w l->OutStep R P ops Q o k l a w)/\StepsO R P ops Q S a0 rest (k::Rs) fin
theorem stepsO_full {a0:Act} {fin:List Out->Prop}:∀(todo:List Oper) (Rs:List Out),(∀ k∈Rs,k.keeps R)->StepsO R P ops Q S a0 todo Rs fin->
 ∃Kf:List Out,Kf.take Rs.length=Rs.reverse/\Kf.length=Rs.length+todo.length/\fin Kf/\(∀ k∈Kf,k.keeps R)/\∀(x:Nat) (o:Oper) (k:Out),todo[x]?=some o->Kf[Rs.length+x]?=some k->k.js.all (fun j=>(depsOf o).contains j)=true/\∀(a:Act) (w:World) (l:Nat->Value),AtO S (Kf.take (Rs.length+x)) ops a0 o a w l->OutStep R P ops Q o k l a w
 |[],Rs,hk,h=>⟨Rs.reverse,by rw[List.take_of_length_le sm],by simp,h,(fun k hk2=>hk k (List.mem_reverse.1 hk2)),fun x o k ho=>by simp at ho⟩
 |o::rest,Rs,hk,h=>by
  obtain ⟨k,h1,h2,h3,h4⟩:=h;obtain ⟨Kf,q1,q2,q3,q4,q5⟩:=stepsO_full rest (k::Rs) (fun x hx=>by
   rw[List.mem_cons] at hx;rcases hx with rfl|hx
   ·exact h1
   ·exact hk x hx) h4
  rw[List.length_cons] at q1 q2 q5;rw[List.reverse_cons] at q1;have hrl:Rs.reverse.length=Rs.length:=by simp
  have q6:Kf.take Rs.length=Rs.reverse:=by
   have:=congrArg (List.take Rs.length) q1;rw[List.take_take,Nat.min_eq_left om,List.take_left' hrl] at this;exact this
  have q7:Kf[Rs.length]?=some k:=by
   have:(Kf.take (Rs.length+1))[Rs.length]?=(Rs.reverse++[k])[Rs.length]?:=by rw[q1]
   rw[List.getElem?_take_of_lt om,List.getElem?_append_right om] at this;simpa using this
  refine ⟨Kf,q6,by rw[q2,List.length_cons];omega,q3,q4,fun x o' k' ho hk'=>?_⟩;cases x with
  |zero=>
   have ho2:o=o':=by simpa using ho
   subst ho2;rw[Nat.add_zero,q7] at hk';cases hk';rw[Nat.add_zero,q6];exact ⟨h2,h3⟩
  |succ x=>
   have:=q5 x o' k' (by simpa using ho) (by rw[show Rs.length+1+x=Rs.length+(x+1) by omega];exact hk');rw[show Rs.length+1+x=Rs.length+(x+1) by omega] at this;exact this
theorem chkO_js {i:Nat} {js:List Nat} (h:chkO ops N i [] o=true) (hj:js.all (fun j=>(depsOf o).contains j)=true):chkO ops N i js o=true:=by
 unfold chkO at h⊢;simp only[Bool.and_eq_true] at h⊢;obtain ⟨⟨⟨⟨⟨h1,-⟩,h3⟩,h4⟩,h5⟩,h6⟩:=h;exact ⟨⟨⟨⟨⟨h1,hj⟩,h3⟩,h4⟩,h5⟩,h6⟩
theorem region_outR (R:World->World->Prop) (hR:∀w,R w w) {a0:Act} (hm:P.follows .mixedOrders=true) (S:World->Prop)
 (hst:∀w w',S w->R w w'->S w') (hchk:chkAll os.toArray a0.tmps.size (os.map fun _=>[])=true) (h0:S w.drew)
 (hsteps:StepsO R P os.toArray Q S a0 os [] fun Ks=>∀(l:Nat->Value) (w:World),S w->(∀ (i:Nat) (k:Out),Ks[i]?=some k->k.ok l w (l i))->Q .normal (layO a0 l Ks os 0) w):(Code.region id os.toArray true).wp P Q a0 w:=by
 obtain ⟨Kf,-,h2,h3,h4,h5⟩:=stepsO_full os [] (fun k hk=>by cases hk) hsteps;rw[List.length_nil,Nat.zero_add] at h2;refine region_out hR hm Kf S hst (fun k hk=>h4 k hk) ?_ h0 (fun i o k ho hk a w l hat=>?_) (by simpa using h3)
 ·unfold chkAll at hchk⊢;simp only[Bool.and_eq_true,decide_eq_true_eq,List.length_map,List.size_toArray,List.all_eq_true,List.mem_range] at hchk⊢;refine ⟨h2,fun i hi=>?_⟩;have hc:=hchk.2 i hi;have ho:os[i]?=some os[i]:=gE_ hi;have hk:Kf[i]?=some (Kf[i]'(by rw[h2];exact hi)):=gE_ _;have hj:=(h5 i _ _ ho (by rw[List.length_nil,Nat.zero_add];exact hk)).1;simp only[List.getElem?_toArray,ho,List.getD_eq_getElem?_getD,List.getElem?_map,hk,Option.map_some,Option.getD_some] at hc⊢;exact chkO_js hc hj
 ·have:=(h5 i o k (by simpa using ho) (by simpa using hk)).2 a w l;rw[List.length_nil,Nat.zero_add] at this;exact this ⟨hat.inv,hat.old,hat.dep,fun j hj k' hk'=>hat.ok j hj k' (by
   rw[List.getElem?_take] at hk';split at hk'
   ·exact hk'
   ·cases hk'),hat.yield⟩
section
variable {P:Program} {ops:Array Oper} {Q:Exit->Act->World->Prop} {o:Oper} {k:Out} {l:Nat->Value} {a:Act} {w w':World} {S:World->Prop} {Ks:List Out} {a0:Act} {R:World->World->Prop}
theorem rev_at {Rs:List Out} {j m:Nat} {k:Out} (hm:Rs.length=m+1+j) (hk:Rs[m]?=some k):Rs.reverse[j]?=some k:=by
 rw[List.getElem?_reverse om, <-hk];congr 1;omega
theorem AtO.get (h:AtO S Ks.reverse ops a0 o a w l) (j m:Nat) {v:Value} (hj:(depsOf o).contains j=true) (hd:dstOf ops j=some d) (hm:Ks.length=m+1+j) (hk:Ks[m]?=some (.eq v)):a.eval (.tmp d)=v:=
 (h.dep j hj d hd).trans (h.ok j hj _ (rev_at hm hk))
theorem AtO.got (h:AtO S Ks.reverse ops a0 o a w l) (j m:Nat) {p:World->Value->Prop} (hj:(depsOf o).contains j=true) (hd:dstOf ops j=some d) (hm:Ks.length=m+1+j) (hk:Ks[m]?=some (.rel p)):∃v,a.eval (.tmp d)=v/\l j=v/\p w v:=
 ⟨_,h.dep j hj d hd,rfl,h.ok j hj _ (rev_at hm hk)⟩
theorem AtO.gotl (h:AtO S Ks.reverse ops a0 o a w l) (j m:Nat) {js:List Nat} {p:List Value->World->Value->Prop} (hj:(depsOf o).contains j=true) (hm:Ks.length=m+1+j) (hk:Ks[m]?=some (.rell js p)):p (js.map l) w (l j):=
 h.ok j hj _ (rev_at hm hk)
theorem AtO.go (h:AtO S Ks.reverse ops a0 o a w l) (m:Nat) (hg:o.guard=some (g,b)) (hj:(depsOf o).contains g=true) (hm:Ks.length=m+1+g) (hk:Ks[m]?=some (.eq (.bool b))):Region.wanted o (yielded ops a.tmps)=true:=by
 have e:l g= .bool b:=h.ok g hj _ (rev_at hm hk);unfold Region.wanted;rw[hg];simp only[h.yield g b hg,e,beq_self_eq_true]
theorem AtO.stop (h:AtO S Ks.reverse ops a0 o a w l) (m:Nat) {v:Value} (hg:o.guard=some (g,b)) (hj:(depsOf o).contains g=true) (hm:Ks.length=m+1+g) (hk:Ks[m]?=some (.eq v)) (hv:v= .bool (!b)\/v=undef):Region.wanted o (yielded ops a.tmps)=false:=by
 have e:l g=v:=h.ok g hj _ (rev_at hm hk);unfold Region.wanted;rw[hg];simp only[h.yield g b hg,e];rcases hv with rfl|rfl
 ·cases b<;>rfl
 ·rfl
theorem wanted_none (h:o.guard=none):Region.wanted o (yielded ops a.tmps)=true:=by unfold Region.wanted;rw[h]
theorem ex_moveO {v:Value} (h:o.op= .move x\/o.op= .assign x) (hv:ev x=v):(execOp ev o).run P w= .ok (.value v) w:=by
 rcases h with h|h<;>(unfold execOp;rw[h, <-hv];rfl)
theorem out_skip (hw:Region.wanted o (yielded ops a.tmps)=false):OutStep R P ops Q o (.eq undef) l a w:=by
 unfold OutStep;rw[hw];exact rfl
theorem out_val {v:Value} (hw:Region.wanted o (yielded ops a.tmps)=true) (hex:(execOp a.eval o).run P w= .ok (.value v) w) (hR:∀w,R w w:=by first|exact fun _=>Below.refl _ _|exact BR.refl _ _ _ _|exact PR.refl _ _ _ _ _ _ _ _ _|exact RR.refl _ _ _ _ _ _|exact AR.refl _ _ _|exact AR.refl _ _ _ _|exact KR.refl _ _ _ _|exact FW.refl _ _ _ _ _ _ _ _ _ _|exact AQ.refl _ _ _ _ _ _ _ _ _ _ _ _|exact GR.refl _ _|exact ER.refl _ _|exact TR.refl _ _|exact ZR.refl _ _ _):OutStep R P ops Q o (.eq v) l a w:=by
 unfold OutStep;rw[hw];intro K hK;unfold Oper.wp;rw[hex,Oper.upon_value];exact hK v w (hR w) rfl
theorem out_new {v:Value} (hw:Region.wanted o (yielded ops a.tmps)=true) (hex:(execOp a.eval o).run P w= .ok (.value v) w') (hb:R w w') (hk:k.ok l w' v):OutStep R P ops Q o k l a w:=by
 unfold OutStep;rw[hw];intro K hK;unfold Oper.wp;rw[hex,Oper.upon_value];exact hK v w' hb hk
theorem out_store (hw:Region.wanted o (yielded ops a.tmps)=true) (hex:(execOp a.eval o).run P w= .ok .skip w') (hb:R w w') (hk:k.ok l w' undef):OutStep R P ops Q o k l a w:=by
 unfold OutStep;rw[hw];intro K hK;unfold Oper.wp;rw[hex,Oper.upon_skip];exact hK undef w' hb hk
theorem out_call (hw:Region.wanted o (yielded ops a.tmps)=true) (hex:(execOp a.eval o).run P w= .ok (.enter f args) w) (hc:Calls P f args w fun e w'=>∃v,e= .returned v/\k.ok l w' v/\R w w'):OutStep R P ops Q o k l a w:=by
 unfold OutStep;rw[hw];intro K hK;unfold Oper.wp;rw[hex,Oper.upon_enter];refine hc.mono ?_;rintro e w' ⟨v,rfl,h1,h2⟩;exact hK v w' h2 h1
theorem out_call_eq {v:Value} (hw:Region.wanted o (yielded ops a.tmps)=true) (hex:(execOp a.eval o).run P w= .ok (.enter f args) w) (hc:Calls P f args w fun e w'=>e= .returned v/\R w w'):OutStep R P ops Q o (.eq v) l a w:=
 out_call hw hex (hc.mono fun _e _w' h=>⟨v,h.1,rfl,h.2⟩)
theorem stq {Rs:List Out} {fin:List Out->Prop} (v:Value) (h:∀(a:Act) (w:World) (l:Nat->Value),AtO S Rs.reverse ops a0 o a w l->OutStep R P ops Q o (.eq v) l a w) (hr:StepsO R P ops Q S a0 rest (.eq v::Rs) fin):StepsO R P ops Q S a0 (o::rest) Rs fin:=⟨.eq v,trivial,rfl,h,hr⟩
theorem stk {Rs:List Out} {fin:List Out->Prop} (m:Nat) (hr:StepsO R P ops Q S a0 rest (.eq undef::Rs) fin) {v:Value} (hg:o.guard=some (g,b):=by exact rfl) (hj:(depsOf o).contains g=true:=by kernel_rfl) (hm:Rs.length=m+1+g:=by exact rfl) (hk:Rs[m]?=some (.eq v):=by exact rfl) (hv:v= .bool (!b)\/v=undef:=by exact .inl rfl):StepsO R P ops Q S a0 (o::rest) Rs fin:=stq undef (fun _ _ _ hh=>out_skip (hh.stop m hg hj hm hk hv)) hr
theorem AtO.gt (h:AtO S Ks.reverse ops a0 o a w l) (j m:Nat) {v:Value} (hj:(depsOf o).contains j=true:=by kernel_rfl) (hd:dstOf ops j=some d:=by exact rfl) (hm:Ks.length=m+1+j:=by exact rfl) (hk:Ks[m]?=some (.eq v):=by exact rfl):a.eval (.tmp d)=v:=h.get j m hj hd hm hk
theorem AtO.ol (h:AtO S Ks ops ⟨tm.toArray,df⟩ o a w l) (t:Tmp) {v:Value} (hw:writes ops t=false:=by kernel_rfl) (hv:nthO tm t=v:=by exact rfl):a.eval (.tmp t)=v:=(h.old t hw).trans (evalO hv)
theorem ov {v:Value} (hex:(execOp a.eval o).run P w= .ok (.value v) w) (hg:o.guard=none:=by exact rfl) (hR:∀w,R w w:=by first|exact fun _=>Below.refl _ _|exact BR.refl _ _ _ _|exact PR.refl _ _ _ _ _ _ _ _ _|exact RR.refl _ _ _ _ _ _|exact AR.refl _ _ _|exact AR.refl _ _ _ _|exact KR.refl _ _ _ _|exact FW.refl _ _ _ _ _ _ _ _ _ _|exact AQ.refl _ _ _ _ _ _ _ _ _ _ _ _|exact GR.refl _ _|exact ER.refl _ _|exact TR.refl _ _|exact ZR.refl _ _ _):OutStep R P ops Q o (.eq v) l a w:=out_val (wanted_none hg) hex hR
theorem AtO.og (h:AtO S Ks.reverse ops a0 o a w l) (m:Nat) {v:Value} (hex:(execOp a.eval o).run P w= .ok (.value v) w) (hg:o.guard=some (g,b):=by exact rfl) (hj:(depsOf o).contains g=true:=by kernel_rfl) (hm:Ks.length=m+1+g:=by exact rfl) (hk:Ks[m]?=some (.eq (.bool b)):=by exact rfl) (hR:∀w,R w w:=by first|exact fun _=>Below.refl _ _|exact BR.refl _ _ _ _|exact PR.refl _ _ _ _ _ _ _ _ _|exact RR.refl _ _ _ _ _ _|exact AR.refl _ _ _|exact AR.refl _ _ _ _|exact KR.refl _ _ _ _|exact FW.refl _ _ _ _ _ _ _ _ _ _|exact AQ.refl _ _ _ _ _ _ _ _ _ _ _ _|exact GR.refl _ _|exact ER.refl _ _|exact TR.refl _ _|exact ZR.refl _ _ _):OutStep R P ops Q o (.eq v) l a w:=out_val (h.go m hg hj hm hk) hex hR
theorem stm {Rs:List Out} {fin:List Out->Prop} {v:Value} (j m:Nat) (hr:StepsO R P ops Q S a0 rest (.eq v::Rs) fin) (hj:(depsOf o).contains j=true:=by kernel_rfl) (hd:dstOf ops j=some d:=by exact rfl) (hm:Rs.length=m+1+j:=by exact rfl) (hk:Rs[m]?=some (.eq v):=by exact rfl) (hop:o.op= .move (.tmp d)\/o.op= .assign (.tmp d):=by first|exact .inl rfl|exact .inr rfl) (hg:o.guard=none:=by exact rfl) (hR:∀w,R w w:=by first|exact fun _=>Below.refl _ _|exact BR.refl _ _ _ _|exact PR.refl _ _ _ _ _ _ _ _ _|exact RR.refl _ _ _ _ _ _|exact AR.refl _ _ _|exact AR.refl _ _ _ _|exact KR.refl _ _ _ _|exact FW.refl _ _ _ _ _ _ _ _ _ _|exact AQ.refl _ _ _ _ _ _ _ _ _ _ _ _|exact GR.refl _ _|exact ER.refl _ _|exact TR.refl _ _|exact ZR.refl _ _ _):StepsO R P ops Q S a0 (o::rest) Rs fin:=stq v (fun _ _ _ hh=>out_val (wanted_none hg) (ex_moveO hop (hh.get j m hj hd hm hk)) hR) hr
theorem stn {Rs:List Out} {fin:List Out->Prop} {v:Value} (n:Nat) (j m:Nat) (hr:StepsO R P ops Q S a0 rest (.eq v::Rs) fin) (hj:(depsOf o).contains j=true:=by kernel_rfl) (hd:dstOf ops j=some d:=by exact rfl) (hm:Rs.length=m+1+j:=by exact rfl) (hk:Rs[m]?=some (.eq v):=by exact rfl) (hop:o.op= .move (.tmp d)\/o.op= .assign (.tmp d):=by first|exact .inl rfl|exact .inr rfl) (hg:o.guard=some (g,b):=by exact rfl) (hj2:(depsOf o).contains g=true:=by kernel_rfl) (hm2:Rs.length=n+1+g:=by exact rfl) (hk2:Rs[n]?=some (.eq (.bool b)):=by exact rfl) (hR:∀w,R w w:=by first|exact fun _=>Below.refl _ _|exact BR.refl _ _ _ _|exact PR.refl _ _ _ _ _ _ _ _ _|exact RR.refl _ _ _ _ _ _|exact AR.refl _ _ _|exact AR.refl _ _ _ _|exact KR.refl _ _ _ _|exact FW.refl _ _ _ _ _ _ _ _ _ _|exact AQ.refl _ _ _ _ _ _ _ _ _ _ _ _|exact GR.refl _ _|exact ER.refl _ _|exact TR.refl _ _|exact ZR.refl _ _ _):StepsO R P ops Q S a0 (o::rest) Rs fin:=stq v (fun _ _ _ hh=>out_val (hh.go n hg hj2 hm2 hk2) (ex_moveO hop (hh.get j m hj hd hm hk)) hR) hr
theorem AtO.oL (h:AtO S Ks ops ⟨tm.toArray,df⟩ o a w l) (t:Tmp) {v:Value} (hv:nthO tm t=v:=by simp only[nthO];rfl) (hw:writes ops t=false:=by kernel_rfl):a.eval (.tmp t)=v:=(h.old t hw).trans (evalO hv)
theorem xmv {v:Value} (hv:ev x=v) (h:o.op= .move x\/o.op= .assign x:=by first|exact .inl rfl|exact .inr rfl):(execOp ev o).run P w= .ok (.value v) w:=ex_moveO h hv
theorem evc (a:Act):∀v,a.eval (.const v)=v:=fun _=>rfl
theorem evf (a:Act):∀f,a.eval (.func f)= .func (.func f) #[] #[]:=fun _=>rfl
theorem roB (W:World) (h:StepsO (fun w w'=>Bl w w') P os.toArray Q (fun Wk=>Bl W Wk) a0 os [] fun Ks=>∀(l:Nat->Value) (w:World),Bl W w->(∀ (i:Nat) (k:Out),Ks[i]?=some k->k.ok l w (l i))->Q .normal (layO a0 l Ks os 0) w) (hm:P.follows .mixedOrders=true:=by kernel_rfl) (hc:chkAll os.toArray a0.tmps.size (os.map fun _=>[])=true:=by kernel_rfl):(Code.region id os.toArray true).wp P Q a0 W:=region_outR _ (fun _=>Below.refl _ _) hm _ (fun _ _ h1 h2=>h1.trans (h2.mono h1.size)) hc (Below.drew br) h
end
theorem gX {P:Prop} (h:P:=by
 try clear hh
 generalize aa.eval=ev at*;go_simp
 try rfl):P:=h
theorem fC {Q P : Prop} (hz : Q) (h : Q → P := by
  try clear hh
  intro hz
  generalize aa.eval = ev at *
  go_simp
  try rfl) : P := h hz
theorem ly:(∀ (a:List Out) x,(x::a).reverse=a.reverse++[x])/\([]:List Out).reverse=[]/\(∀ (a:List Out),[]++a=a)/\(∀ (a b:List Out) x,(x::a)++b=x::(a++b))/\(∀ a l k ks (o:Oper) os i,layO a l (k::ks) (o::os) i=layO (a.put o.dst (k.val (l i))) l ks os (i+1))/\(∀ a l os i,layO a l [] os i=a)/\(∀ x v,Out.val x (.eq v)=v)/\(∀ x p,Out.val x (.rel p)=x)/\(∀ x js p,Out.val x (.rell js p)=x)/\(∀ x js F,Out.val x (.fn js F)=x)/\(∀ (a:Act) v,a.put none v=a)/\(∀ (a:Act) d v,a.put (some d) v={ a with tmps:=a.tmps.setIfInBounds d v })/\(∀ (l:List Value) i v,l.toArray.setIfInBounds i v=(l.set i v).toArray)/\(∀ (l:List Value) x v,(x::l).set 0 v=v::l)/\∀(l:List Value) x i v,(x::l).set (i+1) v=x::l.set i v:=by
 refine ⟨fun _ _=>List.reverse_cons,rfl,fun _=>rfl,fun _ _ _=>rfl,?_,?_,fun _ _=>rfl,fun _ _=>rfl,fun _ _ _=>rfl,fun _ _ _=>rfl,fun _ _=>rfl,fun _ _ _=>rfl,fun _ _ _=>by simp,fun _ _ _=>rfl,fun _ _ _ _=>rfl⟩
 ·intro a l k ks o os i;conv=>lhs;unfold layO
 ·intro a l os i;unfold layO;rfl
theorem sq {a0:Act} {Rs:List Out} {fin:List Out->Prop} {v:Value} (h:∀(a:Act) (w:World) (l:Nat->Value),AtO S Rs.reverse ops a0 o a w l->OutStep R P ops Q o (.eq v) l a w) (hr:StepsO R P ops Q S a0 rest (.eq v::Rs) fin):StepsO R P ops Q S a0 (o::rest) Rs fin:=stq v h hr
open Go.RowKit
theorem IRow.el {p:Option Addr} {n c:Nat} {l:List Int} (h:IRow w (.slice p n c) l) {j:Nat} (hj:j<l.length):∃b o,p=some ⟨b,o,none⟩/\b<w.heap.size/\w.cell? ⟨b,o+j,none⟩=some (.int .i64 (l.getD j 0)):=by
 obtain ⟨b,o,e,h1,h2⟩:=h.get (some_getD 0 hj);rw[Nat.mul_one] at h2;exact ⟨b,o,e,h1,h2⟩
open Go.RowKit
structure Ed where
 sw:Int
 port:Int
 deriving DecidableEq
structure Lnk where
 a:Ed
 b:Ed
structure Net where
 sws:List ByteArray
 ports:List (List Int)
 links:List Lnk
def EdV (e:Ed):Value:= .agg #[.int .i64 e.sw, .int .i64 e.port]
def LAt (w:World) (b o:Nat) (l:Lnk):Prop:=
 w.cell? ⟨b,o,none⟩=some (.int .i64 l.a.sw)/\w.cell? ⟨b,o+1,none⟩=some (.int .i64 l.a.port)/\w.cell? ⟨b,o+2,none⟩=some (.int .i64 l.b.sw)/\w.cell? ⟨b,o+3,none⟩=some (.int .i64 l.b.port)
theorem keepL:KeepAt LAt:=fun _w _w' b o _n hb hlt ⟨h1,h2,h3,h4⟩=>
 ⟨(hb.cell (p:=⟨b,o,none⟩) hlt).trans h1,(hb.cell (p:=⟨b,o+1,none⟩) hlt).trans h2,(hb.cell (p:=⟨b,o+2,none⟩) hlt).trans h3,(hb.cell (p:=⟨b,o+3,none⟩) hlt).trans h4⟩
abbrev LRow:=RowAt 4 LAt
structure NtS where
 sp:Option Addr
 sn:Nat
 sc:Nat
 pp:Option Addr
 pn:Nat
 pc:Nat
 lp:Option Addr
 ln:Nat
 lc:Nat
def ntV (s:NtS):Value:= .agg #[.slice s.sp s.sn s.sc, .slice s.pp s.pn s.pc, .slice s.lp s.ln s.lc]
structure NtOk (w:World) (s:NtS) (n:Net):Prop where
 sws:StRow w (.slice s.sp s.sn s.sc) n.sws
 ports:IsRow w (.slice s.pp s.pn s.pc) n.ports
 links:LRow w (.slice s.lp s.ln s.lc) n.links
theorem NtOk.below {s:NtS} {n:Net} (h:NtOk w s n) (hb:Bl w w'):NtOk w' s n:=
 ⟨h.sws.below keepS hb,h.ports.below keepIs hb,h.links.below keepL hb⟩
def ntThere (n:Net) (e:Ed):Bool:=decide (0<=e.sw/\e.sw<(n.ports.length:Int))&&(n.ports.getD e.sw.toNat []).contains e.port
def linkP (e:Ed):List Lnk->Option Ed
 |[]=>none
 |l::r=>if l.a=e then some l.b else if l.b=e then some l.a else linkP e r
def nextT (n:Net) (e:Ed):Ed×Bool×Bool:=
 if ntThere n e then (match linkP e n.links with|some x=>(x,true,true)|none=>(⟨0,0⟩,true,false)) else (⟨0,0⟩,false,false)
theorem contains_drop {l:List Int} {x:Int} {k:Nat} (h:k<l.length) (hn:l[k]?.getD 0≠x):(l.drop k).contains x=(l.drop (k+1)).contains x:=by
 rw[List.drop_eq_getElem_cons h,List.contains_cons];rw[gE_ h,Option.getD_some] at hn;have:(x==l[k])=false:=by simp;exact fun e=>hn e.symm
 rw[this,Bool.false_or]
theorem contains_here {l:List Int} {x:Int} {k:Nat} (h:k<l.length) (hn:l[k]?.getD 0=x):(l.drop k).contains x=true:=by
 rw[List.drop_eq_getElem_cons h,List.contains_cons];rw[gE_ h,Option.getD_some] at hn;rw[hn];simp
def IxOk (l:List Int) (x i:Int):Prop:=decide (0<=i)=l.contains x
theorem index_int (l:List Int) (p:Option Addr) (n c:Nat) (x:Int) (w:World) (h:IRow w (.slice p n c) l):
 Calls Tryz.prog 121 #[.slice p n c, .int .i64 x] w fun e w'=>∃i:Int,e= .returned (.int .i64 i)/\IxOk l x i/\Bl w w':=by
 have HN:Hd (n=l.length):=h.ln.1;have hmx:n<=9223372036854775807:=by obtain ⟨h1,h2,h3,-⟩:=h.ln;unfold maxLen at h3;omega
 have HC:=hD h;clear h;go_enter Tryz.func121,Tryz.ntmps121;go_wp2_with fail;go_loopw [5,8] (fun u i wr=>∃k:Nat,k<=n/\i= .int .i64 (k:Int)/\Hd (l.contains x=(l.drop k).contains x)/\Hd (Bl w wr)) (fun _ i _=>n-(intOf i).toNat)
 case atStart=>exact ⟨0,zl,rfl,rfl,Below.refl _ _⟩
 case round=>
  obtain ⟨k,hk,rfl,HE,HB⟩:=hrel;by_cases hlt:k<n
  ·have hki:(k:Int)<(n:Int):=om
   obtain ⟨b,o,rfl,hb,y0⟩:=IRow.el (HC.o.below keepI HB.o) (j:=k) (by have:=HN.o;omega);by_cases hx:x=l[k]?.getD 0
   ·have hx':l.getD k 0=x:=by rw[List.getD_eq_getElem?_getD];exact hx.symm
    rw[hx'] at y0;go_wp2_with fail;go_ret;exact ⟨_,rfl,by unfold IxOk;rw[HE.o,contains_here (by have:=HN.o;omega) hx.symm];simp,HB.o⟩
   ·have hx':¬x=l.getD k 0:=by rw[List.getD_eq_getElem?_getD];exact hx
    have HX:=hD hx;clear hx;generalize l.getD k 0=z at*;go_wp2_with fail;go_roundw
    case rel=>exact ⟨k+1,om,by go_num,by show _=_;rw[HE.o,contains_drop (by have:=HN.o;omega) (fun e=>HX.o e.symm)],HB.o⟩
    case measure=>exact mz
  ·obtain rfl:k=n:=om
   have hki:¬(k:Int)<(k:Int):=om
   go_wp2_with fail;go_ret;exact ⟨_,rfl,by unfold IxOk;rw[HE.o,List.drop_eq_nil_of_le (by have:=HN.o;omega)];rfl,HB.o⟩
theorem contains_int (l:List Int) (p:Option Addr) (n c:Nat) (x:Int) (w:World) (h:IRow w (.slice p n c) l):
 Calls Tryz.prog 107 #[.slice p n c, .int .i64 x] w fun e w'=>e= .returned (.bool (l.contains x))/\Bl w w':=by
 have HI:=hD (index_int l p n c x w h);clear h;go_enter Tryz.func107,Tryz.ntmps107;go_wp2_with (go_at_call 121;refine HI.o.mono ?_;rintro e w1 ⟨i,rfl,hi,hb⟩;have HB:=hD hb;have HI1:=hD hi;clear hi hb);go_ret;exact ⟨by have h:=HI1.o;unfold IxOk at h;rw[<- h];rfl,HB.o⟩
end Go.Proofs.YtikilcbpogfgkaaGreat
