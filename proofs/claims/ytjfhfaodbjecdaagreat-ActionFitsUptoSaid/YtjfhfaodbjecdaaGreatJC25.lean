/-
  Lemmas, joined: OutR, Set9, RetT, BegA, GetA, RunQ, ValA, ValB, ValC, RefSlice, RefShr, ValD, ValE, ValF, ValG, RetK.
-/
import Derived.Test.YtjfhfaodbjecdaaGreatJC03
import Derived.Test.YtjfhfaodbjecdaaGreatJC01
import Derived.Test.YtjfhfaodbjecdaaGreatJC02
import Derived.Test.YtjfhfaodbjecdaaGreatJC24
import Derived.BigRegion
import Derived.Test.YtjfhfaodbjecdaaGreatJC21
import Derived.Deep.RegionWith
import Derived.IntWalk
namespace Go.Proofs.YtjfhfaodbjecdaaGreat
namespace OutR
open Go.RowKit
inductive Out
 |eq (v:Value)
 |rel (p:World->Value->Prop)
 |rell (js:List Nat) (p:List Value->World->Value->Prop)
 |fn (js:List Nat) (F:List Value->Value)
def Out.js:Out->List Nat
 | .fn js _=>js
 | .rell js _=>js
 |_=>[]
def Out.ok (l:Nat->Value) (w:World) (v:Value):Out->Prop
 | .eq u=>v=u
 | .rel p=>p w v
 | .rell js p=>p (js.map l) w v
 | .fn js F=>v=F (js.map l)
def Out.val (x:Value):Out->Value
 | .eq v=>v
 |_=>x
def Out.keeps (R:World->World->Prop):Out->Prop
 | .rel p=>∀w w' v,p w v->R w w'->p w' v
 | .rell _ p=>∀xs w w' v,p xs w v->R w w'->p xs w' v
 |_=>True
structure AtO (S:World->Prop) (Ks:List Out) (ops:Array Oper) (a0:Act) (o:Oper) (a:Act) (w:World) (l:Nat->Value):Prop where
 inv:S w
 old:∀t,writes ops t=false->a.eval (.tmp t)=a0.eval (.tmp t)
 dep:∀j,(depsOf o).contains j=true->∀d,dstOf ops j=some d->a.eval (.tmp d)=l j
 ok:∀j,(depsOf o).contains j=true->∀k,Ks[j]?=some k->k.ok l w (l j)
 yield:∀g b,o.guard=some (g,b)->yielded ops a.tmps g=(match l g with| .bool b=>some b|_=>none)
def OutStep (R:World->World->Prop) (P:Program) (ops:Array Oper) (Q:Exit->Act->World->Prop) (o:Oper) (k:Out) (l:Nat->Value) (a:Act) (w:World):Prop:=
 if Region.wanted o (yielded ops a.tmps) then ∀K:Act->World->Prop,(∀ v w',R w w'->k.ok l w' v->K (a.put o.dst v) w')->o.wp P a w K Q else k.ok l w undef
def layO (a0:Act) (l:Nat->Value):List Out->List Oper->Nat->Act
 |k::ks,o::os,i=>layO (a0.put o.dst (k.val (l i))) l ks os (i+1)
 |_,_,_=>a0
structure FrO (ops:Array Oper) (a0:Act) (L:Array Bool) (l:Nat->Value) (a:Act):Prop where
 df:a.defers=a0.defers
 sz:a.tmps.size=a0.tmps.size
 old:∀s,(∀ j,didO L j=true->dstOf ops j≠some s)->a.tmps[s]?=a0.tmps[s]?
 new:∀j d,didO L j=true->dstOf ops j=some d->a.tmps[d]?=some (l j)
structure InO (S:World->Prop) (Ks:List Out) (ops:Array Oper) (a0:Act) (L:Array Bool) (l:Nat->Value) (a:Act) (w:World):Prop where
 ls:L.size=ops.size
 fr:FrO ops a0 L l a
 inv:S w
 ok:∀i,didO L i=true->∀k,Ks[i]?=some k->k.ok l w (l i)
 dp:∀i o,didO L i=true->ops[i]?=some o->∀j∈depsOf o,didO L j=true
theorem layO_at {a0:Act} {l:Nat->Value}:∀(ks:List Out) (os:List Oper) (i:Nat) (a:Act) (s:Tmp),ks.length=os.length->(∀ (x:Nat) (o:Oper),os[x]?=some o->o.dst≠some s)->(layO a l ks os i).tmps[s]?=a.tmps[s]?/\(layO a l ks os i).tmps.size=a.tmps.size/\(layO a l ks os i).defers=a.defers
 |[],os,_,_,_,_,_=>by unfold layO;exact ⟨rfl,rfl,rfl⟩
 |k::ks,[],_,_,_,_,_=>by unfold layO;exact ⟨rfl,rfl,rfl⟩
 |k::ks,o::os,i,a,s,hl,h=>by
  unfold layO;obtain ⟨h1,h2,h3⟩:=layO_at (a0:=a0) (l:=l) ks os (i+1) (a.put o.dst (k.val (l i))) s (by simpa using hl) (fun x o ho=>h (x+1) o (by simpa using ho));have h0:=h 0 o (by simp);cases hd:o.dst with
  |none=>rw[hd] at h1 h2 h3;exact ⟨h1,h2,h3⟩
  |some d=>
   rw[hd] at h1 h2 h3 h0;refine ⟨h1.trans ?_,h2.trans (by simp[Act.put]),h3⟩;simp only[Act.put];rw[Array.getElem?_setIfInBounds_ne (fun e=>h0 (by rw[e]))]
theorem layO_sz {l:Nat->Value}:∀(ks:List Out) (os:List Oper) (i:Nat) (a:Act),(layO a l ks os i).tmps.size=a.tmps.size/\(layO a l ks os i).defers=a.defers
 |[],os,_,_=>by unfold layO;exact ⟨rfl,rfl⟩
 |k::ks,[],_,_=>by unfold layO;exact ⟨rfl,rfl⟩
 |k::ks,o::os,i,a=>by
  unfold layO;obtain ⟨h2,h3⟩:=layO_sz (l:=l) ks os (i+1) (a.put o.dst (k.val (l i)));refine ⟨h2.trans ?_,h3.trans ?_⟩<;>cases o.dst<;>simp[Act.put]
theorem layO_new {l:Nat->Value}:∀(ks:List Out) (os:List Oper) (i:Nat) (a:Act) (x:Nat) (o:Oper) (k:Out) (d:Tmp),ks.length=os.length->ks[x]?=some k->os[x]?=some o->o.dst=some d->d<a.tmps.size->(∀ (y:Nat) (o':Oper),y≠x->os[y]?=some o'->o'.dst≠some d)->
 (layO a l ks os i).tmps[d]?=some (k.val (l (i+x)))
 |[],_,_,_,x,_,_,_,_,hk,_,_,_,_=>by simp at hk
 |_::_,[],_,_,x,_,_,_,_,_,ho,_,_,_=>by simp at ho
 |k0::ks,o0::os,i,a,0,o,k,d,hl,hk,ho,hd,hlt,hne=>by
  simp only[List.getElem?_cons_zero,Option.some.injEq] at hk ho;subst hk ho;unfold layO;rw[(layO_at (a0:=a) ks os (i+1) _ d (by simpa using hl) (fun x o ho=>hne (x+1) o (by omega) (by simpa using ho))).1,hd];simp only[Act.put,Nat.add_zero];rw[Array.getElem?_setIfInBounds_self_of_lt hlt]
 |k0::ks,o0::os,i,a,x+1,o,k,d,hl,hk,ho,hd,hlt,hne=>by
  unfold layO;have:=layO_new (l:=l) ks os (i+1) (a.put o0.dst (k0.val (l i))) x o k d (by simpa using hl) (by simpa using hk) (by simpa using ho) hd (by cases o0.dst<;>simp[Act.put,hlt]) (fun y o' hy ho'=>hne (y+1) o' (by omega) (by simpa using ho'));rw[this,show i+1+x=i+(x+1) by omega]
theorem InO.step {R:World->World->Prop} {S:World->Prop} {Ks:List Out} {ops:Array Oper} {a0 a:Act} {L:Array Bool} {l:Nat->Value} {w w':World} {i:Nat} {o:Oper} {k:Out} {v:Value} (h:InO S Ks ops a0 L l a w) (hst:∀w w',S w->R w w'->S w') (hkp:∀k∈Ks,k.keeps R)
 (hc:∀i o,ops[i]?=some o->∀k,Ks[i]?=some k->ChkO ops a0.tmps.size i k.js o) (hlen:Ks.length=ops.size) (ho:ops[i]?=some o) (hk:Ks[i]?=some k) (hn:didO L i=false) (hd:∀j∈depsOf o,didO L j=true) (hb:R w w') (hv:k.ok l w' v):
 InO S Ks ops a0 (L.setIfInBounds i true) (updO l i v) (a.put o.dst v) w':=by
 have hlt:i<ops.size:=(Array.getElem?_eq_some_iff.1 ho).1;have hset:∀j,didO (L.setIfInBounds i true) j=(decide (j=i)||didO L j):=fun j=>didO_set (by rw[h.ls];exact hlt)
 have hme:didO (L.setIfInBounds i true) i=true:=by rw[hset];simp
 have hdi:dstOf ops i=o.dst:=by unfold dstOf;rw[ho];rfl
 have hold:∀j,j≠i->didO (L.setIfInBounds i true) j=true->didO L j=true:=fun j hj h2=>by rw[hset] at h2;simpa [hj] using h2
 have ci:=hc i o ho k hk;refine ⟨by simpa using h.ls,⟨put_defers.trans h.fr.df,put_size.trans h.fr.sz,fun s hs=>?_,fun j d hj hjd=>?_⟩,hst _ _ h.inv hb,fun j hj kj hkj=>?_,fun j oj hj hoj x hx=>?_⟩
 ·rw[put_at (by rw[<- hdi];exact hs i hme)];exact h.fr.old s fun j hj=>hs j (by rw[hset,hj];simp)
 ·by_cases e:j=i
  ·subst e;rw[hdi] at hjd;rw[hjd,updO_self];exact put_self (by rw[h.fr.sz];exact (ci.dst d hjd).1)
  ·rw[put_at (fun q=>(ci.dst d q).2 j e hjd),updO_ne e];exact h.fr.new j d (hold j e hj) hjd
 ·by_cases e:j=i
  ·subst e;rw[hk] at hkj;cases hkj
   rw[updO_self];cases k with
   |eq u=>exact hv
   |rel p=>exact hv
   |rell js p=>
    show p (js.map _) w' v;rw[List.map_congr_left fun x hx=>updO_ne (l:=l) (v:=v) (fun q=>by have:=hd x (ci.js x hx);rw[q,hn] at this;cases this)];exact hv
   |fn js F=>
    show v=F (js.map _);rw[List.map_congr_left fun x hx=>updO_ne (l:=l) (v:=v) (fun q=>by have:=hd x (ci.js x hx);rw[q,hn] at this;cases this)];exact hv
  ·rw[updO_ne e];have hokj:=h.ok j (hold j e hj) kj hkj;cases kj with
   |eq u=>exact hokj
   |rel p=>exact hkp _ (List.mem_of_getElem? hkj) w w' _ hokj hb
   |rell js p=>
    show p (js.map _) w' (l j);have hjl:j<ops.size:=by rw[<- hlen];exact (List.getElem?_eq_some_iff.1 hkj).1
    have cj:=hc j _ (Array.getElem?_eq_getElem hjl) _ hkj;rw[List.map_congr_left fun x hx=>updO_ne (l:=l) (v:=v) (fun q=>by have:=h.dp j _ (hold j e hj) (Array.getElem?_eq_getElem hjl) x (cj.js x hx);rw[q,hn] at this;cases this)];exact hkp _ (List.mem_of_getElem? hkj) _ w w' _ hokj hb
   |fn js F=>
    show l j=F (js.map _);have hjl:j<ops.size:=by rw[<- hlen];exact (List.getElem?_eq_some_iff.1 hkj).1
    have cj:=hc j _ (Array.getElem?_eq_getElem hjl) _ hkj;rw[List.map_congr_left fun x hx=>updO_ne (l:=l) (v:=v) (fun q=>by have:=h.dp j _ (hold j e hj) (Array.getElem?_eq_getElem hjl) x (cj.js x hx);rw[q,hn] at this;cases this)];exact hokj
 ·by_cases e:j=i
  ·subst e;rw[ho] at hoj;cases hoj
   rw[hset,hd x hx];simp
  ·rw[hset,h.dp j oj (hold j e hj) hoj x hx];simp
theorem region_out {R:World->World->Prop} (hR:∀w,R w w) {P:Program} {ops:Array Oper} {Q:Exit->Act->World->Prop} {id:Nat} {a0:Act} {w:World} (hm:P.follows .mixedOrders=true) (Ks:List Out) (S:World->Prop)
 (hst:∀w w',S w->R w w'->S w') (hkp:∀k∈Ks,k.keeps R) (hchk:chkAll ops a0.tmps.size (Ks.map Out.js)=true) (h0:S w.drew)
 (hstep:∀(i:Nat) (o:Oper) (k:Out),ops[i]?=some o->Ks[i]?=some k->∀(a:Act) (w:World) (l:Nat->Value),AtO S Ks ops a0 o a w l->OutStep R P ops Q o k l a w)
 (hend:∀(l:Nat->Value) (w:World),S w->(∀ (i:Nat) (k:Out),Ks[i]?=some k->k.ok l w (l i))->Q .normal (layO a0 l Ks ops.toList 0) w):(Code.region id ops true).wp P Q a0 w:=by
 have hlen:Ks.length=ops.size:=by
  unfold chkAll at hchk;rw[Bool.and_eq_true,decide_eq_true_eq,List.length_map] at hchk;exact hchk.1
 have hc:∀i o,ops[i]?=some o->∀k,Ks[i]?=some k->ChkO ops a0.tmps.size i k.js o:=fun i o ho k hk=>by
  have:=chk_at hchk ho;rw[List.getD_eq_getElem?_getD,List.getElem?_map,hk] at this;exact ChkO.of this
 have hget:∀i o,ops[i]?=some o->∃k,Ks[i]?=some k:=fun i o ho=>⟨_,List.getElem?_eq_getElem (by rw[hlen];exact (Array.getElem?_eq_some_iff.1 ho).1)⟩
 refine wp_region_invO hm (fun L a w=>∃l,InO S Ks ops a0 L l a w) ?_ ?_ ?_ ?_
 ·refine ⟨fun _=>undef,by simp,⟨rfl,rfl,fun _ _=>rfl,fun j d hj=>?_⟩,h0,fun i hi=>?_,fun i o hi=>?_⟩
  ·rw[didO_none] at hj;cases hj
  ·rw[didO_none] at hi;cases hi
  ·rw[didO_none] at hi;cases hi
 ·rintro L a w i hL hi hn hd ⟨l,hI⟩;have ho:=Array.getElem?_eq_getElem hi;obtain ⟨k,hk⟩:=hget i _ ho;have ci:=hc i _ ho k hk;have hd':∀j∈depsOf ops[i],didO L j=true:=fun j hj=>by
   unfold depsOf at hj;rw[List.mem_map] at hj;obtain ⟨e,he,rfl⟩:=hj;rw[List.mem_filter] at he;exact hd _ ho e (by simpa using he.1) he.2
  have hat:AtO S Ks ops a0 ops[i] a w l:=by
   refine ⟨hI.inv,fun t ht=>eval_of (hI.fr.old t fun j _ e=>?_),fun j hj d hjd=>eval_some (hI.fr.new j d (hd' j (by simpa using hj)) hjd),fun j hj kj hkj=>hI.ok j (hd' j (by simpa using hj)) kj hkj,fun g b hg=>?_⟩
   ·unfold writes at ht;rw[List.any_eq_false] at ht;unfold dstOf at e;cases q:ops[j]? with
    |none=>rw[q] at e;cases e
    |some o'=>
     rw[q] at e;have:=ht o' (by rw[Array.mem_toList_iff];exact Array.mem_of_getElem? q);rw[beq_iff_eq] at this;exact this e
   ·obtain ⟨h1,d,h2⟩:=ci.guard g b hg;have:=hI.fr.new g d (hd' g h1) h2;unfold yielded;have e2:(ops[g]?).bind (·.dst)=some d:=h2;rw[e2];simp only[Option.bind_some,this];cases l g<;>rfl
  have hs:=hstep i _ k ho hk a w l hat;refine wpOp_step ho fun K hK=>?_
  unfold OutStep at hs;split
  ·rename_i hw;rw[if_pos hw] at hs;exact hs K fun v w' hb hv=>hK _ _ ⟨_,hI.step hst hkp hc hlen ho hk hn hd' hb hv⟩
  ·rename_i hw;rw[if_neg hw] at hs;exact hK _ _ ⟨_,hI.step hst hkp hc hlen ho hk hn hd' (hR _) hs⟩
 ·intro i o ho e he hb;obtain ⟨k,hk⟩:=hget i o ho;exact (hc i o ho k hk).back e.on (by unfold depsOf;exact List.mem_map.2 ⟨e,List.mem_filter.2 ⟨by simpa using he,hb⟩,rfl⟩)
 ·rintro L a w hall ⟨l,hI⟩;have hok:∀(i:Nat) (k:Out),Ks[i]?=some k->k.ok l w (l i):=fun i k hk=>hI.ok i (hall i (by rw[<- hlen];exact (List.getElem?_eq_some_iff.1 hk).1)) k hk
  have hlen2:Ks.length=ops.toList.length:=by simpa using hlen
  have e:a=layO a0 l Ks ops.toList 0:=by
   obtain ⟨s1,s2⟩:=layO_sz (l:=l) Ks ops.toList 0 a0;have ht:a.tmps=(layO a0 l Ks ops.toList 0).tmps:=by
    refine Array.ext_getElem? fun s=>?_
    by_cases hw:∃j,j<ops.size/\dstOf ops j=some s
    ·obtain ⟨j,hj,hjd⟩:=hw;have ho:=Array.getElem?_eq_getElem hj;obtain ⟨k,hk⟩:=hget j _ ho;have hd:(ops[j]).dst=some s:=by unfold dstOf at hjd;rw[ho] at hjd;exact hjd
     have cj:=hc j _ ho k hk;rw[hI.fr.new j s (hall j hj) hjd,layO_new Ks ops.toList 0 a0 j ops[j] k s hlen2 hk (by simp) hd (cj.dst s hd).1 (fun y o' hy ho' e=>(cj.dst s hd).2 y hy (by
      unfold dstOf;have:ops[y]?=some o':=by simpa using ho'
      rw[this];exact e)),Nat.zero_add]
     have:=hok j k hk;cases k with
     |eq u=>have h2:l j=u:=this;rw[h2];rfl
     |rel p=>rfl
     |rell js p=>rfl
     |fn js F=>rfl
    ·rw[hI.fr.old s fun j hj e=>hw ⟨j,by
      unfold dstOf at e;cases q:ops[j]? with
      |none=>rw[q] at e;cases e
      |some o'=>exact (Array.getElem?_eq_some_iff.1 q).1,e⟩]
     rw[(layO_at (a0:=a0) Ks ops.toList 0 a0 s hlen2 fun x o ho e=>hw ⟨x,by
      have:ops[x]?=some o:=by simpa using ho
      exact ⟨(Array.getElem?_eq_some_iff.1 this).1,by unfold dstOf;rw[this];exact e⟩⟩).1]
   obtain ⟨t,df⟩:=a;have hdf:df=a0.defers:=hI.fr.df;generalize hX:layO a0 l Ks ops.toList 0=X at*;obtain ⟨t2,df2⟩:=X;simp only at ht s2;rw[ht,hdf,s2]
  rw[e];exact hend l w hI.inv hok
def StepsO (R:World->World->Prop) (P:Program) (ops:Array Oper) (Q:Exit->Act->World->Prop) (S:World->Prop) (a0:Act):List Oper->List Out->(List Out->Prop)->Prop
 |[],Rs,fin=>fin Rs.reverse
 |o::rest,Rs,fin=>∃k:Out,k.keeps R/\k.js.all (fun j=>(depsOf o).contains j)=true/\(∀ (a:Act) (w:World) (l:Nat->Value),AtO S Rs.reverse ops a0 o a w l->OutStep R P ops Q o k l a w)/\StepsO R P ops Q S a0 rest (k::Rs) fin
theorem stepsO_full {R:World->World->Prop} {P:Program} {ops:Array Oper} {Q:Exit->Act->World->Prop} {S:World->Prop} {a0:Act} {fin:List Out->Prop}:∀(todo:List Oper) (Rs:List Out),(∀ k∈Rs,k.keeps R)->StepsO R P ops Q S a0 todo Rs fin->
 ∃Kf:List Out,Kf.take Rs.length=Rs.reverse/\Kf.length=Rs.length+todo.length/\fin Kf/\(∀ k∈Kf,k.keeps R)/\∀(x:Nat) (o:Oper) (k:Out),todo[x]?=some o->Kf[Rs.length+x]?=some k->k.js.all (fun j=>(depsOf o).contains j)=true/\∀(a:Act) (w:World) (l:Nat->Value),AtO S (Kf.take (Rs.length+x)) ops a0 o a w l->OutStep R P ops Q o k l a w
 |[],Rs,hk,h=>⟨Rs.reverse,by rw[List.take_of_length_le (by simp)],by simp,h,(fun k hk2=>hk k (List.mem_reverse.1 hk2)),fun x o k ho=>by simp at ho⟩
 |o::rest,Rs,hk,h=>by
  obtain ⟨k,h1,h2,h3,h4⟩:=h;obtain ⟨Kf,q1,q2,q3,q4,q5⟩:=stepsO_full rest (k::Rs) (fun x hx=>by
   rw[List.mem_cons] at hx;rcases hx with rfl|hx
   ·exact h1
   ·exact hk x hx) h4
  rw[List.length_cons] at q1 q2 q5;rw[List.reverse_cons] at q1;have hrl:Rs.reverse.length=Rs.length:=by simp
  have q6:Kf.take Rs.length=Rs.reverse:=by
   have:=congrArg (List.take Rs.length) q1;rw[List.take_take,Nat.min_eq_left (by omega),List.take_left' hrl] at this;exact this
  have q7:Kf[Rs.length]?=some k:=by
   have:(Kf.take (Rs.length+1))[Rs.length]?=(Rs.reverse++[k])[Rs.length]?:=by rw[q1]
   rw[List.getElem?_take_of_lt (by omega),List.getElem?_append_right (by omega)] at this;simpa using this
  refine ⟨Kf,q6,by rw[q2,List.length_cons];omega,q3,q4,fun x o' k' ho hk'=>?_⟩;cases x with
  |zero=>
   have ho2:o=o':=by simpa using ho
   subst ho2;rw[Nat.add_zero,q7] at hk';cases hk';rw[Nat.add_zero,q6];exact ⟨h2,h3⟩
  |succ x=>
   have:=q5 x o' k' (by simpa using ho) (by rw[show Rs.length+1+x=Rs.length+(x+1) by omega];exact hk');rw[show Rs.length+1+x=Rs.length+(x+1) by omega] at this;exact this
theorem chkO_js {ops:Array Oper} {N i:Nat} {js:List Nat} {o:Oper} (h:chkO ops N i [] o=true) (hj:js.all (fun j=>(depsOf o).contains j)=true):chkO ops N i js o=true:=by
 unfold chkO at h⊢;simp only[Bool.and_eq_true] at h⊢;obtain ⟨⟨⟨⟨⟨h1,-⟩,h3⟩,h4⟩,h5⟩,h6⟩:=h;exact ⟨⟨⟨⟨⟨h1,hj⟩,h3⟩,h4⟩,h5⟩,h6⟩
theorem region_outR (R:World->World->Prop) (hR:∀w,R w w) {P:Program} {os:List Oper} {Q:Exit->Act->World->Prop} {id:Nat} {a0:Act} {w:World} (hm:P.follows .mixedOrders=true) (S:World->Prop)
 (hst:∀w w',S w->R w w'->S w') (hchk:chkAll os.toArray a0.tmps.size (os.map fun _=>[])=true) (h0:S w.drew)
 (hsteps:StepsO R P os.toArray Q S a0 os [] fun Ks=>∀(l:Nat->Value) (w:World),S w->(∀ (i:Nat) (k:Out),Ks[i]?=some k->k.ok l w (l i))->Q .normal (layO a0 l Ks os 0) w):(Code.region id os.toArray true).wp P Q a0 w:=by
 obtain ⟨Kf,-,h2,h3,h4,h5⟩:=stepsO_full os [] (fun k hk=>by cases hk) hsteps;rw[List.length_nil,Nat.zero_add] at h2;refine region_out hR hm Kf S hst (fun k hk=>h4 k hk) ?_ h0 (fun i o k ho hk a w l hat=>?_) (by simpa using h3)
 ·unfold chkAll at hchk⊢;simp only[Bool.and_eq_true,decide_eq_true_eq,List.length_map,List.size_toArray,List.all_eq_true,List.mem_range] at hchk⊢;refine ⟨h2,fun i hi=>?_⟩;have hc:=hchk.2 i hi;have ho:os[i]?=some os[i]:=List.getElem?_eq_getElem hi;have hk:Kf[i]?=some (Kf[i]'(by rw[h2];exact hi)):=List.getElem?_eq_getElem _;have hj:=(h5 i _ _ ho (by rw[List.length_nil,Nat.zero_add];exact hk)).1;simp only[List.getElem?_toArray,ho,List.getD_eq_getElem?_getD,List.getElem?_map,hk,Option.map_some,Option.getD_some] at hc⊢;exact chkO_js hc hj
 ·have:=(h5 i o k (by simpa using ho) (by simpa using hk)).2 a w l;rw[List.length_nil,Nat.zero_add] at this;exact this ⟨hat.inv,hat.old,hat.dep,fun j hj k' hk'=>hat.ok j hj k' (by
   rw[List.getElem?_take] at hk';split at hk'
   ·exact hk'
   ·cases hk'),hat.yield⟩
section
variable {P:Program} {ops:Array Oper} {Q:Exit->Act->World->Prop} {o:Oper} {k:Out} {l:Nat->Value} {a:Act} {w w':World} {S:World->Prop} {Ks:List Out} {a0:Act} {R:World->World->Prop}
theorem rev_at {Rs:List Out} {j m:Nat} {k:Out} (hm:Rs.length=m+1+j) (hk:Rs[m]?=some k):Rs.reverse[j]?=some k:=by
 rw[List.getElem?_reverse (by omega), <-hk];congr 1;omega
theorem AtO.get (h:AtO S Ks.reverse ops a0 o a w l) (j m:Nat) {d:Tmp} {v:Value} (hj:(depsOf o).contains j=true) (hd:dstOf ops j=some d) (hm:Ks.length=m+1+j) (hk:Ks[m]?=some (.eq v)):a.eval (.tmp d)=v:=
 (h.dep j hj d hd).trans (h.ok j hj _ (rev_at hm hk))
theorem AtO.got (h:AtO S Ks.reverse ops a0 o a w l) (j m:Nat) {d:Tmp} {p:World->Value->Prop} (hj:(depsOf o).contains j=true) (hd:dstOf ops j=some d) (hm:Ks.length=m+1+j) (hk:Ks[m]?=some (.rel p)):∃v,a.eval (.tmp d)=v/\l j=v/\p w v:=
 ⟨_,h.dep j hj d hd,rfl,h.ok j hj _ (rev_at hm hk)⟩
theorem AtO.gotl (h:AtO S Ks.reverse ops a0 o a w l) (j m:Nat) {js:List Nat} {p:List Value->World->Value->Prop} (hj:(depsOf o).contains j=true) (hm:Ks.length=m+1+j) (hk:Ks[m]?=some (.rell js p)):p (js.map l) w (l j):=
 h.ok j hj _ (rev_at hm hk)
theorem AtO.go (h:AtO S Ks.reverse ops a0 o a w l) (m:Nat) {g:Nat} {b:Bool} (hg:o.guard=some (g,b)) (hj:(depsOf o).contains g=true) (hm:Ks.length=m+1+g) (hk:Ks[m]?=some (.eq (.bool b))):Region.wanted o (yielded ops a.tmps)=true:=by
 have e:l g= .bool b:=h.ok g hj _ (rev_at hm hk);unfold Region.wanted;rw[hg];simp only[h.yield g b hg,e,beq_self_eq_true]
theorem AtO.stop (h:AtO S Ks.reverse ops a0 o a w l) (m:Nat) {g:Nat} {b:Bool} {v:Value} (hg:o.guard=some (g,b)) (hj:(depsOf o).contains g=true) (hm:Ks.length=m+1+g) (hk:Ks[m]?=some (.eq v)) (hv:v= .bool (!b)\/v=undef):Region.wanted o (yielded ops a.tmps)=false:=by
 have e:l g=v:=h.ok g hj _ (rev_at hm hk);unfold Region.wanted;rw[hg];simp only[h.yield g b hg,e];rcases hv with rfl|rfl
 ·cases b<;>rfl
 ·rfl
theorem out_skip (hw:Region.wanted o (yielded ops a.tmps)=false):OutStep R P ops Q o (.eq undef) l a w:=by
 unfold OutStep;rw[hw];exact rfl
theorem out_val (hR:∀w,R w w) {v:Value} (hw:Region.wanted o (yielded ops a.tmps)=true) (hex:(execOp a.eval o).run P w= .ok (.value v) w):OutStep R P ops Q o (.eq v) l a w:=by
 unfold OutStep;rw[hw];intro K hK;unfold Oper.wp;rw[hex,Oper.upon_value];exact hK v w (hR w) rfl
theorem out_new {v:Value} (hw:Region.wanted o (yielded ops a.tmps)=true) (hex:(execOp a.eval o).run P w= .ok (.value v) w') (hb:R w w') (hk:k.ok l w' v):OutStep R P ops Q o k l a w:=by
 unfold OutStep;rw[hw];intro K hK;unfold Oper.wp;rw[hex,Oper.upon_value];exact hK v w' hb hk
theorem out_store (hw:Region.wanted o (yielded ops a.tmps)=true) (hex:(execOp a.eval o).run P w= .ok .skip w') (hb:R w w') (hk:k.ok l w' undef):OutStep R P ops Q o k l a w:=by
 unfold OutStep;rw[hw];intro K hK;unfold Oper.wp;rw[hex,Oper.upon_skip];exact hK undef w' hb hk
theorem out_call {f:FuncId} {args:Array Value} (hw:Region.wanted o (yielded ops a.tmps)=true) (hex:(execOp a.eval o).run P w= .ok (.enter f args) w) (hc:Calls P f args w fun e w'=>∃v,e= .returned v/\k.ok l w' v/\R w w'):OutStep R P ops Q o k l a w:=by
 unfold OutStep;rw[hw];intro K hK;unfold Oper.wp;rw[hex,Oper.upon_enter];refine hc.mono ?_;rintro e w' ⟨v,rfl,h1,h2⟩;exact hK v w' h2 h1
theorem out_call_eq {f:FuncId} {args:Array Value} {v:Value} (hw:Region.wanted o (yielded ops a.tmps)=true) (hex:(execOp a.eval o).run P w= .ok (.enter f args) w) (hc:Calls P f args w fun e w'=>e= .returned v/\R w w'):OutStep R P ops Q o (.eq v) l a w:=
 out_call hw hex (hc.mono fun e w' h=>⟨v,h.1,rfl,h.2⟩)
end
theorem AtO.oL {S:World->Prop} {Ks:List Out} {ops:Array Oper} {o:Oper} {a:Act} {w:World} {l:Nat->Value} {tm:List Value} {df:List Deferred} (h:AtO S Ks ops ⟨tm.toArray,df⟩ o a w l) (t:Tmp) {v:Value} (hv:nthO tm t=v:=by simp only[nthO];rfl) (hw:writes ops t=false:=by kernel_rfl):a.eval (.tmp t)=v:=(h.old t hw).trans (evalO hv)
section
variable {P:Program} {ops:Array Oper} {Q:Exit->Act->World->Prop} {o:Oper} {l:Nat->Value} {a:Act} {w w':World} {S:World->Prop} {Ks:List Out} {a0:Act} {R:World->World->Prop}
theorem stq {rest:List Oper} {Rs:List Out} {fin:List Out->Prop} (v:Value) (h:∀(a:Act) (w:World) (l:Nat->Value),AtO S Rs.reverse ops a0 o a w l->OutStep R P ops Q o (.eq v) l a w) (hr:StepsO R P ops Q S a0 rest (.eq v::Rs) fin):StepsO R P ops Q S a0 (o::rest) Rs fin:=⟨.eq v,trivial,rfl,h,hr⟩
theorem stk {rest:List Oper} {Rs:List Out} {fin:List Out->Prop} (m:Nat) (hr:StepsO R P ops Q S a0 rest (.eq undef::Rs) fin) {g:Nat} {b:Bool} {v:Value} (hg:o.guard=some (g,b):=by exact rfl) (hj:(depsOf o).contains g=true:=by kernel_rfl) (hm:Rs.length=m+1+g:=by exact rfl) (hk:Rs[m]?=some (.eq v):=by exact rfl) (hv:v= .bool (!b)\/v=undef:=by exact .inl rfl):StepsO R P ops Q S a0 (o::rest) Rs fin:=stq undef (fun _ _ _ hh=>out_skip (hh.stop m hg hj hm hk hv)) hr
theorem AtO.gt (h:AtO S Ks.reverse ops a0 o a w l) (j m:Nat) {d:Tmp} {v:Value} (hj:(depsOf o).contains j=true:=by kernel_rfl) (hd:dstOf ops j=some d:=by exact rfl) (hm:Ks.length=m+1+j:=by exact rfl) (hk:Ks[m]?=some (.eq v):=by exact rfl):a.eval (.tmp d)=v:=h.get j m hj hd hm hk
theorem AtO.ol {tm:List Value} {df:List Deferred} (h:AtO S Ks ops ⟨tm.toArray,df⟩ o a w l) (t:Tmp) {v:Value} (hw:writes ops t=false:=by kernel_rfl) (hv:nthO tm t=v:=by exact rfl):a.eval (.tmp t)=v:=(h.old t hw).trans (evalO hv)
theorem ov (hR:∀w,R w w) {v:Value} (hex:(execOp a.eval o).run P w= .ok (.value v) w) (hg:o.guard=none:=by exact rfl):OutStep R P ops Q o (.eq v) l a w:=out_val hR (wanted_none hg) hex
theorem AtO.og (h:AtO S Ks.reverse ops a0 o a w l) (hR:∀w,R w w) (m:Nat) {v:Value} (hex:(execOp a.eval o).run P w= .ok (.value v) w) {g:Nat} {b:Bool} (hg:o.guard=some (g,b):=by exact rfl) (hj:(depsOf o).contains g=true:=by kernel_rfl) (hm:Ks.length=m+1+g:=by exact rfl) (hk:Ks[m]?=some (.eq (.bool b)):=by exact rfl):OutStep R P ops Q o (.eq v) l a w:=out_val hR (h.go m hg hj hm hk) hex
theorem stm {rest:List Oper} {Rs:List Out} {fin:List Out->Prop} {d:Tmp} {v:Value} (hR:∀w,R w w) (j m:Nat) (hr:StepsO R P ops Q S a0 rest (.eq v::Rs) fin) (hj:(depsOf o).contains j=true:=by kernel_rfl) (hd:dstOf ops j=some d:=by exact rfl) (hm:Rs.length=m+1+j:=by exact rfl) (hk:Rs[m]?=some (.eq v):=by exact rfl) (hop:o.op= .move (.tmp d)\/o.op= .assign (.tmp d):=by first|exact .inl rfl|exact .inr rfl) (hg:o.guard=none:=by exact rfl):StepsO R P ops Q S a0 (o::rest) Rs fin:=stq v (fun _ _ _ hh=>out_val hR (wanted_none hg) (ex_moveO hop (hh.get j m hj hd hm hk))) hr
theorem stn {rest:List Oper} {Rs:List Out} {fin:List Out->Prop} {d:Tmp} {v:Value} (hR:∀w,R w w) (n:Nat) (j m:Nat) (hr:StepsO R P ops Q S a0 rest (.eq v::Rs) fin) (hj:(depsOf o).contains j=true:=by kernel_rfl) (hd:dstOf ops j=some d:=by exact rfl) (hm:Rs.length=m+1+j:=by exact rfl) (hk:Rs[m]?=some (.eq v):=by exact rfl) (hop:o.op= .move (.tmp d)\/o.op= .assign (.tmp d):=by first|exact .inl rfl|exact .inr rfl) {g:Nat} {b:Bool} (hg:o.guard=some (g,b):=by exact rfl) (hj2:(depsOf o).contains g=true:=by kernel_rfl) (hm2:Rs.length=n+1+g:=by exact rfl) (hk2:Rs[n]?=some (.eq (.bool b)):=by exact rfl):StepsO R P ops Q S a0 (o::rest) Rs fin:=stq v (fun _ _ _ hh=>out_val hR (hh.go n hg hj2 hm2 hk2) (ex_moveO hop (hh.get j m hj hd hm hk))) hr
end
end OutR
open Go.RowKit
def set9 (w:World) (g:Nat) (b0 b1 b2 b3 b4 b5 b6 b7 b8:Value):World:=(((((((((w.setCell ⟨g,0,none⟩ b0).setCell ⟨g,1,none⟩ b1).setCell ⟨g,2,none⟩ b2).setCell ⟨g,3,none⟩ b3).setCell ⟨g,4,none⟩ b4).setCell ⟨g,5,none⟩ b5).setCell ⟨g,6,none⟩ b6).setCell ⟨g,7,none⟩ b7).setCell ⟨g,8,none⟩ b8)
theorem set9_heap {w:World} {g:Nat} {t:TypeId} {a0 a1 a2 a3 a4 a5 a6 a7 a8:Value} (b0 b1 b2 b3 b4 b5 b6 b7 b8:Value) (h:w.heap[g]?=some (.cells #[a0,a1,a2,a3,a4,a5,a6,a7,a8] t (0,0))):(set9 w g b0 b1 b2 b3 b4 b5 b6 b7 b8).heap[g]?=some (.cells #[b0,b1,b2,b3,b4,b5,b6,b7,b8] t (0,0)):=by
 have h0:(w.setCell ⟨g,0,none⟩ b0).heap[g]?=some (.cells #[b0,a1,a2,a3,a4,a5,a6,a7,a8] t (0,0)):=heap_setCell_same w g 0 _ t b0 h;have h1:((w.setCell ⟨g,0,none⟩ b0).setCell ⟨g,1,none⟩ b1).heap[g]?=some (.cells #[b0,b1,a2,a3,a4,a5,a6,a7,a8] t (0,0)):=heap_setCell_same (w.setCell ⟨g,0,none⟩ b0) g 1 _ t b1 h0;have h2:(((w.setCell ⟨g,0,none⟩ b0).setCell ⟨g,1,none⟩ b1).setCell ⟨g,2,none⟩ b2).heap[g]?=some (.cells #[b0,b1,b2,a3,a4,a5,a6,a7,a8] t (0,0)):=heap_setCell_same ((w.setCell ⟨g,0,none⟩ b0).setCell ⟨g,1,none⟩ b1) g 2 _ t b2 h1;have h3:((((w.setCell ⟨g,0,none⟩ b0).setCell ⟨g,1,none⟩ b1).setCell ⟨g,2,none⟩ b2).setCell ⟨g,3,none⟩ b3).heap[g]?=some (.cells #[b0,b1,b2,b3,a4,a5,a6,a7,a8] t (0,0)):=heap_setCell_same (((w.setCell ⟨g,0,none⟩ b0).setCell ⟨g,1,none⟩ b1).setCell ⟨g,2,none⟩ b2) g 3 _ t b3 h2;have h4:(((((w.setCell ⟨g,0,none⟩ b0).setCell ⟨g,1,none⟩ b1).setCell ⟨g,2,none⟩ b2).setCell ⟨g,3,none⟩ b3).setCell ⟨g,4,none⟩ b4).heap[g]?=some (.cells #[b0,b1,b2,b3,b4,a5,a6,a7,a8] t (0,0)):=heap_setCell_same ((((w.setCell ⟨g,0,none⟩ b0).setCell ⟨g,1,none⟩ b1).setCell ⟨g,2,none⟩ b2).setCell ⟨g,3,none⟩ b3) g 4 _ t b4 h3;have h5:((((((w.setCell ⟨g,0,none⟩ b0).setCell ⟨g,1,none⟩ b1).setCell ⟨g,2,none⟩ b2).setCell ⟨g,3,none⟩ b3).setCell ⟨g,4,none⟩ b4).setCell ⟨g,5,none⟩ b5).heap[g]?=some (.cells #[b0,b1,b2,b3,b4,b5,a6,a7,a8] t (0,0)):=heap_setCell_same (((((w.setCell ⟨g,0,none⟩ b0).setCell ⟨g,1,none⟩ b1).setCell ⟨g,2,none⟩ b2).setCell ⟨g,3,none⟩ b3).setCell ⟨g,4,none⟩ b4) g 5 _ t b5 h4;have h6:(((((((w.setCell ⟨g,0,none⟩ b0).setCell ⟨g,1,none⟩ b1).setCell ⟨g,2,none⟩ b2).setCell ⟨g,3,none⟩ b3).setCell ⟨g,4,none⟩ b4).setCell ⟨g,5,none⟩ b5).setCell ⟨g,6,none⟩ b6).heap[g]?=some (.cells #[b0,b1,b2,b3,b4,b5,b6,a7,a8] t (0,0)):=heap_setCell_same ((((((w.setCell ⟨g,0,none⟩ b0).setCell ⟨g,1,none⟩ b1).setCell ⟨g,2,none⟩ b2).setCell ⟨g,3,none⟩ b3).setCell ⟨g,4,none⟩ b4).setCell ⟨g,5,none⟩ b5) g 6 _ t b6 h5;have h7:((((((((w.setCell ⟨g,0,none⟩ b0).setCell ⟨g,1,none⟩ b1).setCell ⟨g,2,none⟩ b2).setCell ⟨g,3,none⟩ b3).setCell ⟨g,4,none⟩ b4).setCell ⟨g,5,none⟩ b5).setCell ⟨g,6,none⟩ b6).setCell ⟨g,7,none⟩ b7).heap[g]?=some (.cells #[b0,b1,b2,b3,b4,b5,b6,b7,a8] t (0,0)):=heap_setCell_same (((((((w.setCell ⟨g,0,none⟩ b0).setCell ⟨g,1,none⟩ b1).setCell ⟨g,2,none⟩ b2).setCell ⟨g,3,none⟩ b3).setCell ⟨g,4,none⟩ b4).setCell ⟨g,5,none⟩ b5).setCell ⟨g,6,none⟩ b6) g 7 _ t b7 h6;have h8:(((((((((w.setCell ⟨g,0,none⟩ b0).setCell ⟨g,1,none⟩ b1).setCell ⟨g,2,none⟩ b2).setCell ⟨g,3,none⟩ b3).setCell ⟨g,4,none⟩ b4).setCell ⟨g,5,none⟩ b5).setCell ⟨g,6,none⟩ b6).setCell ⟨g,7,none⟩ b7).setCell ⟨g,8,none⟩ b8).heap[g]?=some (.cells #[b0,b1,b2,b3,b4,b5,b6,b7,b8] t (0,0)):=heap_setCell_same ((((((((w.setCell ⟨g,0,none⟩ b0).setCell ⟨g,1,none⟩ b1).setCell ⟨g,2,none⟩ b2).setCell ⟨g,3,none⟩ b3).setCell ⟨g,4,none⟩ b4).setCell ⟨g,5,none⟩ b5).setCell ⟨g,6,none⟩ b6).setCell ⟨g,7,none⟩ b7) g 8 _ t b8 h7;exact h8
theorem set9_other (w:World) {g k:Nat} (b0 b1 b2 b3 b4 b5 b6 b7 b8:Value) (h:k≠g):(set9 w g b0 b1 b2 b3 b4 b5 b6 b7 b8).heap[k]?=w.heap[k]?:=by
 unfold set9;rw[setCell_heap h,setCell_heap h,setCell_heap h,setCell_heap h,setCell_heap h,setCell_heap h,setCell_heap h,setCell_heap h,setCell_heap h]
theorem set9_below {B:Nat} {w0 w:World} {g:Nat} (b0 b1 b2 b3 b4 b5 b6 b7 b8:Value) (h:Below B w0 w) (hg:B<=g):Below B w0 (set9 w g b0 b1 b2 b3 b4 b5 b6 b7 b8):=by
 unfold set9;exact ((((((((h.setCell hg b0).setCell hg b1).setCell hg b2).setCell hg b3).setCell hg b4).setCell hg b5).setCell hg b6).setCell hg b7).setCell hg b8
open Stab
def JumpsOk (c:List Ist):Prop:=∀(j:Nat) (i:Ist),c[j]?=some i->(i.k=7\/i.k=8)->(j:Int)<i.to/\i.to<=(c.length:Int)
theorem mayInst_jump {p:Prg} {act:Int} {i:Ist} {j many:Nat} (h:mayInstP p act i j many=true) (hk:i.k=7\/i.k=8):(j:Int)<i.to/\i.to<=(many:Int):=by
 unfold mayInstP at h;split at h
 ·cases h
 ·rw[Bool.and_eq_true,if_pos hk] at h;exact of_decide_eq_true h.1
theorem mayInsts_jumps {p:Prg} {act:Int} {l:List Ist} (h:mayInstsP p act l=true):JumpsOk l:=by
 intro j i hj hk;unfold mayInstsP at h;rw[Bool.and_eq_true] at h;have:=allIdx_iff.1 h.2 j i hj;rw[Nat.zero_add] at this;exact mayInst_jump this hk
theorem mayInsts_len {p:Prg} {act:Int} {l:List Ist} (h:mayInstsP p act l=true):l.length<=65536:=by
 unfold mayInstsP at h;rw[Bool.and_eq_true] at h;exact of_decide_eq_true h.1
theorem istAt_some {c:List Ist} {k:Nat} (h:k<c.length):c[k]?=some (istAt c k):=some_getD _ h
theorem nextI_gt {c:List Ist} (hc:JumpsOk c) (args:List Nat) (x:Pkt) {at':Nat} (h:at'<c.length):at'<nextI args x (istAt c at') at':=by
 unfold nextI;split
 ·rename_i h1;have:=hc at' _ (istAt_some h) (by rcases h1 with h1|h1;exact .inr h1;exact .inl h1.1);omega
 ·omega
theorem nextI_le {c:List Ist} (hc:JumpsOk c) (args:List Nat) (x:Pkt) {at':Nat} (h:at'<c.length):nextI args x (istAt c at') at'<=c.length:=by
 unfold nextI;split
 ·rename_i h1;have:=hc at' _ (istAt_some h) (by rcases h1 with h1|h1;exact .inr h1;exact .inl h1.1);omega
 ·omega
theorem runF_fuel {p:Prg} {ap:Pkt->Ist->Pkt} {args:List Nat} {c:List Ist} (hc:JumpsOk c):∀(k1 k2 at':Nat) (x:Pkt),c.length-at'<=k1->c.length-at'<=k2->runF p ap args c k1 at' x=runF p ap args c k2 at' x:=by
 intro k1;induction k1 with
 |zero=>
  intro k2 at' x h1 h2;cases k2 with
  |zero=>rfl
  |succ k2=>rw[runF,runF,if_neg (by omega)]
 |succ k1 ih=>
  intro k2 at' x h1 h2;cases k2 with
  |zero=>rw[runF,runF,if_neg (by omega)]
  |succ k2=>
   rw[runF,runF];by_cases hlt:at'<c.length
   ·rw[if_pos hlt,if_pos hlt];have:=nextI_gt hc args x hlt;exact ih k2 _ _ (by omega) (by omega)
   ·rw[if_neg hlt,if_neg hlt]
def doI (p:Prg) (ap:Pkt->Ist->Pkt) (args:List Nat) (x:Pkt) (i:Ist):Pkt:=if i.k=3 then ap x i else execB p args x i
def runFrom (p:Prg) (ap:Pkt->Ist->Pkt) (args:List Nat) (c:List Ist) (at':Nat) (x:Pkt):Pkt:=runF p ap args c c.length at' x
theorem runFrom_stop {p:Prg} {ap:Pkt->Ist->Pkt} {args:List Nat} {c:List Ist} {at':Nat} {x:Pkt} (h:c.length<=at'):runFrom p ap args c at' x=x:=by
 unfold runFrom;cases hk:c.length with
 |zero=>rfl
 |succ k=>rw[runF,if_neg (by omega)]
theorem runFrom_step {p:Prg} {ap:Pkt->Ist->Pkt} {args:List Nat} {c:List Ist} (hc:JumpsOk c) {at':Nat} {x:Pkt} (h:at'<c.length):runFrom p ap args c at' x=runFrom p ap args c (nextI args x (istAt c at') at') (doI p ap args x (istAt c at')):=by
 have hg:=nextI_gt hc args x h;unfold runFrom;obtain ⟨k,hk⟩:∃k,c.length=k+1:=⟨c.length-1,by omega⟩;rw[runF_fuel hc c.length (k+1) at' x (by omega) (by omega),runF,if_pos h];exact runF_fuel hc _ _ _ _ (by omega) (by omega)
theorem instW_set {p:Prg} {act:Int} {i:Ist} {w:Int} (h:instW p act i=some w) (hk:i.k=1):0<=i.a/\i.a<(p.heads.length:Int)/\0<=i.b/\i.b<((p.heads.getD i.a.toNat []).length:Int)/\w=(p.heads.getD i.a.toNat []).getD i.b.toNat 0:=by
 unfold instW at h;rw[if_pos hk] at h;split at h
 ·rename_i e;cases h;exact ⟨e.1,e.2.1,e.2.2.1,e.2.2.2,rfl⟩
 ·cases h
theorem instW_meta {p:Prg} {act:Int} {i:Ist} {w:Int} (h:instW p act i=some w) (hk:i.k=2):0<=i.a/\i.a<(p.metas.length:Int)/\i.b=0/\w=p.metas.getD i.a.toNat 0:=by
 unfold instW at h;rw[if_neg (by omega),if_pos hk] at h;split at h
 ·rename_i e;cases h;exact ⟨e.1,e.2.1,e.2.2,rfl⟩
 ·cases h
theorem instW_apply {p:Prg} {act:Int} {i:Ist} {w:Int} (h:instW p act i=some w) (hk:i.k=3):act<0/\0<=i.a/\i.a<(p.tabs.length:Int)/\i.b=0/\w=0:=by
 unfold instW at h;rw[if_neg (by omega),if_neg (by omega),if_pos hk] at h;split at h
 ·rename_i e;cases h;exact ⟨e.1,e.2.1,e.2.2.1,e.2.2.2,rfl⟩
 ·cases h
theorem instW_valid {p:Prg} {act:Int} {i:Ist} {w:Int} (h:instW p act i=some w) (hk:i.k=6):0<=i.a/\i.a<(p.heads.length:Int)/\(i.b=0\/i.b=1)/\w=0:=by
 unfold instW at h;rw[if_neg (by omega),if_neg (by omega),if_neg (by omega),if_pos hk] at h;split at h
 ·rename_i e;cases h;exact ⟨e.1,e.2.1,e.2.2,rfl⟩
 ·cases h
theorem instW_rest {p:Prg} {act:Int} {i:Ist} {w:Int} (h:instW p act i=some w) (h1:i.k≠1) (h2:i.k≠2) (h3:i.k≠3) (h6:i.k≠6):(i.k=7/\w=1)\/(i.k=5/\w=9)\/(i.k=4/\w=0)\/(i.k=8/\w=0):=by
 unfold instW at h;rw[if_neg h1,if_neg h2,if_neg h3,if_neg h6] at h;split at h
 ·rename_i hk;split at h
  ·cases h;rcases hk with hk|hk|hk|hk
   ·exact .inl ⟨hk,by rw[if_pos hk]⟩
   ·exact .inr (.inl ⟨hk,by rw[if_neg (by omega),if_pos hk]⟩)
   ·exact .inr (.inr (.inl ⟨hk,by rw[if_neg (by omega),if_neg (by omega)]⟩))
   ·exact .inr (.inr (.inr ⟨hk,by rw[if_neg (by omega),if_neg (by omega)]⟩))
  ·cases h
 ·cases h
theorem ofP_pos {l:List Int} {i:Int} (h:0<ofP l i):0<=i/\i<(l.length:Int):=by
 unfold ofP at h;split at h
 ·omega
 ·omega
theorem leaf_field {p:Prg} {act:Int} {n:Nod} (h:plain0P p act n=n.w) (hok:okP n.w=true) (hk:n.op=2):0<=n.a/\n.a<(p.heads.length:Int)/\0<=n.b/\n.b<((p.heads.getD n.a.toNat []).length:Int):=by
 rw[okP_iff] at hok;unfold plain0P at h;rw[if_neg (by omega)] at h;split at h
 ·omega
 ·split at h
  ·rename_i e;have:=ofP_pos (l:=p.heads.getD n.a.toNat []) (i:=n.b) (by omega);exact ⟨e.1,e.2,this.1,this.2⟩
  ·omega
theorem leaf_meta {p:Prg} {act:Int} {n:Nod} (h:plain0P p act n=n.w) (hok:okP n.w=true) (hk:n.op=3):0<=n.a/\n.a<(p.metas.length:Int):=by
 rw[okP_iff] at hok;unfold plain0P at h;rw[if_neg (by omega)] at h;split at h
 ·omega
 ·exact ofP_pos (by omega)
theorem leaf_param {p:Prg} {act:Int} {n:Nod} (h:plain0P p act n=n.w) (hok:okP n.w=true) (hk:n.op=4):0<=act/\act<(p.acts.length:Int)/\0<=n.a/\n.a<(((p.acts.getD act.toNat ⟨[],[]⟩).params.length:Nat):Int):=by
 rw[okP_iff] at hok;unfold plain0P at h;rw[if_neg (by omega)] at h;split at h
 ·omega
 ·rw[if_neg (show ¬n.op=2 by omega),if_neg (show ¬n.op=3 by omega)] at h;split at h
  ·rename_i e;have:=ofP_pos (l:=(p.acts.getD act.toNat ⟨[],[]⟩).params) (i:=n.a) (by omega);exact ⟨e.1,e.2,this.1,this.2⟩
  ·omega
theorem leaf_valid {p:Prg} {act:Int} {n:Nod} (h:plain0P p act n=n.w) (hok:okP n.w=true) (hk:n.op=6):0<=n.a/\n.a<(p.heads.length:Int):=by
 rw[okP_iff] at hok;unfold plain0P at h;rw[if_neg (by omega)] at h;split at h
 ·omega
 ·rw[if_neg (show ¬n.op=2 by omega),if_neg (show ¬n.op=3 by omega),if_neg (show ¬n.op=4 by omega),if_neg (show ¬n.op=5 by omega)] at h;split at h
  ·assumption
  ·omega
open Go.RowKit
section
variable {b:Nat} {c0 c1:Int} {c:List Value} {W W':World}
theorem lt_some {W:World} {g:Nat} {o:Obj} (h:W.heap[g]?=some o):g<W.heap.size:=(Array.getElem?_eq_some_iff.1 h).1
end
end Go.Proofs.YtjfhfaodbjecdaaGreat
