/-
  A region that draws its order, where what holds meanwhile may hang on which operations are done.
-/
import Derived.Test.YtikilcbpogfgkaaGreatJI03
namespace Go.Proofs.YtikilcbpogfgkaaGreat
variable {R:World->World->Prop} {S:(Nat->Bool)->World->Prop} {ops:Array Oper} {w:World} {i id:Nat} {o:Oper} {v:Value} {P:Program} {Q:Exit->Act->World->Prop} {d:Tmp}
namespace OutD
open Go.RowKit
variable {R:World->World->Prop} {S:(Nat->Bool)->World->Prop} {ops:Array Oper} {w:World} {i id:Nat} {o:Oper} {v:Value} {P:Program} {Q:Exit->Act->World->Prop} {d:Tmp}
inductive Out
 |eq (v:Value)
 |rel (p:World->Value->Prop)
 |rell (js:List Nat) (p:List Value->World->Value->Prop)
 |fn (js:List Nat) (F:List Value->Value)
def Out.js:Out->List Nat
 | .fn js _=>js
 | .rell js _=>js
 |_=>[]
def Out.ok (l:Nat->Value) (w:World) (v:Value):Out->Prop
 | .eq u=>v=u
 | .rel p=>p w v
 | .rell js p=>p (js.map l) w v
 | .fn js F=>v=F (js.map l)
def Out.val (x:Value):Out->Value
 | .eq v=>v
 |_=>x
def Out.keeps (R:World->World->Prop):Out->Prop
 | .rel p=>∀w w' v,p w v->R w w'->p w' v
 | .rell _ p=>∀xs w w' v,p xs w v->R w w'->p xs w' v
 |_=>True
structure AtO (S:(Nat->Bool)->World->Prop) (Ks:List Out) (ops:Array Oper) (a0:Act) (i:Nat) (o:Oper) (a:Act) (w:World) (l:Nat->Value) (D:Nat->Bool):Prop where
 inv:S D w
 non:D i=false
 don:∀j,(depsOf o).contains j=true->D j=true
 clo:∀k o',ops[k]?=some o'->(depsOf o').contains i=true->D k=false
 old:∀t,writes ops t=false->a.eval (.tmp t)=a0.eval (.tmp t)
 dep:∀j,(depsOf o).contains j=true->∀d,dstOf ops j=some d->a.eval (.tmp d)=l j
 ok:∀j,(depsOf o).contains j=true->∀k,Ks[j]?=some k->k.ok l w (l j)
 yield:∀g b,o.guard=some (g,b)->yielded ops a.tmps g=(match l g with| .bool b=>some b|_=>none)
def upD (D:Nat->Bool) (i:Nat):Nat->Bool:=fun j=>decide (j=i)||D j
def OutStep (R:World->World->Prop) (S:(Nat->Bool)->World->Prop) (P:Program) (ops:Array Oper) (Q:Exit->Act->World->Prop) (i:Nat) (o:Oper) (k:Out) (l:Nat->Value) (a:Act) (w:World) (D:Nat->Bool):Prop:=
 if Region.wanted o (yielded ops a.tmps) then ∀K:Act->World->Prop,(∀ v w',R w w'->S (upD D i) w'->k.ok l w' v->K (a.put o.dst v) w')->o.wp P a w K Q else k.ok l w undef/\S (upD D i) w
def layO (a0:Act) (l:Nat->Value):List Out->List Oper->Nat->Act
 |k::ks,o::os,i=>layO (a0.put o.dst (k.val (l i))) l ks os (i+1)
 |_,_,_=>a0
structure FrO (ops:Array Oper) (a0:Act) (L:Array Bool) (l:Nat->Value) (a:Act):Prop where
 df:a.defers=a0.defers
 sz:a.tmps.size=a0.tmps.size
 old:∀s,(∀ j,didO L j=true->dstOf ops j≠some s)->a.tmps[s]?=a0.tmps[s]?
 new:∀j d,didO L j=true->dstOf ops j=some d->a.tmps[d]?=some (l j)
structure InO (S:(Nat->Bool)->World->Prop) (Ks:List Out) (ops:Array Oper) (a0:Act) (L:Array Bool) (l:Nat->Value) (a:Act) (w:World):Prop where
 ls:L.size=ops.size
 fr:FrO ops a0 L l a
 inv:S (didO L) w
 ok:∀i,didO L i=true->∀k,Ks[i]?=some k->k.ok l w (l i)
 dp:∀i o,didO L i=true->ops[i]?=some o->∀j∈depsOf o,didO L j=true
theorem layO_at {a0:Act} {l:Nat->Value}:∀(ks:List Out) (os:List Oper) (i:Nat) (a:Act) (s:Tmp),ks.length=os.length->(∀ (x:Nat) (o:Oper),os[x]?=some o->o.dst≠some s)->(layO a l ks os i).tmps[s]?=a.tmps[s]?/\(layO a l ks os i).tmps.size=a.tmps.size/\(layO a l ks os i).defers=a.defers
 |[],os,_,_,_,_,_=>by unfold layO;exact ⟨rfl,rfl,rfl⟩
 |k::ks,[],_,_,_,_,_=>by unfold layO;exact ⟨rfl,rfl,rfl⟩
 |k::ks,o::os,i,a,s,hl,h=>by
  unfold layO;obtain ⟨h1,h2,h3⟩:=layO_at (a0:=a0) (l:=l) ks os (i+1) (a.put o.dst (k.val (l i))) s (by simpa using hl) (fun x o ho=>h (x+1) o (by simpa using ho));have h0:=h 0 o sm;cases hd:o.dst with
  |none=>rw[hd] at h1 h2 h3;exact ⟨h1,h2,h3⟩
  |some d=>
   rw[hd] at h1 h2 h3 h0;refine ⟨h1.trans ?_,h2.trans (by simp[Act.put]),h3⟩;simp only[Act.put];rw[Array.getElem?_setIfInBounds_ne (fun e=>h0 (by rw[e]))]
theorem layO_sz {l:Nat->Value}:∀(ks:List Out) (os:List Oper) (i:Nat) (a:Act),(layO a l ks os i).tmps.size=a.tmps.size/\(layO a l ks os i).defers=a.defers
 |[],os,_,_=>by unfold layO;exact ⟨rfl,rfl⟩
 |k::ks,[],_,_=>by unfold layO;exact ⟨rfl,rfl⟩
 |k::ks,o::os,i,a=>by
  unfold layO;obtain ⟨h2,h3⟩:=layO_sz (l:=l) ks os (i+1) (a.put o.dst (k.val (l i)));refine ⟨h2.trans ?_,h3.trans ?_⟩<;>cases o.dst<;>simp[Act.put]
theorem layO_new {l:Nat->Value}:∀(ks:List Out) (os:List Oper) (i:Nat) (a:Act) (x:Nat) (o:Oper) (k:Out) (d:Tmp),ks.length=os.length->ks[x]?=some k->os[x]?=some o->o.dst=some d->d<a.tmps.size->(∀ (y:Nat) (o':Oper),y≠x->os[y]?=some o'->o'.dst≠some d)->
 (layO a l ks os i).tmps[d]?=some (k.val (l (i+x)))
 |[],_,_,_,x,_,_,_,_,hk,_,_,_,_=>by simp at hk
 |_::_,[],_,_,x,_,_,_,_,_,ho,_,_,_=>by simp at ho
 |k0::ks,o0::os,i,a,0,o,k,d,hl,hk,ho,hd,hlt,hne=>by
  simp only[List.getElem?_cons_zero,Option.some.injEq] at hk ho;subst hk ho;unfold layO;rw[(layO_at (a0:=a) ks os (i+1) _ d (by simpa using hl) (fun x o ho=>hne (x+1) o om (by simpa using ho))).1,hd];simp only[Act.put,Nat.add_zero];rw[Array.getElem?_setIfInBounds_self_of_lt hlt]
 |k0::ks,o0::os,i,a,x+1,o,k,d,hl,hk,ho,hd,hlt,hne=>by
  unfold layO;have:=layO_new (l:=l) ks os (i+1) (a.put o0.dst (k0.val (l i))) x o k d (by simpa using hl) (by simpa using hk) (by simpa using ho) hd (by cases o0.dst<;>simp[Act.put,hlt]) (fun y o' hy ho'=>hne (y+1) o' om (by simpa using ho'));rw[this,show i+1+x=i+(x+1) by omega]
theorem InO.step {Ks:List Out} {a0 a:Act} {L:Array Bool} {l:Nat->Value} {w':World} {k:Out} (h:InO S Ks ops a0 L l a w) (hS:S (upD (didO L) i) w') (hkp:∀k∈Ks,k.keeps R)
 (hc:∀i o,ops[i]?=some o->∀k,Ks[i]?=some k->ChkO ops a0.tmps.size i k.js o) (hlen:Ks.length=ops.size) (ho:ops[i]?=some o) (hk:Ks[i]?=some k) (hn:didO L i=false) (hd:∀j∈depsOf o,didO L j=true) (hb:R w w') (hv:k.ok l w' v):
 InO S Ks ops a0 (L.setIfInBounds i true) (updO l i v) (a.put o.dst v) w':=by
 have hlt:i<ops.size:=(gA_ ho).1;have hset:∀j,didO (L.setIfInBounds i true) j=(decide (j=i)||didO L j):=fun j=>didO_set (by rw[h.ls];exact hlt)
 have hme:didO (L.setIfInBounds i true) i=true:=by rw[hset];simp
 have hdi:dstOf ops i=o.dst:=by unfold dstOf;rw[ho];rfl
 have hold:∀j,j≠i->didO (L.setIfInBounds i true) j=true->didO L j=true:=fun j hj h2=>by rw[hset] at h2;simpa [hj] using h2
 have ci:=hc i o ho k hk;refine ⟨by simpa using h.ls,⟨put_defers.trans h.fr.df,put_size.trans h.fr.sz,fun s hs=>?_,fun j d hj hjd=>?_⟩,by rw[show didO (L.setIfInBounds i true)=upD (didO L) i from funext fun j=>by rw[hset];rfl];exact hS,fun j hj kj hkj=>?_,fun j oj hj hoj x hx=>?_⟩
 ·rw[put_at (by rw[<- hdi];exact hs i hme)];exact h.fr.old s fun j hj=>hs j (by rw[hset,hj];simp)
 ·exact gL2
 ·exact gC
 exact gD4
theorem region_out (hR:∀w,R w w) {a0:Act} (hm:P.follows .mixedOrders=true) (Ks:List Out) (S:(Nat->Bool)->World->Prop)
 (hkp:∀k∈Ks,k.keeps R) (hchk:chkAll ops a0.tmps.size (Ks.map Out.js)=true) (h0:S (fun _=>false) w.drew)
 (hstep:∀(i:Nat) (o:Oper) (k:Out),ops[i]?=some o->Ks[i]?=some k->∀(a:Act) (w:World) (l:Nat->Value) (D:Nat->Bool),AtO S Ks ops a0 i o a w l D->OutStep R S P ops Q i o k l a w D)
 (hend:∀(l:Nat->Value) (w:World) (D:Nat->Bool),S D w->(∀ i,i<ops.size->D i=true)->(∀ (i:Nat) (k:Out),Ks[i]?=some k->k.ok l w (l i))->Q .normal (layO a0 l Ks ops.toList 0) w):(Code.region id ops true).wp P Q a0 w:=by
 have hlen:Ks.length=ops.size:=by
  unfold chkAll at hchk;exact gE3
 have hc:∀i o,ops[i]?=some o->∀k,Ks[i]?=some k->ChkO ops a0.tmps.size i k.js o:=fun i o ho k hk=>by
  have:=chk_at hchk ho;rw[List.getD_eq_getElem?_getD,List.getElem?_map,hk] at this;exact ChkO.of this
 have hget:∀i o,ops[i]?=some o->∃k,Ks[i]?=some k:=fun i o ho=>⟨_,gE_ (by rw[hlen];exact (gA_ ho).1)⟩
 refine wp_region_invO hm (fun L a w=>∃l,InO S Ks ops a0 L l a w) ?_ ?_ ?_ ?_
 ·refine ⟨fun _=>undef,by simp,⟨rfl,rfl,fun _ _=>rfl,fun j d hj=>?_⟩,?_,fun i hi=>?_,fun i o hi=>?_⟩
  ·rw[didO_none] at hj;cases hj
  ·rw[show didO (Array.replicate ops.size false)=fun _=>false from funext fun j=>didO_none _ _];exact h0
  ·exact gZ4
  exact gZ4
 ·rintro L a w i hL hi hn hd ⟨l,hI⟩;have ho:=Array.getElem?_eq_getElem hi;obtain ⟨k,hk⟩:=hget i _ ho;have ci:=hc i _ ho k hk;have hd':∀j∈depsOf ops[i],didO L j=true:=fun j hj=>by
   unfold depsOf at hj;rw[List.mem_map] at hj;obtain ⟨e,he,rfl⟩:=hj;rw[List.mem_filter] at he;exact hd _ ho e (by simpa using he.1) he.2
  have hat:AtO S Ks ops a0 i ops[i] a w l (didO L):=by
   refine ⟨hI.inv,hn,fun j hj=>hd' j (by simpa using hj),fun k o' hk hdk=>by
    cases q:didO L k
    ·rfl
    ·exact absurd (hI.dp k o' q hk i (by simpa using hdk)) (by rw[hn];simp),fun t ht=>eval_of (hI.fr.old t fun j _ e=>?_),fun j hj d hjd=>eval_some (hI.fr.new j d (hd' j (by simpa using hj)) hjd),fun j hj kj hkj=>hI.ok j (hd' j (by simpa using hj)) kj hkj,fun g b hg=>?_⟩
   ·exact gF2
   exact gO1
  have hs:=hstep i _ k ho hk a w l (didO L) hat;refine wpOp_step ho fun K hK=>?_
  unfold OutStep at hs;split
  ·rename_i hw;rw[if_pos hw] at hs;exact hs K fun v w' hb hS hv=>hK _ _ ⟨_,hI.step hS hkp hc hlen ho hk hn hd' hb hv⟩
  rename_i hw;rw[if_neg hw] at hs;exact hK _ _ ⟨_,hI.step hs.2 hkp hc hlen ho hk hn hd' (hR _) hs.1⟩
 ·exact gF1
 rintro L a w hall ⟨l,hI⟩;have hok:∀(i:Nat) (k:Out),Ks[i]?=some k->k.ok l w (l i):=fun i k hk=>hI.ok i (hall i (by rw[<- hlen];exact (gL_ hk).1)) k hk
 have hlen2:Ks.length=ops.toList.length:=by simpa using hlen
 have e:a=layO a0 l Ks ops.toList 0:=by
  exact gD
 rw[e];exact hend l w (didO L) hI.inv (fun i hi=>hall i hi) hok
def StepsO (R:World->World->Prop) (P:Program) (ops:Array Oper) (Q:Exit->Act->World->Prop) (S:(Nat->Bool)->World->Prop) (a0:Act):List Oper->List Out->(List Out->Prop)->Prop
 |[],Rs,fin=>fin Rs.reverse
 |o::rest,Rs,fin=>∃k:Out,k.keeps R/\k.js.all (fun j=>(depsOf o).contains j)=true/\(∀ (a:Act) (w:World) (l:Nat->Value) (D:Nat->Bool),AtO S Rs.reverse ops a0 Rs.length o a w l D->OutStep R S P ops Q Rs.length o k l a w D)/\StepsO R P ops Q S a0 rest (k::Rs) fin
theorem stepsO_full {a0:Act} {fin:List Out->Prop}:∀(todo:List Oper) (Rs:List Out),(∀ k∈Rs,k.keeps R)->StepsO R P ops Q S a0 todo Rs fin->
 ∃Kf:List Out,Kf.take Rs.length=Rs.reverse/\Kf.length=Rs.length+todo.length/\fin Kf/\(∀ k∈Kf,k.keeps R)/\∀(x:Nat) (o:Oper) (k:Out),todo[x]?=some o->Kf[Rs.length+x]?=some k->k.js.all (fun j=>(depsOf o).contains j)=true/\∀(a:Act) (w:World) (l:Nat->Value) (D:Nat->Bool),AtO S (Kf.take (Rs.length+x)) ops a0 (Rs.length+x) o a w l D->OutStep R S P ops Q (Rs.length+x) o k l a w D
 |[],Rs,hk,h=>⟨Rs.reverse,by rw[List.take_of_length_le sm],by simp,h,(fun k hk2=>hk k (List.mem_reverse.1 hk2)),fun x o k ho=>by simp at ho⟩
 |o::rest,Rs,hk,h=>by
  obtain ⟨k,h1,h2,h3,h4⟩:=h;obtain ⟨Kf,q1,q2,q3,q4,q5⟩:=stepsO_full rest (k::Rs) (fun x hx=>by
   rw[List.mem_cons] at hx;rcases hx with rfl|hx
   ·exact h1
   ·exact hk x hx) h4
  rw[List.length_cons] at q1 q2 q5;rw[List.reverse_cons] at q1;have hrl:Rs.reverse.length=Rs.length:=by simp
  have q6:Kf.take Rs.length=Rs.reverse:=by
   have:=congrArg (List.take Rs.length) q1;rw[List.take_take,Nat.min_eq_left om,List.take_left' hrl] at this;exact this
  have q7:Kf[Rs.length]?=some k:=by
   have:(Kf.take (Rs.length+1))[Rs.length]?=(Rs.reverse++[k])[Rs.length]?:=by rw[q1]
   rw[List.getElem?_take_of_lt om,List.getElem?_append_right om] at this;simpa using this
  refine ⟨Kf,q6,by rw[q2,List.length_cons];omega,q3,q4,fun x o' k' ho hk'=>?_⟩;cases x with
  |zero=>
   have ho2:o=o':=by simpa using ho
   subst ho2;rw[Nat.add_zero,q7] at hk';cases hk';rw[Nat.add_zero,q6];exact ⟨h2,h3⟩
  |succ x=>
   have:=q5 x o' k' (by simpa using ho) (by rw[show Rs.length+1+x=Rs.length+(x+1) by omega];exact hk');rw[show Rs.length+1+x=Rs.length+(x+1) by omega] at this;exact this
theorem chkO_js {N:Nat} {js:List Nat} (h:chkO ops N i [] o=true) (hj:js.all (fun j=>(depsOf o).contains j)=true):chkO ops N i js o=true:=by
 exact gU2
theorem region_outD (R:World->World->Prop) (hR:∀w,R w w) {os:List Oper} {a0:Act} (hm:P.follows .mixedOrders=true) (S:(Nat->Bool)->World->Prop)
 (hchk:chkAll os.toArray a0.tmps.size (os.map fun _=>[])=true) (h0:S (fun _=>false) w.drew)
 (hsteps:StepsO R P os.toArray Q S a0 os [] fun Ks=>∀(l:Nat->Value) (w:World) (D:Nat->Bool),S D w->(∀ i,i<os.length->D i=true)->(∀ (i:Nat) (k:Out),Ks[i]?=some k->k.ok l w (l i))->Q .normal (layO a0 l Ks os 0) w):(Code.region id os.toArray true).wp P Q a0 w:=by
 obtain ⟨Kf,-,h2,h3,h4,h5⟩:=stepsO_full os [] (fun k hk=>by cases hk) hsteps;rw[List.length_nil,Nat.zero_add] at h2;refine region_out hR hm Kf S (fun k hk=>h4 k hk) ?_ h0 (fun i o k ho hk a w l D hat=>?_) (by simpa using h3)
 ·exact gB1
 have:=(h5 i o k (by simpa using ho) (by simpa using hk)).2 a w l D;rw[List.length_nil,Nat.zero_add] at this;exact this ⟨hat.inv,hat.non,hat.don,hat.clo,hat.old,hat.dep,fun j hj k' hk'=>hat.ok j hj k' (by
  rw[List.getElem?_take] at hk';split at hk'
  ·exact hk'
  ·cases hk'),hat.yield⟩
section
variable {P:Program} {ops:Array Oper} {Q:Exit->Act->World->Prop} {o:Oper} {k:Out} {l:Nat->Value} {a:Act} {w w':World} {S:(Nat->Bool)->World->Prop} {Ks:List Out} {a0:Act} {R:World->World->Prop} {D:Nat->Bool} {i:Nat}
theorem rev_at {Rs:List Out} {j m:Nat} {k:Out} (hm:Rs.length=m+1+j) (hk:Rs[m]?=some k):Rs.reverse[j]?=some k:=by
 rw[List.getElem?_reverse om, <-hk];congr 1;omega
theorem AtO.get (h:AtO S Ks.reverse ops a0 i o a w l D) (j m:Nat) (hj:(depsOf o).contains j=true) (hd:dstOf ops j=some d) (hm:Ks.length=m+1+j) (hk:Ks[m]?=some (.eq v)):a.eval (.tmp d)=v:=
 (h.dep j hj d hd).trans (h.ok j hj _ (rev_at hm hk))
theorem AtO.got (h:AtO S Ks.reverse ops a0 i o a w l D) (j m:Nat) {p:World->Value->Prop} (hj:(depsOf o).contains j=true) (hd:dstOf ops j=some d) (hm:Ks.length=m+1+j) (hk:Ks[m]?=some (.rel p)):∃v,a.eval (.tmp d)=v/\l j=v/\p w v:=
 ⟨_,h.dep j hj d hd,rfl,h.ok j hj _ (rev_at hm hk)⟩
theorem out_val (hR:∀w,R w w) (hS:S (upD D i) w) (hw:Region.wanted o (yielded ops a.tmps)=true) (hex:(execOp a.eval o).run P w= .ok (.value v) w):OutStep R S P ops Q i o (.eq v) l a w D:=by
 unfold OutStep;rw[hw];intro K hK;unfold Oper.wp;rw[hex,Oper.upon_value];exact hK v w (hR w) hS rfl
theorem out_store (hw:Region.wanted o (yielded ops a.tmps)=true) (hex:(execOp a.eval o).run P w= .ok .skip w') (hb:R w w') (hS:S (upD D i) w') (hk:k.ok l w' undef):OutStep R S P ops Q i o k l a w D:=by
 unfold OutStep;rw[hw];intro K hK;unfold Oper.wp;rw[hex,Oper.upon_skip];exact hK undef w' hb hS hk
theorem out_call {f:FuncId} {args:Array Value} (hw:Region.wanted o (yielded ops a.tmps)=true) (hex:(execOp a.eval o).run P w= .ok (.enter f args) w) (hc:Calls P f args w fun e w'=>∃v,e= .returned v/\k.ok l w' v/\R w w'/\S (upD D i) w'):OutStep R S P ops Q i o k l a w D:=by
 unfold OutStep;rw[hw];intro K hK;unfold Oper.wp;rw[hex,Oper.upon_enter];refine hc.mono ?_;rintro e w' ⟨v,rfl,h1,h2,h3⟩;exact hK v w' h2 h3 h1
end
end OutD
end Go.Proofs.YtikilcbpogfgkaaGreat
