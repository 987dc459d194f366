/- Lemmas. -/
import Derived.Test.YtikilcbpogfgkaaGreatJH05
import Derived.Deep.RegionLaw
set_option maxHeartbeats 1600000
set_option maxRecDepth 100000
namespace Go.Proofs.YtikilcbpogfgkaaGreat
open Go.RowKit
variable {w:World} {p:Option Addr} {n c j i a b a' b' m s s0 r0 r:Nat} {ops:Array Oper} {L:Int->Int->Bool} {P:Program} {Q:Exit->Act->World->Prop} {fin:List Out->Oper->Prop} {l1 l2:Int}
theorem foldl_add (a:Int):∀l:List Int,l.foldl (·+·) a=a+l.foldl (·+·) 0
 |[]=>by simp
 |x::l=>by
  rw[List.foldl_cons,List.foldl_cons,foldl_add (a+x) l,foldl_add (0+x) l];omega
theorem sumI_snoc {l:List Int} {k:Nat} (hk:k<l.length):sumI (l.take (k+1))=sumI (l.take k)+l.getD k 0:=by
 rw[List.take_add_one,gE_ hk];unfold sumI;rw[List.foldl_append,List.getD_eq_getElem?_getD,gE_ hk];rfl
theorem sumI_ok:∀{l:List Int},l.all okP=true->0<=sumI l/\sumI l<=128*(l.length:Int)
 |[],_=>by simp[sumI]
 |x::l,h=>by
  rw[List.all_cons,Bool.and_eq_true] at h;obtain ⟨h1,h2⟩:=h;have h3:0<x/\x<129:=by unfold okP at h1;simpa using h1
  have h4:=sumI_ok h2;have e:sumI (x::l)=x+sumI l:=by unfold sumI;rw[List.foldl_cons,foldl_add (0+x)];omega
  rw[e,List.length_cons];omega
open Go.RowKit
section
variable {w w':World} {g:Nat} {kp up lp gp:Option Addr} {kn kc un uc ln lc gn gc:Nat} {da:Int}
end
theorem CsRow.el {l:List (List Nod)} (h:CsRow w (.slice p n c) l) {x:List Nod} (hj:l[j]?=some x):∃b o p1 n1 c1,p=some ⟨b,o,none⟩/\b<w.heap.size/\w.cell? ⟨b,o+j,none⟩=some (.slice p1 n1 c1)/\CRow w (.slice p1 n1 c1) x:=by
 obtain ⟨b,o,e,h1,p1,n1,c1,h2,h3⟩:=h.get hj;rw[Nat.mul_one] at h2;exact ⟨b,o,p1,n1,c1,e,h1,h2,h3⟩
open Go.RowKit
section
variable {w w':World} {g:Nat} {tp kp bp:Option Addr} {tn tc kn kc bn bc:Nat} {tq:Int}
end
theorem BrnRow.el {l:List Brn} (h:BrnRow w (.slice p n c) l) {x:Brn} (hj:l[j]?=some x):∃b o p1 n1 c1,p=some ⟨b,o,none⟩/\b<w.heap.size/\w.cell? ⟨b,o+j*2,none⟩=some (.slice p1 n1 c1)/\PRow w (.slice p1 n1 c1) x.pats/\w.cell? ⟨b,o+j*2+1,none⟩=some (.int .i64 x.to):=by
 obtain ⟨b,o,e,h1,⟨p1,n1,c1,h2,h3⟩,h4⟩:=h.get hj;exact ⟨b,o,p1,n1,c1,e,h1,h2,h3,h4⟩
open Go.RowKit
section
variable {w w':World} {g:Nat} {tab len prio act:Int} {ep gp:Option Addr} {en ec gn gc:Nat}
end
structure EntOk (p:Prg) (e:Ent):Prop where
 t0:0<=e.tab
 t1:e.tab<(p.tabs.length:Int)
 run:mayRunP p (p.tabs.getD e.tab.toNat ⟨[],[],[],0,[]⟩).acts e.act e.args=true
open Go.RowKit
abbrev RB (w w':World):Prop:=Bl w w'
def coversO (ops:Array Oper):Bool:=(List.range (ops.size-1)).all fun i=>(List.range ops.size).any fun j=>decide (i<j)&&(match ops[j]? with|some o=>(depsOf o).contains i|none=>false)
theorem covers_at (h:coversO ops=true) (hi:i<ops.size-1):∃j o,i<j/\ops[j]?=some o/\i∈depsOf o:=by
 unfold coversO at h;rw[List.all_eq_true] at h;have:=h i (List.mem_range.2 hi);rw[List.any_eq_true] at this;obtain ⟨j,-,h2⟩:=this;rw[Bool.and_eq_true,decide_eq_true_eq] at h2;obtain ⟨h3,h4⟩:=h2;split at h4
 ·rename_i o ho;exact ⟨j,o,h3,ho,by simpa using h4⟩
 ·cases h4
theorem covers_all (h:coversO ops=true) {L:Array Bool} (hdp:∀i o,didO L i=true->ops[i]?=some o->∀j∈depsOf o,didO L j=true) (hl:∀o,ops[ops.size-1]?=some o->∀j∈depsOf o,didO L j=true):∀(k i:Nat),i+k=ops.size-1->i<ops.size-1->didO L i=true:=by
 intro k;induction k using Nat.strongRecOn with
 |_ k ih=>
  intro i hk hi;obtain ⟨j,o,h1,h2,h3⟩:=covers_at h hi;have hj:j<ops.size:=(gA_ h2).1;by_cases e:j=ops.size-1
  ·subst e;exact hl o h2 i h3
  ·exact hdp j o (ih (ops.size-1-j) om j om om) h2 i h3
def StepsL (P:Program) (ops:Array Oper) (Q:Exit->Act->World->Prop) (S:World->Prop) (a0:Act):List Oper->List Out->(List Out->Oper->Prop)->Prop
 |[],_,_=>False
 |[o],Rs,fin=>fin Rs.reverse o
 |o::o2::rest,Rs,fin=>∃k:Out,k.keeps RB/\k.js=[]/\(∀ (a:Act) (w:World) (l:Nat->Value),AtO S Rs.reverse ops a0 o a w l->OutStep RB P ops Q o k l a w)/\StepsL P ops Q S a0 (o2::rest) (k::Rs) fin
theorem stepsL_O {S:World->Prop} {a0:Act} :∀(os:List Oper) (Rs:List Out),StepsL P ops Q S a0 os Rs fin->∃os1 last,os=os1++[last]/\StepsO RB P ops Q S a0 os1 Rs fun Ks=>fin Ks last
 |[],_,h=>h.elim
 |[o],Rs,h=>⟨[],o,rfl,h⟩
 |o::o2::rest,Rs,h=>by
  obtain ⟨k,h1,h2,h3,h4⟩:=h;obtain ⟨os1,last,e,h5⟩:=stepsL_O (o2::rest) (k::Rs) h4;exact ⟨o::os1,last,by rw[e];rfl,k,h1,by rw[h2];rfl,h3,h5⟩
theorem layO_app {l:Nat->Value}:∀(ks:List Out) (os xs:List Oper) (i:Nat) (a:Act),ks.length=os.length->layO a l ks (os++xs) i=layO a l ks os i
 |[],[],xs,_,a,_=>by unfold layO;rfl
 |[],_::_,_,_,_,h=>by cases h
 |_::_,[],_,_,_,h=>by cases h
 |k::ks,o::os,xs,i,a,h=>by
  rw[List.cons_append,layO,layO];exact layO_app ks os xs (i+1) _ (by simpa using h)
theorem region_outL {os:List Oper} {id:Nat} {a0:Act} (hm:P.follows .mixedOrders=true) (S:World->Prop)
 (hst:∀w w',S w->Bl w w'->S w') (hchk:chkAll os.toArray a0.tmps.size (os.map fun _=>[])=true) (hcov:coversO os.toArray=true) (h0:S w.drew)
 (hsteps:StepsL P os.toArray Q S a0 os [] fun Ks last=>∀(l:Nat->Value) (w:World),S w->(∀ (i:Nat) (k:Out),Ks[i]?=some k->k.ok l w (l i))->last.guard=none/\last.wp P (layO a0 l Ks os 0) w (fun a' w'=>Q .normal a' w') Q):(Code.region id os.toArray true).wp P Q a0 w:=by
 obtain ⟨os1,last,hos,hO⟩:=stepsL_O os [] hsteps;obtain ⟨Kf,-,h2,h3,h4,h5⟩:=stepsO_full (R:=RB) os1 [] (fun k hk=>by cases hk) hO;rw[List.length_nil,Nat.zero_add] at h2;obtain ⟨ops,hops⟩:=nm os.toArray;obtain ⟨Ks,hKs⟩:=nm (Kf++[Out.eq undef]);have hsz:ops.size=os1.length+1:=by rw[hops,hos];simp
 have hn1:ops.size-1=os1.length:=om
 have hat0:∀i,i<os1.length->ops[i]?=os1[i]?:=fun i hi=>by rw[hops,hos];simp[List.getElem?_append_left hi]
 have hlast:ops[os1.length]?=some last:=by rw[hops,hos];simp
 rw[<- hops] at hchk hcov h5⊢;have hlen:Ks.length=ops.size:=by rw[hKs,hsz,List.length_append,h2];rfl
 have hKat:∀i,i<os1.length->Ks[i]?=Kf[i]?:=fun i hi=>by rw[hKs,List.getElem?_append_left om]
 have hkp:∀k∈Ks,k.keeps RB:=fun k hk=>by
  rw[hKs,List.mem_append] at hk;rcases hk with hk|hk
  ·exact h4 k hk
  ·rw[List.mem_singleton] at hk;subst hk;exact trivial
 have hc:∀i o,ops[i]?=some o->∀k,Ks[i]?=some k->ChkO ops a0.tmps.size i k.js o:=fun i o ho k hk=>by
  have:=chk_at hchk ho;have e:(os.map fun _=>([]:List Nat)).getD i []=[]:=by
   rw[List.getD_eq_getElem?_getD,List.getElem?_map];cases os[i]?<;>rfl
  rw[e] at this;have hi:i<ops.size:=(gA_ ho).1;by_cases hil:i<os1.length
  ·exact ChkO.of (chkO_js this (h5 i o k (by rw[<- hat0 i hil];exact ho) (by rw[List.length_nil,Nat.zero_add, <-hKat i hil];exact hk)).1)
  ·obtain rfl:i=os1.length:=om
   rw[hKs, <-h2,List.getElem?_append_right lr] at hk;simp at hk;subst hk;exact ChkO.of this
 have hget:∀i o,ops[i]?=some o->∃k,Ks[i]?=some k:=fun i o ho=>⟨_,gE_ (by rw[hlen];exact (gA_ ho).1)⟩
 refine wp_region_invO hm (fun L a w=>((∀ i,i<ops.size->didO L i=true)/\Q .normal a w)\/(didO L os1.length=false/\∃l,InO S Ks ops a0 L l a w)) ?_ ?_ ?_ ?_
 ·refine .inr ⟨didO_none _ _,fun _=>undef,by simp,⟨rfl,rfl,fun _ _=>rfl,fun j d hj=>?_⟩,h0,fun i hi=>?_,fun i o hi=>?_⟩
  ·rw[didO_none] at hj;cases hj
  ·rw[didO_none] at hi;cases hi
  ·rw[didO_none] at hi;cases hi
 ·rintro L a w i hL hi hn hd (⟨hall,-⟩|⟨hnl,l,hI⟩)
  ·rw[hall i hi] at hn;cases hn
  ·have ho:=Array.getElem?_eq_getElem hi;obtain ⟨k,hk⟩:=hget i _ ho;have ci:=hc i _ ho k hk;have hd':∀j∈depsOf ops[i],didO L j=true:=fun j hj=>by
    unfold depsOf at hj;rw[List.mem_map] at hj;obtain ⟨e,he,rfl⟩:=hj;rw[List.mem_filter] at he;exact hd _ ho e (by simpa using he.1) he.2
   have hat:AtO S Ks ops a0 ops[i] a w l:=by
    refine ⟨hI.inv,fun t ht=>eval_of (hI.fr.old t fun j _ e=>?_),fun j hj d hjd=>eval_some (hI.fr.new j d (hd' j (by simpa using hj)) hjd),fun j hj kj hkj=>hI.ok j (hd' j (by simpa using hj)) kj hkj,fun g b hg=>?_⟩
    ·unfold writes at ht;rw[List.any_eq_false] at ht;unfold dstOf at e;cases q:ops[j]? with
     |none=>rw[q] at e;cases e
     |some o'=>
      rw[q] at e;have:=ht o' (by rw[Array.mem_toList_iff];exact Array.mem_of_getElem? q);rw[beq_iff_eq] at this;exact this e
    ·obtain ⟨h1,d,h2⟩:=ci.guard g b hg;have:=hI.fr.new g d (hd' g h1) h2;unfold yielded;have e2:(ops[g]?).bind (·.dst)=some d:=h2;rw[e2];simp only[Option.bind_some,this];cases l g<;>rfl
   by_cases hil:i<os1.length
   ·have hs:=(h5 i ops[i] k (by rw[<- hat0 i hil];exact ho) (by rw[List.length_nil,Nat.zero_add, <-hKat i hil];exact hk)).2 a w l (by
     rw[List.length_nil,Nat.zero_add];exact ⟨hat.inv,hat.old,hat.dep,fun j hj k' hk'=>hat.ok j hj k' (by
      rw[List.getElem?_take] at hk';split at hk'
      ·rw[hKat j om];exact hk'
      ·cases hk'),hat.yield⟩)
    have hnl2:didO (L.setIfInBounds i true) os1.length=false:=by
     rw[didO_set om,hnl];have:decide (os1.length=i)=false:=by simp;omega
     rw[this];rfl
    refine wpOp_step ho fun K hK=>?_
    unfold OutStep at hs;split
    ·rename_i hw;rw[if_pos hw] at hs;exact hs K fun v w' hb hv=>hK _ _ (.inr ⟨hnl2,_,hI.step hst hkp hc hlen ho hk hn hd' hb hv⟩)
    ·rename_i hw;rw[if_neg hw] at hs;exact hK _ _ (.inr ⟨hnl2,_,hI.step hst hkp hc hlen ho hk hn hd' br hs⟩)
   ·obtain rfl:i=os1.length:=om
    have hlo:ops[os1.length]=last:=by rw[hlast] at ho;cases ho;rfl
    have hall:∀j,j<os1.length->didO L j=true:=fun j hj=>covers_all hcov hI.dp (fun o ho2=>by
     rw[hn1,hlast] at ho2;cases ho2;rw[<- hlo];exact hd') (os1.length-j) j om om
    have hok:∀(i:Nat) (k:Out),Kf[i]?=some k->k.ok l w (l i):=fun i k hk=>by
     have hi2:i<os1.length:=by rw[<- h2];exact (gL_ hk).1
     exact hI.ok i (hall i hi2) k (by rw[hKat i hi2];exact hk)
    have e:a=layO a0 l Kf os1 0:=by
     obtain ⟨s1,s2⟩:=layO_sz (l:=l) Kf os1 0 a0;have ht:a.tmps=(layO a0 l Kf os1 0).tmps:=by
      refine Array.ext_getElem? fun s=>?_
      by_cases hw:∃j,j<os1.length/\dstOf ops j=some s
      ·obtain ⟨j,hj,hjd⟩:=hw;have hoj:ops[j]?=some os1[j]:=by rw[hat0 j hj];exact gE_ hj
       obtain ⟨k,hk⟩:=hget j _ hoj;have hd:(os1[j]).dst=some s:=by unfold dstOf at hjd;rw[hoj] at hjd;exact hjd
       have cj:=hc j _ hoj k hk;have hkf:Kf[j]?=some k:=by rw[<- hKat j hj];exact hk
       rw[hI.fr.new j s (hall j hj) hjd,layO_new Kf os1 0 a0 j os1[j] k s h2 hkf (gE_ hj) hd (cj.dst s hd).1 (fun y o' hy ho' e=>(cj.dst s hd).2 y hy (by
        unfold dstOf;have hyl:=(gL_ ho').1;rw[hat0 y hyl,ho'];exact e)),Nat.zero_add]
       have:=hok j k hkf;cases k with
       |eq u=>have h2:l j=u:=this;rw[h2];rfl
       |rel p=>rfl
       |rell js p=>rfl
       |fn js F=>rfl
      ·rw[hI.fr.old s fun j hj e=>hw ⟨j,(by
        by_cases hjn:j<os1.length
        ·exact hjn
        ·unfold dstOf at e;cases q:ops[j]? with
         |none=>rw[q] at e;cases e
         |some o'=>
          have:=(gA_ q).1;have hjeq:j=os1.length:=om
          rw[hjeq,hnl] at hj;cases hj),e⟩]
       rw[(layO_at (a0:=a0) Kf os1 0 a0 s h2 fun x o ho e=>hw ⟨x,(gL_ ho).1,by
        unfold dstOf;rw[hat0 x (gL_ ho).1,ho];exact e⟩).1]
     obtain ⟨t,df⟩:=a;have hdf:df=a0.defers:=hI.fr.df;generalize hX:layO a0 l Kf os1 0=X at*;obtain ⟨t2,df2⟩:=X;simp only at ht s2;rw[ht,hdf,s2]
    obtain ⟨hg,hwp⟩:=h3 l w hI.inv hok;rw[hos,layO_app Kf os1 [last] 0 a0 h2, <-e] at hwp;refine wpOp_step ho fun K hK=>?_
    rw[hlo];have hw:Region.wanted last (yielded ops a.tmps)=true:=by unfold Region.wanted;rw[hg]
    rw[if_pos hw];refine Oper.wp_mono ?_ hwp;intro a' w' hq;refine hK _ _ (.inl ⟨fun j hj=>?_,hq⟩);rw[didO_set om];by_cases ej:j=os1.length
    ·simp[ej]
    ·rw[hall j om];simp
 ·intro i o ho e he hb;obtain ⟨k,hk⟩:=hget i o ho;exact (hc i o ho k hk).back e.on (by unfold depsOf;exact List.mem_map.2 ⟨e,List.mem_filter.2 ⟨by simpa using he,hb⟩,rfl⟩)
 ·rintro L a w hall (⟨-,hq⟩|⟨hnl,-⟩)
  ·exact hq
  ·rw[hall _ om] at hnl;cases hnl
section
variable {P:Program} {ops:Array Oper} {Q:Exit->Act->World->Prop} {o:Oper} {l:Nat->Value} {a:Act} {w w':World} {S:World->Prop} {Ks:List Out} {a0:Act}
theorem stqL {o2:Oper} {rest:List Oper} {Rs:List Out} (v:Value) (h:∀(a:Act) (w:World) (l:Nat->Value),AtO S Rs.reverse ops a0 o a w l->OutStep RB P ops Q o (.eq v) l a w) (hr:StepsL P ops Q S a0 (o2::rest) (.eq v::Rs) fin):StepsL P ops Q S a0 (o::o2::rest) Rs fin:=⟨.eq v,trivial,rfl,h,hr⟩
end
end Go.Proofs.YtikilcbpogfgkaaGreat
namespace Go.Proofs.YtikilcbpogfgkaaGreat.Stab
variable {w:World} {p:Option Addr} {n c j i a b a' b' m s s0 r0 r:Nat} {ops:Array Oper} {L:Int->Int->Bool} {P:Program} {Q:Exit->Act->World->Prop} {fin:List Out->Oper->Prop} {l1 l2:Int}
structure Ord (L:Int->Int->Bool):Prop where
 irr:∀x,L x x=false
 tr:∀x y z,L x y=true->L y z=true->L x z=true
 tot:∀x y,x≠y->L x y=false->L y x=true
theorem Ord.asym (h:Ord L) {x y:Int} (hxy:L x y=true):L y x=false:=by
 cases hc:L y x
 ·rfl
 ·have:=h.tr _ _ _ hxy hc;rw[h.irr] at this;cases this
abbrev Fn:=Nat->Int
def Srt (L:Int->Int->Bool) (f:Fn) (a b:Nat):Prop:=∀i j,a<=i->i<j->j<b->L (f i) (f j)=true
def Same (f f':Fn) (a b:Nat):Prop:=∀x,(∃ i,a<=i/\i<b/\f i=x)↔(∃ i,a<=i/\i<b/\f' i=x)
def Outw (f f':Fn) (a b:Nat):Prop:=∀i,(i<a\/b<=i)->f' i=f i
def Apart (f:Fn) (a m b:Nat):Prop:=∀i j,a<=i->i<m->m<=j->j<b->f i<f j
def swp (f:Fn) (i j:Nat):Fn:=fun k=>if k=i then f j else if k=j then f i else f k
theorem Same.refl (f:Fn) (a b:Nat):Same f f a b:=fun _=>Iff.rfl
theorem Same.trans {f g h:Fn} (p:Same f g a b) (q:Same g h a b):Same f h a b:=fun x=>(p x).trans (q x)
theorem Same.symm {f g:Fn} (p:Same f g a b):Same g f a b:=fun x=>(p x).symm
theorem Outw.refl (f:Fn) (a b:Nat):Outw f f a b:=fun _ _=>rfl
theorem Outw.trans {f g h:Fn} (p:Outw f g a b) (q:Outw g h a b):Outw f h a b:=fun i hi=>(q i hi).trans (p i hi)
theorem Outw.more {f g:Fn} (p:Outw f g a b) (ha:a'<=a) (hb:b<=b'):Outw f g a' b':=fun i hi=>p i om
theorem Same.more {f g:Fn} (p:Same f g a b) (o:Outw f g a b) (ha:a'<=a) (hb:b<=b'):Same f g a' b':=by
 intro x;constructor
 ·rintro ⟨i,h1,h2,h3⟩;by_cases hi:a<=i/\i<b
  ·obtain ⟨k,k1,k2,k3⟩:=(p x).1 ⟨i,hi.1,hi.2,h3⟩;exact ⟨k,om,om,k3⟩
  ·exact ⟨i,h1,h2,(o i om).trans h3⟩
 ·rintro ⟨i,h1,h2,h3⟩;by_cases hi:a<=i/\i<b
  ·obtain ⟨k,k1,k2,k3⟩:=(p x).2 ⟨i,hi.1,hi.2,h3⟩;exact ⟨k,om,om,k3⟩
  ·exact ⟨i,h1,h2,(o i om).symm.trans h3⟩
theorem same_swp (f:Fn) (hi:a<=i) (hi':i<b) (hj:a<=j) (hj':j<b):Same f (swp f i j) a b:=by
 intro x;constructor
 ·rintro ⟨k,h1,h2,h3⟩;by_cases e1:k=i
  ·subst e1;by_cases e2:k=j
   ·subst e2;exact ⟨k,h1,h2,by simp[swp,h3]⟩
   ·exact ⟨j,hj,hj',by unfold swp;rw[if_neg om,if_pos rfl];exact h3⟩
  ·by_cases e2:k=j
   ·subst e2;exact ⟨i,hi,hi',by unfold swp;rw[if_pos rfl];exact h3⟩
   ·exact ⟨k,h1,h2,by unfold swp;rw[if_neg e1,if_neg e2];exact h3⟩
 ·rintro ⟨k,h1,h2,h3⟩;unfold swp at h3;by_cases e1:k=i
  ·rw[if_pos e1] at h3;exact ⟨j,hj,hj',h3⟩
  ·by_cases e2:k=j
   ·rw[if_neg e1,if_pos e2] at h3;exact ⟨i,hi,hi',h3⟩
   ·rw[if_neg e1,if_neg e2] at h3;exact ⟨k,h1,h2,h3⟩
theorem out_swp (f:Fn) (hi:a<=i) (hi':i<b) (hj:a<=j) (hj':j<b):Outw f (swp f i j) a b:=fun k hk=>by
 unfold swp;rw[if_neg om,if_neg om]
theorem Apart.of_same {f f':Fn} (h:Apart f a m b) (p:Same f f' a m) (q:Same f f' m b):Apart f' a m b:=by
 intro i j h1 h2 h3 h4;obtain ⟨i',p1,p2,p3⟩:=(p _).2 ⟨i,h1,h2,rfl⟩;obtain ⟨j',q1,q2,q3⟩:=(q _).2 ⟨j,h3,h4,rfl⟩;rw[<- p3, <-q3];exact h i' j' p1 p2 q1 q2
structure Ins (L:Int->Int->Bool) (f0 f:Fn) (a i:Nat):Prop where
 srt:Srt L f a i
 same:Same f0 f a i
 o:Outw f0 f a i
structure InsI (L:Int->Int->Bool) (f0 f:Fn) (a i j:Nat):Prop where
 haj:a<=j
 hji:j<=i
 lo:∀p q,a<=p->p<q->q<=i->p≠j->q≠j->L (f p) (f q)=true
 hi:∀q,j<q->q<=i->L (f j) (f q)=true
 less:∀p,a<=p->p<=i->p≠j->f p<f j
 same:Same f0 f a (i+1)
 o:Outw f0 f a (i+1)
theorem Ins.start (L:Int->Int->Bool) (f:Fn) (a:Nat):Ins L f f a (a+1):=⟨fun i j h1 h2 h3=>by omega,Same.refl _ _ _,Outw.refl _ _ _⟩
theorem Ins.inner {f0 f:Fn} (h:Ins L f0 f a i) (ha:a<=i) (hi:i<b) (hasc:∀p q,a<=p->p<q->q<b->f0 p<f0 q):InsI L f0 f a i i where
 haj:=ha
 hji:=Nat.le_refl _
 lo:=fun p q h1 h2 h3 h4 h5=>h.srt p q h1 h2 om
 hi:=fun q h1 h2=>by omega
 less:=fun p h1 h2 h3=>by
  obtain ⟨k,k1,k2,k3⟩:=(h.same _).2 ⟨p,h1,om,rfl⟩;rw[<- k3,h.o i om];exact hasc k i k1 k2 hi
 same:=h.same.more h.o lr om
 o:=h.o.more lr om
theorem InsI.step {f0 f:Fn} (h:InsI L f0 f a i j) (hj:a<j) (hL:L (f j) (f (j-1))=true) (_hO:Ord L):InsI L f0 (swp f j (j-1)) a i (j-1) where
 haj:=om
 hji:=by have:=h.hji;omega
 lo:=fun p q h1 h2 h3 h4 h5=>by
  have hji:=h.hji;unfold swp;by_cases e1:p=j
  ·rw[if_pos e1,if_neg om,if_neg h5];exact h.lo (j-1) q om om h3 om om
  ·rw[if_neg e1,if_neg h4];by_cases e2:q=j
   ·rw[if_pos e2];exact h.lo p (j-1) h1 om om e1 om
   ·rw[if_neg e2,if_neg h5];exact h.lo p q h1 h2 h3 e1 e2
 hi:=fun q h1 h2=>by
  have hji:=h.hji;unfold swp;rw[if_neg om,if_pos rfl];by_cases e2:q=j
  ·rw[if_pos e2];exact hL
  ·rw[if_neg e2,if_neg om];exact h.hi q om h2
 less:=fun p h1 h2 h3=>by
  have hji:=h.hji;have e:swp f j (j-1) (j-1)=f j:=by unfold swp;rw[if_neg om,if_pos rfl]
  rw[e];unfold swp;by_cases e1:p=j
  ·rw[if_pos e1];exact h.less (j-1) om om om
  ·rw[if_neg e1,if_neg h3];exact h.less p h1 h2 e1
 same:=by have hji:=h.hji;exact h.same.trans (same_swp f om om om om)
 o:=by have hji:=h.hji;exact h.o.trans (out_swp f om om om om)
theorem InsI.done {f0 f:Fn} (h:InsI L f0 f a i j) (hO:Ord L) (hs:j<=a\/L (f j) (f (j-1))=false):Ins L f0 f a (i+1) where
 srt:=fun p q h1 h2 h3=>by
  by_cases e1:p=j
  ·subst e1;exact h.hi q h2 om
  ·by_cases e2:q=j
   ·subst e2;rcases hs with hs|hs
    ·omega
    ·have hl:=h.less (q-1) om om om;have h4:L (f (q-1)) (f q)=true:=hO.tot _ _ om hs;by_cases e3:p=q-1
     ·rw[e3];exact h4
     ·exact hO.tr _ _ _ (h.lo p (q-1) h1 om om om om) h4
   ·exact h.lo p q h1 h2 om e1 e2
 same:=h.same
 o:=h.o
def swr (f:Fn) (a b n:Nat):Fn:=fun k=>if a<=k/\k<a+n then f (k-a+b) else if b<=k/\k<b+n then f (k-b+a) else f k
def rot (f:Fn) (a m b:Nat):Fn:=fun k=>if a<=k/\k<a+(b-m) then f (k-a+m) else if a+(b-m)<=k/\k<b then f (k-(a+(b-m))+a) else f k
theorem swr_zero (f:Fn) (a b:Nat):swr f a b 0=f:=by
 funext k;unfold swr;rw[if_neg om,if_neg om]
theorem swr_succ (f:Fn) (a b n:Nat) (h:a+n<b):swp (swr f a b n) (a+n) (b+n)=swr f a b (n+1):=by
 funext k;unfold swp swr;by_cases h1:k=a+n
 ·subst h1;rw[if_pos rfl,if_neg om,if_neg om,if_pos om];congr 1;omega
 ·by_cases h2:k=b+n
  ·subst h2;rw[if_neg h1,if_pos rfl,if_neg om,if_neg om,if_neg om,if_pos om];congr 1;omega
  ·rw[if_neg h1,if_neg h2];by_cases h3:a<=k/\k<a+n
   ·rw[if_pos h3,if_pos om]
   ·rw[if_neg h3];by_cases h4:b<=k/\k<b+n
    ·rw[if_pos h4,if_neg om,if_pos om]
    ·rw[if_neg h4,if_neg om,if_neg om]
theorem rot_gt (f:Fn) (m i j:Nat) (him:i<=m) (h:j<i):rot (swr f (m-i) m j) (m-(i-j)) m (m+j)=rot f (m-i) m (m+j):=by
 funext k;unfold rot;by_cases h1:m-i<=k/\k<m-i+j
 ·have e:(if m-i<=k/\k<m-i+(m+j-m) then f (k-(m-i)+m) else if m-i+(m+j-m)<=k/\k<m+j then f (k-(m-i+(m+j-m))+(m-i)) else f k)=f (k-(m-i)+m):=by rw[if_pos om]
  rw[e,if_neg om,if_neg om];unfold swr;rw[if_pos om]
 ·by_cases h2:m-i+j<=k/\k<m+j
  ·have e:(if m-i<=k/\k<m-i+(m+j-m) then f (k-(m-i)+m) else if m-i+(m+j-m)<=k/\k<m+j then f (k-(m-i+(m+j-m))+(m-i)) else f k)=f (k-(m-i+(m+j-m))+(m-i)):=by rw[if_neg om,if_pos om]
   rw[e];by_cases h3:k<m-(i-j)+j
   ·rw[if_pos om];unfold swr;rw[if_neg om,if_pos om];congr 1;omega
   ·rw[if_neg om,if_pos om];unfold swr;rw[if_neg om,if_neg om];congr 1;omega
  ·have e:(if m-i<=k/\k<m-i+(m+j-m) then f (k-(m-i)+m) else if m-i+(m+j-m)<=k/\k<m+j then f (k-(m-i+(m+j-m))+(m-i)) else f k)=f k:=by rw[if_neg om,if_neg om]
   rw[e,if_neg om,if_neg om];unfold swr;rw[if_neg om,if_neg om]
theorem rot_lt (f:Fn) (m i j:Nat) (him:i<=m) (h:i<j):rot (swr f (m-i) (m+j-i) i) (m-i) m (m+(j-i))=rot f (m-i) m (m+j):=by
 funext k;unfold rot;by_cases h1:m-i<=k/\k<m-i+j
 ·have e:(if m-i<=k/\k<m-i+(m+j-m) then f (k-(m-i)+m) else if m-i+(m+j-m)<=k/\k<m+j then f (k-(m-i+(m+j-m))+(m-i)) else f k)=f (k-(m-i)+m):=by rw[if_pos om]
  rw[e];by_cases h3:k<m-i+(j-i)
  ·rw[if_pos om];unfold swr;rw[if_neg om,if_neg om]
  ·rw[if_neg om];by_cases h4:k<m+(j-i)
   ·rw[if_pos om];unfold swr;rw[if_pos om];congr 1;omega
   ·omega
 ·by_cases h2:m-i+j<=k/\k<m+j
  ·have e:(if m-i<=k/\k<m-i+(m+j-m) then f (k-(m-i)+m) else if m-i+(m+j-m)<=k/\k<m+j then f (k-(m-i+(m+j-m))+(m-i)) else f k)=f (k-(m-i+(m+j-m))+(m-i)):=by rw[if_neg om,if_pos om]
   rw[e,if_neg om,if_neg om];unfold swr;rw[if_neg om,if_pos om];congr 1;omega
  ·have e:(if m-i<=k/\k<m-i+(m+j-m) then f (k-(m-i)+m) else if m-i+(m+j-m)<=k/\k<m+j then f (k-(m-i+(m+j-m))+(m-i)) else f k)=f k:=by rw[if_neg om,if_neg om]
   rw[e,if_neg om,if_neg om];unfold swr;rw[if_neg om,if_neg om]
theorem rot_eq (f:Fn) (m i:Nat) (him:i<=m):swr f (m-i) m i=rot f (m-i) m (m+i):=by
 funext k;unfold rot swr;by_cases h1:m-i<=k/\k<m-i+i
 ·rw[if_pos h1,if_pos om]
 ·rw[if_neg h1];by_cases h2:m<=k/\k<m+i
  ·rw[if_pos h2,if_neg om,if_pos om];congr 1;omega
  ·rw[if_neg h2,if_neg om,if_neg om]
theorem same_rot (f:Fn) (h1:a<=m) (h2:m<=b):Same f (rot f a m b) a b:=by
 intro x;constructor
 ·rintro ⟨k,k1,k2,k3⟩;by_cases hk:k<m
  ·refine ⟨k-a+(a+(b-m)),om,om,?_⟩;unfold rot;rw[if_neg om,if_pos om, <-k3];congr 1;omega
  ·refine ⟨k-m+a,om,om,?_⟩;unfold rot;rw[if_pos om, <-k3];congr 1;omega
 ·rintro ⟨k,k1,k2,k3⟩;unfold rot at k3;by_cases hk:k<a+(b-m)
  ·rw[if_pos om] at k3;exact ⟨_,om,om,k3⟩
  ·rw[if_neg om,if_pos om] at k3;exact ⟨_,om,om,k3⟩
theorem out_rot (f:Fn) (h1:a<=m) (h2:m<=b):Outw f (rot f a m b) a b:=fun k hk=>by
 unfold rot;rw[if_neg om,if_neg om]
structure Mrg (L:Int->Int->Bool) (f:Fn) (a m b:Nat):Prop where
 am:a<m
 mb:m<b
 s1:Srt L f a m
 s2:Srt L f m b
 ap:Apart f a m b
structure MrgOk (L:Int->Int->Bool) (f f':Fn) (a b:Nat):Prop where
 srt:Srt L f' a b
 same:Same f f' a b
 o:Outw f f' a b
theorem Ins.last {f g:Fn} (h:Ins L f g a i) (hi:i=b\/(i=a+1/\b<=i)) (hab:a<=b):MrgOk L f g a b:=by
 by_cases e:i=b
 ·subst e;exact ⟨h.srt,h.same,h.o⟩
 ·obtain rfl:b=a:=om
  obtain rfl:i=b+1:=om
  refine ⟨fun p q h1 h2 h3=>by omega,fun x=>⟨fun ⟨k,h1,h2,_⟩=>by omega,fun ⟨k,h1,h2,_⟩=>by omega⟩,fun k hk=>?_⟩;by_cases e2:k=b
  ·subst e2;obtain ⟨q,q1,q2,q3⟩:=(h.same (f k)).1 ⟨k,Nat.le_refl _,om,rfl⟩;obtain rfl:q=k:=om
   exact q3
  ·exact h.o k om
def mvR (f:Fn) (a k:Nat):Fn:=fun p=>if a<=p/\p<k then f (p+1) else if p=k then f a else f p
theorem mvR_zero (f:Fn) (a:Nat):mvR f a a=f:=by
 funext p;unfold mvR;rw[if_neg om];by_cases h:p=a
 ·rw[if_pos h,h]
 ·rw[if_neg h]
theorem mvR_succ (f:Fn) (a k:Nat) (h:a<=k):swp (mvR f a k) k (k+1)=mvR f a (k+1):=by
 funext p;unfold swp mvR;by_cases h1:p=k
 ·rw[if_pos h1,if_neg om,if_neg om,if_pos om,h1]
 ·rw[if_neg h1];by_cases h2:p=k+1
  ·rw[if_pos h2,if_neg om,if_pos rfl,if_neg om,if_pos h2]
  ·rw[if_neg h2];by_cases h3:a<=p/\p<k
   ·rw[if_pos h3,if_pos om]
   ·rw[if_neg h3,if_neg om,if_neg om,if_neg h2]
def mvL (f:Fn) (m k:Nat):Fn:=fun p=>if k<p/\p<=m then f (p-1) else if p=k then f m else f p
theorem mvL_zero (f:Fn) (m:Nat):mvL f m m=f:=by
 funext p;unfold mvL;rw[if_neg om];by_cases h:p=m
 ·rw[if_pos h,h]
 ·rw[if_neg h]
theorem mvL_succ (f:Fn) (m k:Nat) (h:k<=m) (h0:0<k):swp (mvL f m k) k (k-1)=mvL f m (k-1):=by
 funext p;unfold swp mvL;by_cases h1:p=k
 ·rw[if_pos h1,if_neg om,if_neg om,if_pos om,h1]
 ·rw[if_neg h1];by_cases h2:p=k-1
  ·rw[if_pos h2,if_neg om,if_pos rfl,if_neg om,if_pos h2]
  ·rw[if_neg h2];by_cases h3:k<p/\p<=m
   ·rw[if_pos h3,if_pos om]
   ·rw[if_neg h3,if_neg om,if_neg om,if_neg h2]
theorem Mrg.one {f:Fn} (h:Mrg L f a (a+1) b) (hO:Ord L) (hi:a+1<=i) (hib:i<=b)
 (h1:∀k,a+1<=k->k<i->L (f k) (f a)=true) (h2:∀k,i<=k->k<b->L (f k) (f a)=false):MrgOk L f (mvR f a (i-1)) a b where
 srt:=fun p q p1 p2 p3=>by
  have hgt:∀k,i<=k->k<b->L (f a) (f k)=true:=fun k k1 k2=>hO.tot _ _ (by have:=h.ap a k lr om om k2;omega) (h2 k k1 k2)
  unfold mvR;by_cases e1:p<i-1
  ·rw[if_pos ⟨p1,e1⟩];by_cases e2:q<i-1
   ·rw[if_pos om];exact h.s2 _ _ om om om
   ·rw[if_neg om];by_cases e3:q=i-1
    ·rw[if_pos e3];exact h1 _ om om
    ·rw[if_neg e3];exact h.s2 _ _ om om om
  ·rw[if_neg (show ¬(a<=p/\p<i-1) by omega),if_neg (show ¬(a<=q/\q<i-1) by omega),if_neg (show ¬q=i-1 by omega)];by_cases e3:p=i-1
   ·rw[if_pos e3];exact hgt q om om
   ·rw[if_neg e3];exact h.s2 _ _ om p2 om
 same:=fun x=>by
  constructor
  ·rintro ⟨k,k1,k2,k3⟩;by_cases e:k=a
   ·exact ⟨i-1,om,om,by unfold mvR;rw[if_neg om,if_pos rfl, <-e];exact k3⟩
   ·by_cases e2:k<i
    ·exact ⟨k-1,om,om,by unfold mvR;rw[if_pos om, <-k3];congr 1;omega⟩
    ·exact ⟨k,om,om,by unfold mvR;rw[if_neg om,if_neg om];exact k3⟩
  ·rintro ⟨k,k1,k2,k3⟩;unfold mvR at k3;by_cases e1:k<i-1
   ·rw[if_pos om] at k3;exact ⟨_,om,om,k3⟩
   ·rw[if_neg om] at k3;by_cases e2:k=i-1
    ·rw[if_pos e2] at k3;exact ⟨a,om,by have:=h.mb;omega,k3⟩
    ·rw[if_neg e2] at k3;exact ⟨k,k1,k2,k3⟩
 o:=fun k hk=>by unfold mvR;rw[if_neg om,if_neg om]
theorem Mrg.oneR {f:Fn} (h:Mrg L f a m (m+1)) (hO:Ord L) (hi:a<=i) (him:i<=m)
 (h1:∀k,a<=k->k<i->L (f m) (f k)=false) (h2:∀k,i<=k->k<m->L (f m) (f k)=true):MrgOk L f (mvL f m i) a (m+1) where
 srt:=fun p q p1 p2 p3=>by
  have hgt:∀k,a<=k->k<i->L (f k) (f m)=true:=fun k k1 k2=>hO.tot _ _ (by have:=h.ap k m k1 om lr om;omega) (h1 k k1 k2)
  unfold mvL;by_cases e1:i<q
  ·rw[if_pos (show i<q/\q<=m by omega)];by_cases e2:i<p
   ·rw[if_pos om];exact h.s1 _ _ om om om
   ·rw[if_neg om];by_cases e3:p=i
    ·rw[if_pos e3];exact h2 _ om om
    ·rw[if_neg e3];exact h.s1 _ _ om om om
  ·rw[if_neg (show ¬(i<p/\p<=m) by omega),if_neg (show ¬(i<q/\q<=m) by omega),if_neg (show ¬p=i by omega)];by_cases e3:q=i
   ·rw[if_pos e3];exact hgt p om om
   ·rw[if_neg e3];exact h.s1 _ _ om p2 om
 same:=fun x=>by
  have ham:=h.am;constructor
  ·rintro ⟨k,k1,k2,k3⟩;by_cases e:k=m
   ·exact ⟨i,om,om,by unfold mvL;rw[if_neg om,if_pos rfl, <-e];exact k3⟩
   ·by_cases e2:i<=k
    ·exact ⟨k+1,om,om,by unfold mvL;rw[if_pos om, <-k3];congr 1⟩
    ·exact ⟨k,om,om,by unfold mvL;rw[if_neg om,if_neg om];exact k3⟩
  ·rintro ⟨k,k1,k2,k3⟩;unfold mvL at k3;by_cases e1:i<k
   ·rw[if_pos om] at k3;exact ⟨_,om,om,k3⟩
   ·rw[if_neg om] at k3;by_cases e2:k=i
    ·rw[if_pos e2] at k3;exact ⟨m,om,om,k3⟩
    ·rw[if_neg e2] at k3;exact ⟨k,k1,k2,k3⟩
 o:=fun k hk=>by unfold mvL;rw[if_neg om,if_neg om]
structure Cut (L:Int->Int->Bool) (f:Fn) (a m b s e:Nat):Prop where
 las:a<=s
 sm:s<=m
 me:m<=e
 eb:e<=b
 up:s<m->m<e->L (f (e-1)) (f s)=true
 dn:a<s->e<b->L (f e) (f (s-1))=false
theorem Cut.halves {f:Fn} {e:Nat} (c:Cut L f a m b s e) (h:Mrg L f a m b) (hO:Ord L):
 (a<s->s<s+(e-m)->Mrg L (rot f s m e) a s (s+(e-m)))/\(s+(e-m)<e->e<b->Mrg L (rot f s m e) (s+(e-m)) e b)/\
 (s=a->Srt L (rot f s m e) a (s+(e-m)))/\(e=m->Srt L (rot f s m e) a (s+(e-m)))/\
 (e=b->Srt L (rot f s m e) (s+(e-m)) b)/\(s=m->Srt L (rot f s m e) (s+(e-m)) b)/\
 (∀ i j,a<=i->i<s+(e-m)->s+(e-m)<=j->j<b->L (rot f s m e i) (rot f s m e j)=true):=by
 have ham:=h.am;have hmb:=h.mb;have has:=c.las;have hsm:=c.sm;have hme:=c.me;have heb:=c.eb;have r1:∀k,k<s->rot f s m e k=f k:=fun k hk=>by unfold rot;rw[if_neg om,if_neg om]
 have r2:∀k,s<=k->k<s+(e-m)->rot f s m e k=f (k-s+m):=fun k h1 h2=>by unfold rot;rw[if_pos om]
 have r3:∀k,s+(e-m)<=k->k<e->rot f s m e k=f (k-(s+(e-m))+s):=fun k h1 h2=>by unfold rot;rw[if_neg om,if_pos om]
 have r4:∀k,e<=k->rot f s m e k=f k:=fun k hk=>by unfold rot;rw[if_neg om,if_neg om]
 have S1:Srt L (rot f s m e) a s:=fun p q p1 p2 p3=>by rw[r1 p om,r1 q p3];exact h.s1 p q p1 p2 om
 have S2:Srt L (rot f s m e) s (s+(e-m)):=fun p q p1 p2 p3=>by rw[r2 p p1 om,r2 q om p3];exact h.s2 _ _ om om om
 have S3:Srt L (rot f s m e) (s+(e-m)) e:=fun p q p1 p2 p3=>by rw[r3 p p1 om,r3 q om p3];exact h.s1 _ _ om om om
 have S4:Srt L (rot f s m e) e b:=fun p q p1 p2 p3=>by rw[r4 p p1,r4 q om];exact h.s2 _ _ om om om
 have B13:∀i j,a<=i->i<s->s<=j->j<m->L (f i) (f j)=true:=fun i j h1 h2 h3 h4=>h.s1 i j h1 om h4
 have B24:∀i j,m<=i->i<e->e<=j->j<b->L (f i) (f j)=true:=fun i j h1 h2 h3 h4=>h.s2 i j h1 om h4
 have B23:∀i j,m<=i->i<e->s<=j->j<m->L (f i) (f j)=true:=fun i j h1 h2 h3 h4=>by
  have u:=c.up om om;have x1:i=e-1\/L (f i) (f (e-1))=true:=by
   by_cases e1:i=e-1
   ·exact .inl e1
   ·exact .inr (h.s2 i (e-1) h1 om om)
  have x2:j=s\/L (f s) (f j)=true:=by
   by_cases e1:j=s
   ·exact .inl e1
   ·exact .inr (h.s1 s j om om h4)
  have y1:L (f i) (f s)=true:=by
   rcases x1 with rfl|x1
   ·exact u
   ·exact hO.tr _ _ _ x1 u
  rcases x2 with rfl|x2
  ·exact y1
  ·exact hO.tr _ _ _ y1 x2
 have B14:∀i j,a<=i->i<s->e<=j->j<b->L (f i) (f j)=true:=fun i j h1 h2 h3 h4=>by
  have d:=c.dn om om;have u:L (f (s-1)) (f e)=true:=hO.tot _ _ (by have:=h.ap (s-1) e om om om om;omega) d;have x1:i=s-1\/L (f i) (f (s-1))=true:=by
   by_cases e1:i=s-1
   ·exact .inl e1
   ·exact .inr (h.s1 i (s-1) h1 om om)
  have x2:j=e\/L (f e) (f j)=true:=by
   by_cases e1:j=e
   ·exact .inl e1
   ·exact .inr (h.s2 e j om om h4)
  have y1:L (f i) (f e)=true:=by
   rcases x1 with rfl|x1
   ·exact u
   ·exact hO.tr _ _ _ x1 u
  rcases x2 with rfl|x2
  ·exact y1
  ·exact hO.tr _ _ _ y1 x2
 refine ⟨fun h1 h2=>⟨h1,h2,S1,S2,fun i j i1 i2 j1 j2=>?_⟩,fun h1 h2=>⟨h1,h2,S3,S4,fun i j i1 i2 j1 j2=>?_⟩,fun e1=>?_,fun e1=>?_,fun e1=>?_,fun e1=>?_,fun i j i1 i2 j1 j2=>?_⟩
 ·rw[r1 i om,r2 j j1 j2];exact h.ap _ _ i1 om om om
 ·rw[r3 i i1 i2,r4 j j1];exact h.ap _ _ om om om om
 ·subst e1;exact S2
 ·have:s+(e-m)=s:=om
  rw[this];exact S1
 ·rw[<- e1];exact S3
 ·have:s+(e-m)=e:=om
  rw[this];exact S4
 ·by_cases k1:i<s
  ·rw[r1 i k1];by_cases k2:j<e
   ·rw[r3 j j1 k2];exact B13 _ _ i1 k1 om om
   ·rw[r4 j om];exact B14 _ _ i1 k1 om j2
  ·rw[r2 i om i2];by_cases k2:j<e
   ·rw[r3 j j1 k2];exact B23 _ _ om om om om
   ·rw[r4 j om];exact B24 _ _ om om om j2
theorem MrgOk.join {f g g1 g2:Fn} (hac:a<=c) (hcb:c<=b) (hsame:Same f g a b) (hout:Outw f g a b)
 (hx:∀i j,a<=i->i<c->c<=j->j<b->L (g i) (g j)=true) (h1:MrgOk L g g1 a c) (h2:MrgOk L g1 g2 c b):MrgOk L f g2 a b where
 srt:=fun i j i1 i2 i3=>by
  by_cases k1:j<c
  ·rw[h2.o i om,h2.o j om];exact h1.srt i j i1 i2 k1
  ·by_cases k2:c<=i
   ·exact h2.srt i j k2 i2 i3
   ·obtain ⟨p,p1,p2,p3⟩:=(h1.same _).2 ⟨i,i1,om,rfl⟩;obtain ⟨q,q1,q2,q3⟩:=(h2.same _).2 ⟨j,om,i3,rfl⟩;rw[h2.o i om, <-p3, <-q3,h1.o q om];exact hx p q p1 p2 q1 q2
 same:=hsame.trans ((h1.same.more h1.o lr hcb).trans (h2.same.more h2.o hac lr))
 o:=hout.trans ((h1.o.more lr hcb).trans (h2.o.more hac lr))
theorem MrgOk.none {g:Fn} (h:Srt L g a c):MrgOk L g g a c:=⟨h,Same.refl _ _ _,Outw.refl _ _ _⟩
structure Srch (L:Int->Int->Bool) (f:Fn) (p s0 r0 s r:Nat):Prop where
 h1:s0<=s
 h2:s<=r
 h3:r<=r0
 lo:s0<s->L (f (p-(s-1))) (f (s-1))=false
 hi:r<r0->L (f (p-r)) (f r)=true
theorem Srch.start (L:Int->Int->Bool) (f:Fn) (p s0 r0:Nat) (h:s0<=r0):Srch L f p s0 r0 s0 r0:=⟨Nat.le_refl _,h,Nat.le_refl _,fun h=>absurd h (Nat.lt_irrefl _),fun h=>absurd h (Nat.lt_irrefl _)⟩
theorem Srch.right {f:Fn} {p:Nat} (h:Srch L f p s0 r0 s r) (h1:s<=c) (h2:c<r) (hc:L (f (p-c)) (f c)=false):Srch L f p s0 r0 (c+1) r:=
 ⟨by have:=h.h1;omega,om,h.h3,fun _=>hc,h.hi⟩
theorem Srch.left {f:Fn} {p:Nat} (h:Srch L f p s0 r0 s r) (h1:s<=c) (h2:c<r) (hc:L (f (p-c)) (f c)=true):Srch L f p s0 r0 s c:=
 ⟨h.h1,h1,by have:=h.h3;omega,h.lo,fun _=>hc⟩
theorem Srch.cut {f:Fn} {mid:Nat} (ham:a<m) (hmb:m<b) (hmid:mid=(a+b)/2) (h0:(mid<m/\s0=mid+m-b/\r0=mid)\/(m<=mid/\s0=a/\r0=m)) (h:Srch L f (mid+m-1) s0 r0 s s):
 Cut L f a m b s (mid+m-s)/\s+(mid+m-s-m)=mid/\s<=mid:=by
 obtain ⟨h1,-,h3,lo,hi⟩:=h;refine ⟨⟨om,om,om,om,fun k1 k2=>?_,fun k1 k2=>?_⟩,om,om⟩
 ·have:=hi om;rw[show mid+m-s-1=mid+m-1-s by omega];exact this
 ·have:=lo om;rw[show mid+m-s=mid+m-1-(s-1) by omega];exact this
end Go.Proofs.YtikilcbpogfgkaaGreat.Stab
namespace Go.Proofs.YtikilcbpogfgkaaGreat
open Go.RowKit
variable {w:World} {p:Option Addr} {n c j i a b a' b' m s s0 r0 r:Nat} {ops:Array Oper} {L:Int->Int->Bool} {P:Program} {Q:Exit->Act->World->Prop} {fin:List Out->Oper->Prop} {l1 l2:Int}
def ahd (p1 l1 p2 l2:Int):Bool:=decide (p2<p1)||(decide (p1=p2)&&decide (l2<l1))
theorem ahd_ne {p1 p2:Int} (h:p1≠p2):ahd p1 l1 p2 l2=decide (p2<p1):=by unfold ahd;simp[h]
theorem ahd_eq {p:Int}:ahd p l1 p l2=decide (l2<l1):=by unfold ahd;simp
theorem ahead_any (t1 l1 q1 a1 t2 l2 q2 a2:Int) (p1 r1 p2 r2:Option Addr) (n1 c1 m1 d1 n2 c2 m2 d2:Nat) (w:World):
 Calls Tryz.prog 156 #[.agg #[.int .i64 t1, .slice p1 n1 c1, .int .i64 l1, .int .i64 q1, .int .i64 a1, .slice r1 m1 d1], .agg #[.int .i64 t2, .slice p2 n2 c2, .int .i64 l2, .int .i64 q2, .int .i64 a2, .slice r2 m2 d2]] w
  fun e w'=>e= .returned (.bool (ahd q1 l1 q2 l2))/\Bl w w':=by
 by_cases h:q1=q2
 ·subst h;have hA:Hd (ahd q1 l1 q1 l2=decide (l2<l1)):=ahd_eq;go_enter Tryz.func156,Tryz.ntmps156;go_wp2;go_ret;exact ⟨by rw[hA.o];rfl,bL⟩
 ·have hA:Hd (ahd q1 l1 q2 l2=decide (q2<q1)):=ahd_ne h;go_enter Tryz.func156,Tryz.ntmps156;go_wp2;go_ret;exact ⟨by rw[hA.o];rfl,bL⟩
theorem eql_pair {d:Nat} (W:World):(Go.binOp .eql 82 (.agg #[.int .u64 (a:Int), .int .u64 (b:Int)]) (.agg #[.int .u64 (c:Int), .int .u64 (d:Int)])).run Tryz.prog W= .ok (.bool (decide (a=c)&&decide (b=d))) W:=by
 have e1:decide (a=c)=decide ((a:Int)=c):=by simp only[decide_eq_decide];omega
 have e2:decide (b=d)=decide ((b:Int)=d):=by simp only[decide_eq_decide];omega
 rw[e1,e2];by_cases h1:(a:Int)=c<;>by_cases h2:(b:Int)=d<;>simp[go_sem,h1,h2]
def agr (p:Pt) (n:Nat):Bool:=decide (n &&& p.m=p.v)
theorem agrees_any (p:Pt) (n:Nat) (w:World) (hn:n<B*B) (hv:p.v<B*B) (hm:p.m<B*B):
 Calls Tryz.prog 69 #[patV p,numV n] w fun e w'=>e= .returned (.bool (agr p n))/\Bl w w':=by
 unfold patV numV;obtain ⟨v,m⟩:=p;simp only at hv hm⊢;have HA:Hd (∀ W,CR 101 #[.agg #[.int .u64 ((n/B:Nat):Int), .int .u64 ((n%B:Nat):Int)], .agg #[.int .u64 ((m/B:Nat):Int), .int .u64 ((m%B:Nat):Int)]] W (.agg #[.int .u64 (((n &&& m)/B:Nat):Int), .int .u64 (((n &&& m)%B:Nat):Int)])):=fun W=>numAnd_any n m W hn hm
 have HG:Hd (agr ⟨v,m⟩ n=(decide ((n &&& m)/B=v/B)&&decide ((n &&& m)%B=v%B))):=by
  show _=_;unfold agr;by_cases h:n &&& m=v
  ·simp[h]
  ·simp only[h,decide_false];symm;rw[Bool.and_eq_false_iff];by_cases h2:(n &&& m)/B=v/B
   ·right;refine decide_eq_false fun h3=>h ?_
    rw[<- Nat.div_add_mod (n &&& m) B, <-Nat.div_add_mod v B,h2,h3]
   ·left;exact decide_eq_false h2
 obtain ⟨nh,e1⟩:=nm (n/B);obtain ⟨nl,e2⟩:=nm (n%B);obtain ⟨mh,e3⟩:=nm (m/B);obtain ⟨ml,e4⟩:=nm (m%B);obtain ⟨vh,e5⟩:=nm (v/B);obtain ⟨vl,e6⟩:=nm (v%B);obtain ⟨rh,e7⟩:=nm ((n &&& m)/B);obtain ⟨rl,e8⟩:=nm ((n &&& m)%B);rw[<- e1, <-e2, <-e3, <-e4, <-e7, <-e8] at HA;rw[<- e5, <-e6, <-e7, <-e8] at HG;rw[<- e1, <-e2, <-e3, <-e4, <-e5, <-e6];clear e1 e2 e3 e4 e5 e6 e7 e8;obtain ⟨rb,hrb⟩:=nm (decide (rh=vh)&&decide (rl=vl));have heq:∀W,(Go.binOp .eql 82 (.agg #[.int .u64 (rh:Int), .int .u64 (rl:Int)]) (.agg #[.int .u64 (vh:Int), .int .u64 (vl:Int)])).run Tryz.prog W= .ok (.bool rb) W:=fun W=>by rw[hrb];exact eql_pair W
 rw[<- hrb] at HG;clear hrb;go_enter Tryz.func69,Tryz.ntmps69;go_wp2_with fail;have hbx:Bl w ((w.alloc (.cells #[.int .u64 (vh:Int), .int .u64 (vl:Int), .int .u64 (mh:Int), .int .u64 (ml:Int)] 142)).alloc (.cells #[.int .u64 (nh:Int), .int .u64 (nl:Int)] 82)):=bL;generalize hX:(w.alloc (.cells #[.int .u64 (vh:Int), .int .u64 (vl:Int), .int .u64 (mh:Int), .int .u64 (ml:Int)] 142)).alloc (.cells #[.int .u64 (nh:Int), .int .u64 (nl:Int)] 82)=X at hbx;have x0:X.cell? ⟨w.heap.size,0,none⟩=some (.int .u64 (vh:Int)):=by rw[<- hX];simp[go_sem]
 have x1:X.cell? ⟨w.heap.size,1,none⟩=some (.int .u64 (vl:Int)):=by rw[<- hX];simp[go_sem]
 have x2:X.cell? ⟨w.heap.size,2,none⟩=some (.int .u64 (mh:Int)):=by rw[<- hX];simp[go_sem]
 have x3:X.cell? ⟨w.heap.size,3,none⟩=some (.int .u64 (ml:Int)):=by rw[<- hX];simp[go_sem]
 have x4:X.cell? ⟨w.heap.size+1,0,none⟩=some (.int .u64 (nh:Int)):=by rw[<- hX];simp[go_sem]
 have x5:X.cell? ⟨w.heap.size+1,1,none⟩=some (.int .u64 (nl:Int)):=by rw[<- hX];simp[go_sem]
 have hx:=hD (And.intro (below_drewN hbx 1) (And.intro x0 (And.intro x1 (And.intro x2 (And.intro x3 (And.intro x4 x5))))));clear hX hbx;go_region_held3 (fun Wk=>Below (w.heap.size) (w) Wk/\Wk.cell? ⟨w.heap.size,0,none⟩=some (.int .u64 (vh:Int))/\Wk.cell? ⟨w.heap.size,1,none⟩=some (.int .u64 (vl:Int))/\Wk.cell? ⟨w.heap.size,2,none⟩=some (.int .u64 (mh:Int))/\Wk.cell? ⟨w.heap.size,3,none⟩=some (.int .u64 (ml:Int))/\Wk.cell? ⟨w.heap.size+1,0,none⟩=some (.int .u64 (nh:Int))/\Wk.cell? ⟨w.heap.size+1,1,none⟩=some (.int .u64 (nl:Int)))
  (first|exact hx.o|exact held_6_0 hb1 (by assumption)|assumption)
  (first
  |(go_at_call 101;(with_reducible refine (HA.o _).mono ?_);rintro e w1 ⟨rfl,hb1⟩))
 rename_i hS;have HB:=hD hS.1;clear hS;go_wp2_with fail;go_ret;exact ⟨by rw[HG.o];rfl,HB.o⟩
end Go.Proofs.YtikilcbpogfgkaaGreat
