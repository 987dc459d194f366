/-
  Lemmas, joined: OutL, CycA.
-/
import Derived.Test.YtjfhfaodbjecdaaGreatJC03
import Derived.Test.YtjfhfaodbjecdaaGreatJC14
import Derived.LoopN
set_option maxHeartbeats 12800000
set_option maxRecDepth 100000
namespace Go.Proofs.YtjfhfaodbjecdaaGreat
open Go.RowKit
def coversO (ops:Array Oper):Bool:=(List.range (ops.size-1)).all fun i=>(List.range ops.size).any fun j=>decide (i<j)&&(match ops[j]? with|some o=>(depsOf o).contains i|none=>false)
theorem covers_at {ops:Array Oper} (h:coversO ops=true) {i:Nat} (hi:i<ops.size-1):∃j o,i<j/\ops[j]?=some o/\i∈depsOf o:=by
 unfold coversO at h;rw[List.all_eq_true] at h;have:=h i (List.mem_range.2 hi);rw[List.any_eq_true] at this;obtain ⟨j,-,h2⟩:=this;rw[Bool.and_eq_true,decide_eq_true_eq] at h2;obtain ⟨h3,h4⟩:=h2;split at h4
 ·rename_i o ho;exact ⟨j,o,h3,ho,by simpa using h4⟩
 ·cases h4
theorem covers_all {ops:Array Oper} (h:coversO ops=true) {L:Array Bool} (hdp:∀i o,didO L i=true->ops[i]?=some o->∀j∈depsOf o,didO L j=true) (hl:∀o,ops[ops.size-1]?=some o->∀j∈depsOf o,didO L j=true):∀(k i:Nat),i+k=ops.size-1->i<ops.size-1->didO L i=true:=by
 intro k;induction k using Nat.strongRecOn with
 |_ k ih=>
  intro i hk hi;obtain ⟨j,o,h1,h2,h3⟩:=covers_at h hi;have hj:j<ops.size:=(Array.getElem?_eq_some_iff.1 h2).1;by_cases e:j=ops.size-1
  ·subst e;exact hl o h2 i h3
  ·exact hdp j o (ih (ops.size-1-j) (by omega) j (by omega) (by omega)) h2 i h3
def StepsL (P:Program) (ops:Array Oper) (Q:Exit->Act->World->Prop) (S:World->Prop) (a0:Act):List Oper->List Out->(List Out->Oper->Prop)->Prop
 |[],_,_=>False
 |[o],Rs,fin=>fin Rs.reverse o
 |o::o2::rest,Rs,fin=>∃k:Out,k.keeps/\k.js=[]/\(∀ (a:Act) (w:World) (l:Nat->Value),AtO S Rs.reverse ops a0 o a w l->OutStep P ops Q o k l a w)/\StepsL P ops Q S a0 (o2::rest) (k::Rs) fin
theorem stepsL_O {P:Program} {ops:Array Oper} {Q:Exit->Act->World->Prop} {S:World->Prop} {a0:Act} {fin:List Out->Oper->Prop}:∀(os:List Oper) (Rs:List Out),StepsL P ops Q S a0 os Rs fin->∃os1 last,os=os1++[last]/\StepsO P ops Q S a0 os1 Rs fun Ks=>fin Ks last
 |[],_,h=>h.elim
 |[o],Rs,h=>⟨[],o,rfl,h⟩
 |o::o2::rest,Rs,h=>by
  obtain ⟨k,h1,h2,h3,h4⟩:=h;obtain ⟨os1,last,e,h5⟩:=stepsL_O (o2::rest) (k::Rs) h4;exact ⟨o::os1,last,by rw[e];rfl,k,h1,h2,h3,h5⟩
theorem layO_app {l:Nat->Value}:∀(ks:List Out) (os xs:List Oper) (i:Nat) (a:Act),ks.length=os.length->layO a l ks (os++xs) i=layO a l ks os i
 |[],[],xs,_,a,_=>by unfold layO;rfl
 |[],_::_,_,_,_,h=>by cases h
 |_::_,[],_,_,_,h=>by cases h
 |k::ks,o::os,xs,i,a,h=>by
  rw[List.cons_append,layO,layO];exact layO_app ks os xs (i+1) _ (by simpa using h)
theorem region_outL {P:Program} {os:List Oper} {Q:Exit->Act->World->Prop} {id:Nat} {a0:Act} {w:World} (hm:P.follows .mixedOrders=true) (S:World->Prop)
 (hst:∀w w',S w->Below w.heap.size w w'->S w') (hchk:chkAll os.toArray a0.tmps.size (os.map fun _=>[])=true) (hcov:coversO os.toArray=true) (h0:S w.drew)
 (hsteps:StepsL P os.toArray Q S a0 os [] fun Ks last=>∀(l:Nat->Value) (w:World),S w->(∀ (i:Nat) (k:Out),Ks[i]?=some k->k.ok l w (l i))->last.guard=none/\last.wp P (layO a0 l Ks os 0) w (fun a' w'=>Q .normal a' w') Q):(Code.region id os.toArray true).wp P Q a0 w:=by
 obtain ⟨os1,last,hos,hO⟩:=stepsL_O os [] hsteps;obtain ⟨Kf,-,h2,h3,h4,h5⟩:=stepsO_full os1 [] (fun k hk=>by cases hk) hO;rw[List.length_nil,Nat.zero_add] at h2;obtain ⟨ops,hops⟩:∃ops,ops=os.toArray:=⟨_,rfl⟩;obtain ⟨Ks,hKs⟩:∃Ks,Ks=Kf++[Out.eq undef]:=⟨_,rfl⟩;have hsz:ops.size=os1.length+1:=by rw[hops,hos];simp
 have hn1:ops.size-1=os1.length:=by omega
 have hat0:∀i,i<os1.length->ops[i]?=os1[i]?:=fun i hi=>by rw[hops,hos];simp[List.getElem?_append_left hi]
 have hlast:ops[os1.length]?=some last:=by rw[hops,hos];simp
 rw[<- hops] at hchk hcov h5⊢;have hlen:Ks.length=ops.size:=by rw[hKs,hsz,List.length_append,h2];rfl
 have hKat:∀i,i<os1.length->Ks[i]?=Kf[i]?:=fun i hi=>by rw[hKs,List.getElem?_append_left (by omega)]
 have hjs:∀k∈Ks,k.keeps/\k.js=[]:=fun k hk=>by
  rw[hKs,List.mem_append] at hk;rcases hk with hk|hk
  ·exact h4 k hk
  ·rw[List.mem_singleton] at hk;subst hk;exact ⟨trivial,rfl⟩
 have hc:∀i o,ops[i]?=some o->∀k,Ks[i]?=some k->ChkO ops a0.tmps.size i k.js o:=fun i o ho k hk=>by
  have:=chk_at hchk ho;rw[(hjs k (List.mem_of_getElem? hk)).2];have e:(os.map fun _=>([]:List Nat)).getD i []=[]:=by
   rw[List.getD_eq_getElem?_getD,List.getElem?_map];cases os[i]?<;>rfl
  rw[e] at this;exact ChkO.of this
 have hget:∀i o,ops[i]?=some o->∃k,Ks[i]?=some k:=fun i o ho=>⟨_,List.getElem?_eq_getElem (by rw[hlen];exact (Array.getElem?_eq_some_iff.1 ho).1)⟩
 have hkp:∀k∈Ks,k.keeps:=fun k hk=>(hjs k hk).1
 refine wp_region_invO hm (fun L a w=>((∀ i,i<ops.size->didO L i=true)/\Q .normal a w)\/(didO L os1.length=false/\∃l,InO S Ks ops a0 L l a w)) ?_ ?_ ?_ ?_
 ·refine .inr ⟨didO_none _ _,fun _=>undef,by simp,⟨rfl,rfl,fun _ _=>rfl,fun j d hj=>?_⟩,h0,fun i hi=>?_,fun i o hi=>?_⟩
  ·rw[didO_none] at hj;cases hj
  ·rw[didO_none] at hi;cases hi
  ·rw[didO_none] at hi;cases hi
 ·rintro L a w i hL hi hn hd (⟨hall,-⟩|⟨hnl,l,hI⟩)
  ·rw[hall i hi] at hn;cases hn
  ·have ho:=Array.getElem?_eq_getElem hi;obtain ⟨k,hk⟩:=hget i _ ho;have ci:=hc i _ ho k hk;have hd':∀j∈depsOf ops[i],didO L j=true:=fun j hj=>by
    unfold depsOf at hj;rw[List.mem_map] at hj;obtain ⟨e,he,rfl⟩:=hj;rw[List.mem_filter] at he;exact hd _ ho e (by simpa using he.1) he.2
   have hat:AtO S Ks ops a0 ops[i] a w l:=by
    refine ⟨hI.inv,fun t ht=>eval_of (hI.fr.old t fun j _ e=>?_),fun j hj d hjd=>eval_some (hI.fr.new j d (hd' j (by simpa using hj)) hjd),fun j hj kj hkj=>hI.ok j (hd' j (by simpa using hj)) kj hkj,fun g b hg=>?_⟩
    ·unfold writes at ht;rw[List.any_eq_false] at ht;unfold dstOf at e;cases q:ops[j]? with
     |none=>rw[q] at e;cases e
     |some o'=>
      rw[q] at e;have:=ht o' (by rw[Array.mem_toList_iff];exact Array.mem_of_getElem? q);rw[beq_iff_eq] at this;exact this e
    ·obtain ⟨h1,d,h2⟩:=ci.guard g b hg;have:=hI.fr.new g d (hd' g h1) h2;unfold yielded;have e2:(ops[g]?).bind (·.dst)=some d:=h2;rw[e2];simp only[Option.bind_some,this];cases l g<;>rfl
   by_cases hil:i<os1.length
   ·have hs:=(h5 i ops[i] k (by rw[<- hat0 i hil];exact ho) (by rw[List.length_nil,Nat.zero_add, <-hKat i hil];exact hk)) a w l (by
     rw[List.length_nil,Nat.zero_add];exact ⟨hat.inv,hat.old,hat.dep,fun j hj k' hk'=>hat.ok j hj k' (by
      rw[List.getElem?_take] at hk';split at hk'
      ·rw[hKat j (by omega)];exact hk'
      ·cases hk'),hat.yield⟩)
    have hnl2:didO (L.setIfInBounds i true) os1.length=false:=by
     rw[didO_set (by omega),hnl];have:decide (os1.length=i)=false:=by simp;omega
     rw[this];rfl
    refine wpOp_step ho fun K hK=>?_
    unfold OutStep at hs;split
    ·rename_i hw;rw[if_pos hw] at hs;exact hs K fun v w' hb hv=>hK _ _ (.inr ⟨hnl2,_,hI.step hst hkp hc hlen ho hk hn hd' hb hv⟩)
    ·rename_i hw;rw[if_neg hw] at hs;exact hK _ _ (.inr ⟨hnl2,_,hI.step hst hkp hc hlen ho hk hn hd' (Below.refl _ _) hs⟩)
   ·obtain rfl:i=os1.length:=by omega
    have hlo:ops[os1.length]=last:=by rw[hlast] at ho;cases ho;rfl
    have hall:∀j,j<os1.length->didO L j=true:=fun j hj=>covers_all hcov hI.dp (fun o ho2=>by
     rw[hn1,hlast] at ho2;cases ho2;rw[<- hlo];exact hd') (os1.length-j) j (by omega) (by omega)
    have hok:∀(i:Nat) (k:Out),Kf[i]?=some k->k.ok l w (l i):=fun i k hk=>by
     have hi2:i<os1.length:=by rw[<- h2];exact (List.getElem?_eq_some_iff.1 hk).1
     exact hI.ok i (hall i hi2) k (by rw[hKat i hi2];exact hk)
    have e:a=layO a0 l Kf os1 0:=by
     obtain ⟨s1,s2⟩:=layO_sz (l:=l) Kf os1 0 a0;have ht:a.tmps=(layO a0 l Kf os1 0).tmps:=by
      refine Array.ext_getElem? fun s=>?_
      by_cases hw:∃j,j<os1.length/\dstOf ops j=some s
      ·obtain ⟨j,hj,hjd⟩:=hw;have hoj:ops[j]?=some os1[j]:=by rw[hat0 j hj];exact List.getElem?_eq_getElem hj
       obtain ⟨k,hk⟩:=hget j _ hoj;have hd:(os1[j]).dst=some s:=by unfold dstOf at hjd;rw[hoj] at hjd;exact hjd
       have cj:=hc j _ hoj k hk;have hkf:Kf[j]?=some k:=by rw[<- hKat j hj];exact hk
       rw[hI.fr.new j s (hall j hj) hjd,layO_new Kf os1 0 a0 j os1[j] k s h2 hkf (List.getElem?_eq_getElem hj) hd (cj.dst s hd).1 (fun y o' hy ho' e=>(cj.dst s hd).2 y hy (by
        unfold dstOf;have hyl:=(List.getElem?_eq_some_iff.1 ho').1;rw[hat0 y hyl,ho'];exact e)),Nat.zero_add]
       have:=hok j k hkf;cases k with
       |eq u=>have h2:l j=u:=this;rw[h2];rfl
       |rel p=>rfl
       |fn js F=>rfl
      ·rw[hI.fr.old s fun j hj e=>hw ⟨j,(by
        by_cases hjn:j<os1.length
        ·exact hjn
        ·unfold dstOf at e;cases q:ops[j]? with
         |none=>rw[q] at e;cases e
         |some o'=>
          have:=(Array.getElem?_eq_some_iff.1 q).1;have hjeq:j=os1.length:=by omega
          rw[hjeq,hnl] at hj;cases hj),e⟩]
       rw[(layO_at (a0:=a0) Kf os1 0 a0 s h2 fun x o ho e=>hw ⟨x,(List.getElem?_eq_some_iff.1 ho).1,by
        unfold dstOf;rw[hat0 x (List.getElem?_eq_some_iff.1 ho).1,ho];exact e⟩).1]
     obtain ⟨t,df⟩:=a;have hdf:df=a0.defers:=hI.fr.df;generalize hX:layO a0 l Kf os1 0=X at*;obtain ⟨t2,df2⟩:=X;simp only at ht s2;rw[ht,hdf,s2]
    obtain ⟨hg,hwp⟩:=h3 l w hI.inv hok;rw[hos,layO_app Kf os1 [last] 0 a0 h2, <-e] at hwp;refine wpOp_step ho fun K hK=>?_
    rw[hlo];have hw:Region.wanted last (yielded ops a.tmps)=true:=by unfold Region.wanted;rw[hg]
    rw[if_pos hw];refine Oper.wp_mono ?_ hwp;intro a' w' hq;refine hK _ _ (.inl ⟨fun j hj=>?_,hq⟩);rw[didO_set (by omega)];by_cases ej:j=os1.length
    ·simp[ej]
    ·rw[hall j (by omega)];simp
 ·intro i o ho e he hb;obtain ⟨k,hk⟩:=hget i o ho;exact (hc i o ho k hk).back e.on (by unfold depsOf;exact List.mem_map.2 ⟨e,List.mem_filter.2 ⟨by simpa using he,hb⟩,rfl⟩)
 ·rintro L a w hall (⟨-,hq⟩|⟨hnl,-⟩)
  ·exact hq
  ·rw[hall _ (by omega)] at hnl;cases hnl
section
variable {P:Program} {ops:Array Oper} {Q:Exit->Act->World->Prop} {o:Oper} {l:Nat->Value} {a:Act} {w w':World} {S:World->Prop} {Ks:List Out} {a0:Act}
theorem stqL {o2:Oper} {rest:List Oper} {Rs:List Out} {fin:List Out->Oper->Prop} (v:Value) (h:∀(a:Act) (w:World) (l:Nat->Value),AtO S Rs.reverse ops a0 o a w l->OutStep P ops Q o (.eq v) l a w) (hr:StepsL P ops Q S a0 (o2::rest) (.eq v::Rs) fin):StepsL P ops Q S a0 (o::o2::rest) Rs fin:=⟨.eq v,trivial,rfl,h,hr⟩
end
open Go.RowKit
theorem onCycle_any (s:PgS) (p:Prg) (i:Nat) (w:World) (hp:PgOk w s p) (hS:Sm p) (hall:∀x∈p.steps,mayStepP p x=true) (hi:i<p.steps.length):
 Calls Tryz.prog 38 #[pgV s, .int .i64 (i:Int)] w fun e w'=>e= .returned (.bool (cycP p i))/\Below w.heap.size w w':=by
 obtain ⟨R,hR⟩:∃R,R=cycP p i:=⟨_,rfl⟩;rw[<- hR];obtain ⟨hs1,-,-,-⟩:=hp.steps.ln;have HG:=hD (goesIn_of hall);have HST:=hD (CycI.start hi);have HP:=hD hp;have HSM:=hD hS;have HR:=hD hR;have HN:=hD hs1;have HSL:Hid (s.sn<=6000):=by show _<=_;have:=hS.steps;omega
 clear hR hp hS hall hi hs1;obtain ⟨I,hI⟩:∃I,I=(i:Int):=⟨_,rfl⟩;unfold cycP at HR;rw[<- hI] at HST HR⊢;clear hI;unfold pgV;go_enter Tryz.func38,Tryz.ntmps38;go_upto_region 2 with fail
 obtain ⟨W0,hW0⟩:∃W0,W0=w.alloc (.cells #[.slice s.hp s.hn s.hc, .slice s.mp s.mn s.mc, .slice s.sp s.sn s.sc, .slice s.ap s.an s.ac, .slice s.tp s.tn s.tc, .slice s.cp s.cn s.cc, .slice s.ep s.en s.ec, .slice s.v1 s.n1 s.c1, .slice s.v2 s.n2 s.c2, .slice s.v3 s.n3 s.c3, .slice s.v4 s.n4 s.c4, .slice s.v5 s.n5 s.c5] 33):=⟨_,rfl⟩;have HB0:Hid (Below w.heap.size w W0):=by show Below _ _ _;rw[hW0];exact (by repeat (first|exact Below.refl _ _|assumption|refine Below.drew ?_|refine blA ?_|refine blS ?_|refine blT ?_ (by assumption)))
 have HPB:Hid (PBox W0 w.heap.size s):=by show _=_;rw[hW0];exact heap_new _ _
 have hR0:Rws W0.heap.size (W0.alloc (.cells #[.int .i64 I] 3)) (.slice none 0 0) (.slice (some ⟨W0.heap.size,0,none⟩) 1 1) (.slice none 0 0) (.slice none 0 0) [] [I] [] []:=
  ⟨OwnI.nil _ _,OwnI.one _ _ (Nat.le_refl _),OwnI.nil _ _,OwnI.nil _ _,nil_ap _,nil_ap _,nil_ap _,ap_nil _,ap_nil _,nil_ap _⟩
 have HR0:=hD hR0;have HB1:Hid (Below W0.heap.size W0 (W0.alloc (.cells #[.int .i64 I] 3))):=(Below.refl _ _).alloc (Nat.le_refl _) _;rw[<- hW0];clear hW0 hR0;go_wp2_with fail;go_loopw [5,6,7,8,9,10,11,12] (fun v5 v6 v7 v8 v9 v10 v11 v12 wr=>∃fuel S N,Hid (N.length<=6000)/\Hid (CycI p I fuel S N)/\Hid (R=cycF p I fuel S N)/\Hid (Rws W0.heap.size wr v5 v6 (.slice none 0 0) (.slice none 0 0) S N [] [])/\Hid (Below W0.heap.size W0 wr)) (fun v5 v6 v7 v8 v9 v10 v11 v12 wr=>if lenOf v6=0 then 0 else p.steps.length+2-lenOf v5)
 case atStart=>exact ⟨_,_,_,by show _<=_;simp,HST.out,HR.out,HR0.out,HB1.out⟩
 case round=>
  obtain ⟨fuel,S,N,HNB,HC,HR,HRW,HW⟩:=hrel;obtain ⟨na,nc,rfl⟩:=HRW.out.n.shape;obtain ⟨sa,sc,rfl⟩:=HRW.out.s.shape;obtain ⟨nn,hnn⟩:∃n,n=N.length:=⟨_,rfl⟩;obtain ⟨sn0,hsn0⟩:∃n,n=S.length:=⟨_,rfl⟩;rw[<- hnn, <-hsn0] at HRW⊢;have HNN:=hD hnn;rw[<- hnn] at HNB;have HSN:=hD hsn0;clear hnn hsn0;by_cases hlt:0<nn
  ·have hlt':(0:Int)<(nn:Int):=by omega
   have hne:N≠[]:=fun e=>by have:=HNN.out;rw[e] at this;simp at this;omega
   have HNE:=hD hne;obtain ⟨V,hV⟩:∃V,V=visN p I N (S,[]):=⟨_,rfl⟩;have HV:=hD hV;clear hne hV;have HX0:Hid (Rws W0.heap.size wr (.slice sa sn0 sc) (.slice na nn nc) (.slice none 0 0) (.slice none 0 0) S N [] []):=HRW.out;go_wp2_with fail;go_loopw [5,7,8,9,10,11,12] (fun u5 u7 u8 u9 u10 u11 u12 wq=>∃(j:Nat) (S' X':List Int),j<=nn/\u8= .int .i64 j/\Hid (V=visN p I (N.drop j) (S',X'))/\Hid (Bd p S' X')/\Hid (Rws W0.heap.size wq u5 (.slice na nn nc) u7 (.slice none 0 0) S' N X' [])/\Hid (Below W0.heap.size W0 wq)) (fun u5 u7 u8 u9 u10 u11 u12 _=>nn-(intOf u8).toNat)
   case atStart=>exact ⟨0,_,_,Nat.zero_le _,rfl,HV.out,HC.out.bnd,HX0.out,HW.out⟩
   case round=>
    obtain ⟨j,S',X',hj,rfl,HVJ,HBD,HRQ,HWQ⟩:=hrel;by_cases hjl:j<nn
    ·have hjl':(j:Int)<(nn:Int):=by omega
     obtain ⟨t,ht⟩:∃t,N[j]?=some t:=⟨_,List.getElem?_eq_getElem (by have:=HNN.out;omega)⟩;have ht0:=HC.out.nw t (List.mem_of_getElem? ht);obtain ⟨m,rfl⟩:∃m:Nat,t=(m:Int):=⟨t.toNat,by omega⟩;have hml:m<p.steps.length:=by omega
     obtain ⟨x,hx⟩:∃x,p.steps[m]?=some x:=⟨_,List.getElem?_eq_getElem hml⟩;have hxe:stepAt p (m:Int)=x:=by unfold stepAt;rw[Int.toNat_natCast];exact getD_some hx
     have hxm:=List.mem_of_getElem? hx;have hbq:=HB0.out.trans (HWQ.out.mono HB0.out.size);have HBQ:=hD hbq;obtain ⟨sb,so,hps,hsb,⟨tp,tn,tc,y0,hy0⟩,⟨kp,kn,kc,y1,hy1⟩,⟨bp,bn,bc,y2,hy2⟩,y3⟩:=HP.out.steps.get hx;obtain ⟨nb,no,hna,hnb,hnc⟩:=RowAt.get HRQ.out.n.row ht;obtain ⟨xt,hxt⟩:∃xt,xt=x.to:=⟨_,rfl⟩;have HBN:Hid (bn=x.brs.length/\kn=x.keys.length/\bn<=6000):=⟨hy2.ln.1,hy1.ln.1,by have:=hy2.ln.1;have:=HSM.out.brs x hxm;omega⟩;have HVX:Hid (V=contV p I (N.drop (j+1)) (visT I (goesP x) (S',X'))):=by show _=_;rw[HVJ.out,visN_at ht,hxe]
     have HGX:Hid (∀ t∈goesP x,t<(p.steps.length:Int)):=HG.out _ _ hx;have HBR:=hD hy2;have HXT:Hid (x.to=xt):=hxt.symm;rw[<- hxt] at y3;rw[Nat.mul_one] at hnc;have hmi:(m:Int)<(s.sn:Int):=by have:=HN.out;omega
     have HNA:=hD hna;have HCE:Hid (∀ W,Below wr.heap.size wr W->W.cell? ⟨w.heap.size,2,none⟩=some (.slice (some ⟨sb,so,none⟩) s.sn s.sc)/\W.cell? ⟨nb,no+j,none⟩=some (.int .i64 m)/\W.cell? ⟨sb,so+m*4,none⟩=some (.slice tp tn tc)/\W.cell? ⟨sb,so+m*4+1,none⟩=some (.slice kp kn kc)/\W.cell? ⟨sb,so+m*4+2,none⟩=some (.slice bp bn bc)/\W.cell? ⟨sb,so+m*4+3,none⟩=some (.int .i64 xt)):=fun W h=>by
      obtain ⟨-,-,q2,-⟩:=(HPB.out.below (HWQ.out.trans (h.mono HWQ.out.size))).cells;rw[hps] at q2;have hb:=HBQ.out.trans (h.mono HBQ.out.size);exact ⟨q2,(h.cell (p:=⟨nb,no+j,none⟩) hnb).trans hnc,(hb.cell (p:=⟨sb,so+m*4,none⟩) hsb).trans y0,(hb.cell (p:=⟨sb,so+m*4+1,none⟩) hsb).trans y1,(hb.cell (p:=⟨sb,so+m*4+2,none⟩) hsb).trans y2,(hb.cell (p:=⟨sb,so+m*4+3,none⟩) hsb).trans y3⟩
     rw[hna];clear hxe hxt ht hx hxm hps hna hy0 hy1 hy2 ht0 hml hnc hnb hsb y0 y1 y2 y3 hbq;go_upto_region 8 with fail
     refine region_outL (by kernel_rfl) (fun Wk=>Below wr.heap.size wr Wk) (fun w1 w2 h1 h2=>h1.trans (h2.mono h1.size)) (by kernel_rfl) (by kernel_rfl) (Below.drew (Below.refl _ _)) ?_;refine stqL ?_ (fun aa ww ll hh=>?_) ?_;rotate_left
     ·have e2:=hh.oL 2;exact ov gX
     refine stqL ?_ (fun aa ww ll hh=>?_) ?_;rotate_left
     ·have e24:=hh.gt 0 0;obtain ⟨z0,z1,z2,z3,z4,z5⟩:=HCE.out ww hh.inv;exact ov gX
     refine stqL ?_ (fun aa ww ll hh=>?_) ?_;rotate_left
     ·have e6:=hh.oL 6;refine ov ?_;rw[xmv e6]
     refine stqL ?_ (fun aa ww ll hh=>?_) ?_;rotate_left
     ·have e8:=hh.oL 8;refine ov ?_;rw[xmv e8]
     refine stqL ?_ (fun aa ww ll hh=>?_) ?_;rotate_left
     ·have e26:=hh.gt 2 1;have e27:=hh.gt 3 0;exact ov gX
     refine stqL ?_ (fun aa ww ll hh=>?_) ?_;rotate_left
     ·have e28:=hh.gt 4 0;obtain ⟨z0,z1,z2,z3,z4,z5⟩:=HCE.out ww hh.inv;exact ov gX
     refine stqL ?_ (fun aa ww ll hh=>?_) ?_;rotate_left
     ·have e25:=hh.gt 1 4;have e29:=hh.gt 5 0;exact ov gX
     refine stqL ?_ (fun aa ww ll hh=>?_) ?_;rotate_left
     ·have e30:=hh.gt 6 0;obtain ⟨z0,z1,z2,z3,z4,z5⟩:=HCE.out ww hh.inv;exact ov gX
     refine ⟨.rel (fun W v=>∃g,v= .pointer (some ⟨g,0,none⟩)/\wr.heap.size<=g/\W.heap[g]?=some (.cells #[.slice none 0 0, .slice none 0 0, .slice none 0 0, .int .i64 0] 92 (0,0))),(fun _ _ _ ⟨g,h1,h2,h3⟩ hb=>⟨g,h1,h2,(hb.block g (Array.getElem?_eq_some_iff.1 h3).1).trans h3⟩),rfl,fun aa ww ll hh=>?_,?_⟩
     ·have hsz:=hh.inv.size;clear hh;refine out_new (wanted_none rfl) (w':=ww.alloc (.cells #[.slice none 0 0, .slice none 0 0, .slice none 0 0, .int .i64 0] 92)) (v:= .pointer (some ⟨ww.heap.size,0,none⟩)) ?_ ((Below.refl _ _).alloc (Nat.le_refl _) _) ⟨_,rfl,hsz,heap_new _ _⟩;go_simp
      try rfl
     intro ll w2 hS hok;have p8:=hok 8 _ rfl;clear hok;simp only[List.reverse_cons,List.reverse_nil,List.nil_append,List.cons_append,layO,Out.val,Act.put,List.setIfInBounds_toArray,List.set_cons_zero,List.set_cons_succ];refine ⟨(by first|trivial|rfl),?_⟩;obtain ⟨g,hg,hgl,hgb⟩:=p8;rw[hg];have c0:w2.cell? ⟨g,0,none⟩=some (.slice none 0 0):=by simp[World.cell?,hgb]
     have f0:w2.frozen? ⟨g,0,none⟩=false:=by simp[World.frozen?,hgb]
     have c1:w2.cell? ⟨g,1,none⟩=some (.slice none 0 0):=by simp[World.cell?,hgb]
     have f1:w2.frozen? ⟨g,1,none⟩=false:=by simp[World.frozen?,hgb]
     have c2:w2.cell? ⟨g,2,none⟩=some (.slice none 0 0):=by simp[World.cell?,hgb]
     have f2:w2.frozen? ⟨g,2,none⟩=false:=by simp[World.frozen?,hgb]
     have c3:w2.cell? ⟨g,3,none⟩=some (.int .i64 0):=by simp[World.cell?,hgb]
     have f3:w2.frozen? ⟨g,3,none⟩=false:=by simp[World.frozen?,hgb]
     clear hg;unfold Oper.wp;go_simp;rename_i hK;refine hK _ _ ?_;clear hK;have hb3:SBox (set4 w2 g (.slice tp tn tc) (.slice kp kn kc) (.slice bp bn bc) (.int .i64 xt)) g tp tn tc kp kn kc bp bn bc xt:=set4_heap _ _ _ _ hgb;have hB3:=set4_below (.slice tp tn tc) (.slice kp kn kc) (.slice bp bn bc) (.int .i64 xt) hS hgl;change Code.wp _ _ _ _ (set4 w2 g (.slice tp tn tc) (.slice kp kn kc) (.slice bp bn bc) (.int .i64 xt));generalize set4 w2 g (.slice tp tn tc) (.slice kp kn kc) (.slice bp bn bc) (.int .i64 xt)=W3 at*;clear c0 f0 c1 f1 c2 f2 c3 f3 hgb hS hgl;have HS3:=hD hb3;have HB3:Hid (Below W0.heap.size W0 W3):=HWQ.out.trans (hB3.mono HWQ.out.size);have HR3:=hD (HRQ.out.below hB3);rw[HNA.out] at HR3;clear hb3 hB3;obtain ⟨x0,x1,x2,x3⟩:=HS3.out.cells;by_cases hk0:kn=0
     ·have hk0i:((kn:Int)==0)=true:=by rw[beq_iff_eq];omega
      have hk0j:(kn:Int)=0:=by omega
      have HT:Hid (goesP x=[xt]++x.brs.map Brn.to):=by show _=_;unfold goesP;rw[if_pos (by have:=HBN.out.2.1;omega),HXT.out]
      go_wp2_with (refine app_int rfl (.tmp 36) (.tmp 39) rfl W0.heap.size (.slice none 0 0) [] rfl (HR3.out.alloc _).t W3.heap.size xt rfl (by simp[go_sem]) (by simp) (by have:=HB3.out.size;simp only[World.size_alloc];omega) ?_;intro v4 w4 h1 h2;have HR4:=hD ((HR3.out.alloc _).appT h1 h2);have HB4:Hid (Below W0.heap.size W0 w4):=h2.below (HR3.out.alloc _).t (HB3.out.alloc HB3.out.size _) (Nat.le_refl _) (by have:=HB3.out.size;simp only[World.size_alloc];omega);have HS4:=hD ((HS3.out.below ((Below.refl _ _).alloc (Nat.le_refl _) _)).grw h2 (HR3.out.alloc _).t);clear h1 h2);go_loopw [10,11] (fun u10 u11 wq=>∃k:Nat,k<=bn/\u11= .int .i64 k/\Hid (Rws W0.heap.size wq u5 (.slice (some ⟨nb,no,none⟩) nn nc) u7 u10 S' N X' ([xt]++(x.brs.take k).map Brn.to))/\Hid (Below W0.heap.size W0 wq)/\Hid (SBox wq g tp tn tc kp kn kc bp bn bc xt)) (fun _ u11 _=>bn-(intOf u11).toNat)
      case atStart=>exact ⟨0,Nat.zero_le _,rfl,HR4.out,HB4.out,HS4.out⟩
      case round=>
       clear x0 x1 x2 x3;obtain ⟨k,hk,rfl,HRK,HBK,HSK⟩:=hrel;obtain ⟨x0,x1,x2,x3⟩:=HSK.out.cells;by_cases hkl:k<bn
       ·have hkl':(k:Int)<(bn:Int):=by omega
        have hb6:bn<=6000:=HBN.out.2.2;obtain ⟨y,hy⟩:∃y,x.brs[k]?=some y:=⟨_,List.getElem?_eq_getElem (by have:=HBN.out.1;omega)⟩;have hbk:=HB0.out.trans (HBK.out.mono HB0.out.size);obtain ⟨bb,bo,p1,n1,c1',hbp,hbb,hb0,hbr,hb1⟩:=BrnRow.el (HBR.out.below keepBrn hbk) hy;obtain ⟨yt,hyt⟩:∃yt,yt=y.to:=⟨_,rfl⟩;have HTK:Hid (([xt]++(x.brs.take k).map Brn.to)++[yt]=[xt]++(x.brs.take (k+1)).map Brn.to):=by show _=_;rw[List.append_assoc,hyt,brs_take x hy]
        have HTL:Hid (([xt]++(x.brs.take k).map Brn.to).length<=1000000):=by
         show _<=_;have h1:=HBN.out;have h2:(x.brs.take k).length<=k:=List.length_take_le ..;simp only[List.length_append,List.length_map,List.length_cons,List.length_nil];omega
        rw[<- hyt] at hb1;have HSP:=hD hbp;rw[hbp] at x2;clear hy hyt hbp hbb hb0 hbr hbk;go_wp2_with (refine app_int rfl (.tmp 48) (.tmp 55) rfl W0.heap.size u10 _ rfl (HRK.out.alloc _).t wr.heap.size yt rfl (by simp[go_sem]) HTL.out (by have:=HBK.out.size;simp only[World.size_alloc];omega) ?_;intro v6 w6 h1 h2;have HR6:=hD ((HRK.out.alloc _).appT h1 h2);have HB6:Hid (Below W0.heap.size W0 w6):=h2.below (HRK.out.alloc _).t (HBK.out.alloc HBK.out.size _) (Nat.le_refl _) (by have:=HBK.out.size;simp only[World.size_alloc];omega);have HS6:=hD ((HSK.out.below ((Below.refl _ _).alloc (Nat.le_refl _) _)).grw h2 (HRK.out.alloc _).t);clear h1 h2);go_roundw
        case rel=>exact ⟨k+1,by omega,by go_num,by have:=HR6.out;rw[HTK.out] at this;exact this,HB6.out,HS6.out⟩
        case measure=>simp[intOf];omega
       ·obtain rfl:k=bn:=by omega
        have hkl':¬(k:Int)<(k:Int):=by omega
        have hTL:[xt]++(x.brs.take k).map Brn.to=goesP x:=by rw[HT.out,List.take_of_length_le (by have:=HBN.out.1;omega)]
        rw[hTL] at HRK;clear hTL;obtain ⟨ta,tc',rfl⟩:=HRK.out.t.shape;obtain ⟨ln,hln⟩:∃n,n=(goesP x).length:=⟨_,rfl⟩;rw[<- hln] at HRK⊢;have HLN:=hD hln;have HL2:Hid (ln<=6001):=by show _<=_;have:=goesP_ln x;have:=HBN.out;omega
        clear hln;go_wp2_with fail;go_loopw [5,7,12] (fun t5 t7 t12 wq=>∃(q:Nat) (S2 X2:List Int),q<=ln/\t12= .int .i64 q/\Hid (V=contV p I (N.drop (j+1)) (visT I ((goesP x).drop q) (S2,X2)))/\Hid (Bd p S2 X2)/\Hid (Rws W0.heap.size wq t5 (.slice (some ⟨nb,no,none⟩) nn nc) t7 (.slice ta ln tc') S2 N X2 (goesP x))/\Hid (Below W0.heap.size W0 wq)) (fun _ _ t12 _=>ln-(intOf t12).toNat)
        case atStart=>exact ⟨0,_,_,Nat.zero_le _,rfl,HVX.out,HBD.out,HRK.out,HBK.out⟩
        case round=>
         clear x0 x1 x2 x3;obtain ⟨q,S2,X2,hq,rfl,HVQ,HB2,HR2,HW2⟩:=hrel;by_cases hql:q<ln
         ·have hql':(q:Int)<(ln:Int):=by omega
          have hl6:ln<=6001:=HL2.out;obtain ⟨t,ht⟩:∃t,(goesP x)[q]?=some t:=⟨_,List.getElem?_eq_getElem (by have:=HLN.out;omega)⟩;have htl:=HGX.out t (List.mem_of_getElem? ht);have hv:=HVQ.out;rw[visT_at ht] at hv;obtain ⟨tb,to,hta,hc⟩:=HR2.out.tcell ht;subst hta;obtain ⟨va,vc,rfl⟩:=HR2.out.s.shape;obtain ⟨sl,hsl⟩:∃n,n=S2.length:=⟨_,rfl⟩;have hsl2:sl<=6000:=by have:=HB2.out.len;have:=HN.out;have:=HSL.out;omega
          rw[<- hsl] at HR2⊢;have HVT:=hD hv;have HTT:=hD (And.intro ht htl);have HS2:=hD (And.intro hsl hsl2);clear hv ht htl hsl hsl2;by_cases e1:t=I
          ·subst e1;have e2:(t==t)=true:=by simp
           have hr:R=true:=by
            have h1:=HVT.out;rw[if_pos rfl] at h1;rw[HR.out];exact HC.out.found HNE.out (HV.out.symm.trans h1)
           have hbw:=HB0.out.trans (HW2.out.mono HB0.out.size);go_wp2_with fail;go_ret;exact ⟨by first|rfl|(rw[hr];rfl),hbw⟩
          ·have e2:(t==I)=false:=by rw[beq_eq_false_iff_ne];exact e1
           have hv2:=HVT.out;rw[if_neg e1] at hv2;by_cases e3:t<0
           ·have e4:¬0<=t:=by omega
            rw[if_neg (fun h=>e4 h.1)] at hv2;have HV2:=hD hv2;clear hv2;go_wp2_with fail;go_roundw
            case rel=>exact ⟨q+1,_,_,by omega,by go_num,HV2.out,HB2.out,HR2.out,HW2.out⟩
            case measure=>simp[intOf];omega
           ·have e4:0<=t:=by omega
            obtain ⟨r,hr⟩:∃r,r=S2.contains t:=⟨_,rfl⟩;have HIN:Hid (Calls Tryz.prog 58 #[.slice va sl vc, .int .i64 t] wr fun e w'=>e= .returned (.bool r)/\Below wr.heap.size wr w'):=by rw[hr];exact in10_any S2 _ _ _ t wr HR2.out.s.row (by have:=HS2.out;omega)
            cases r
            ·have hv3:¬t∈S2:=fun h=>by rw[<- List.contains_iff_mem] at h;rw[h] at hr;cases hr
             rw[if_pos ⟨e4,hv3⟩] at hv2;have HV2:=hD hv2;have HBP:=hD (HB2.out.push hv3 e4 HTT.out.2);clear hv2 hv3 hr;go_upto_region 23 with (first
              |(go_at_call 58;refine HIN.out.mono ?_;rintro e w7 ⟨rfl,hb7⟩;have HR7:=hD (HR2.out.below hb7);have HW7:Hid (Below W0.heap.size W0 w7):=HW2.out.trans (hb7.mono HW2.out.size);clear hb7;obtain ⟨_,_,hta7,hc7⟩:=HR7.out.tcell HTT.out.1;cases hta7)
              |(refine app_int rfl (.tmp 83) (.tmp 88) rfl W0.heap.size (.slice va sl vc) _ rfl (HR7.out.alloc _).s w7.heap.size t rfl (by simp[go_sem]) (by have:=HS2.out;omega) (by have:=HW7.out.size;simp only[World.size_alloc];omega) ?_;intro v8 w8 h1 h2;have HR8:=hD ((HR7.out.alloc _).appS h1 h2);have HW8:Hid (Below W0.heap.size W0 w8):=h2.below (HR7.out.alloc _).s (HW7.out.alloc HW7.out.size _) (Nat.le_refl _) (by have:=HW7.out.size;simp only[World.size_alloc];omega);clear h1 h2;obtain ⟨_,_,hta8,hc8⟩:=HR8.out.tcell HTT.out.1;cases hta8))
             go_wp2_with ((refine app_int rfl (.tmp 90) (.tmp 95) rfl W0.heap.size u7 _ rfl (HR8.out.alloc _).x w8.heap.size t rfl (by simp[go_sem]) (by have:=HS2.out;have:=HB2.out.xl;omega) (by have:=HW8.out.size;simp only[World.size_alloc];omega) ?_;intro v9 w9 h1 h2;have HR9:=hD ((HR8.out.alloc _).appX h1 h2);have HW9:Hid (Below W0.heap.size W0 w9):=h2.below (HR8.out.alloc _).x (HW8.out.alloc HW8.out.size _) (Nat.le_refl _) (by have:=HW8.out.size;simp only[World.size_alloc];omega);clear h1 h2));go_roundw
             case rel=>exact ⟨q+1,_,_,by omega,by go_num,HV2.out,HBP.out,HR9.out,HW9.out⟩
             case measure=>simp[intOf];omega
            ·have hv3:t∈S2:=by rw[<- List.contains_iff_mem];exact hr.symm
             rw[if_neg (fun h=>h.2 hv3)] at hv2;have HV2:=hD hv2;clear hv2 hv3 hr;go_wp2_with (go_at_call 58;refine HIN.out.mono ?_;rintro e w7 ⟨rfl,hb7⟩;have HR7:=hD (HR2.out.below hb7);have HW7:Hid (Below W0.heap.size W0 w7):=HW2.out.trans (hb7.mono HW2.out.size);clear hb7);go_roundw
             case rel=>exact ⟨q+1,_,_,by omega,by go_num,HV2.out,HB2.out,HR7.out,HW7.out⟩
             case measure=>simp[intOf];omega
         ·obtain rfl:q=ln:=by omega
          have hql':¬(q:Int)<(q:Int):=by omega
          have hv:=HVQ.out;rw[HLN.out,visT_end] at hv;have HV3:Hid (V=visN p I (N.drop (j+1)) (S2,X2)):=hv;have HR3':=hD HR2.out.noT;have hn6:nn<=6000:=HNB.out;clear hv;go_wp2_with fail;go_roundw
          case rel=>exact ⟨j+1,_,_,by omega,by go_num,HV3.out,HB2.out,HR3'.out,HW2.out⟩
          case measure=>simp[intOf];omega
     ·have hk0i:((kn:Int)==0)=false:=by rw[beq_eq_false_iff_ne];omega
      have hk0j:¬(kn:Int)=0:=by omega
      have HT:Hid (goesP x=[]++x.brs.map Brn.to):=by show _=_;unfold goesP;rw[if_neg (by have:=HBN.out.2.1;omega)]
      go_wp2_with fail;go_loopw [10,11] (fun u10 u11 wq=>∃k:Nat,k<=bn/\u11= .int .i64 k/\Hid (Rws W0.heap.size wq u5 (.slice (some ⟨nb,no,none⟩) nn nc) u7 u10 S' N X' ([]++(x.brs.take k).map Brn.to))/\Hid (Below W0.heap.size W0 wq)/\Hid (SBox wq g tp tn tc kp kn kc bp bn bc xt)) (fun _ u11 _=>bn-(intOf u11).toNat)
      case atStart=>exact ⟨0,Nat.zero_le _,rfl,HR3.out,HB3.out,HS3.out⟩
      case round=>
       clear x0 x1 x2 x3;obtain ⟨k,hk,rfl,HRK,HBK,HSK⟩:=hrel;obtain ⟨x0,x1,x2,x3⟩:=HSK.out.cells;by_cases hkl:k<bn
       ·have hkl':(k:Int)<(bn:Int):=by omega
        have hb6:bn<=6000:=HBN.out.2.2;obtain ⟨y,hy⟩:∃y,x.brs[k]?=some y:=⟨_,List.getElem?_eq_getElem (by have:=HBN.out.1;omega)⟩;have hbk:=HB0.out.trans (HBK.out.mono HB0.out.size);obtain ⟨bb,bo,p1,n1,c1',hbp,hbb,hb0,hbr,hb1⟩:=BrnRow.el (HBR.out.below keepBrn hbk) hy;obtain ⟨yt,hyt⟩:∃yt,yt=y.to:=⟨_,rfl⟩;have HTK:Hid (([]++(x.brs.take k).map Brn.to)++[yt]=[]++(x.brs.take (k+1)).map Brn.to):=by show _=_;rw[List.append_assoc,hyt,brs_take x hy]
        have HTL:Hid (([]++(x.brs.take k).map Brn.to).length<=1000000):=by
         show _<=_;have h1:=HBN.out;have h2:(x.brs.take k).length<=k:=List.length_take_le ..;simp only[List.length_append,List.length_map,List.length_cons,List.length_nil];omega
        rw[<- hyt] at hb1;have HSP:=hD hbp;rw[hbp] at x2;clear hy hyt hbp hbb hb0 hbr hbk;go_wp2_with (refine app_int rfl (.tmp 48) (.tmp 55) rfl W0.heap.size u10 _ rfl (HRK.out.alloc _).t wr.heap.size yt rfl (by simp[go_sem]) HTL.out (by have:=HBK.out.size;simp only[World.size_alloc];omega) ?_;intro v6 w6 h1 h2;have HR6:=hD ((HRK.out.alloc _).appT h1 h2);have HB6:Hid (Below W0.heap.size W0 w6):=h2.below (HRK.out.alloc _).t (HBK.out.alloc HBK.out.size _) (Nat.le_refl _) (by have:=HBK.out.size;simp only[World.size_alloc];omega);have HS6:=hD ((HSK.out.below ((Below.refl _ _).alloc (Nat.le_refl _) _)).grw h2 (HRK.out.alloc _).t);clear h1 h2);go_roundw
        case rel=>exact ⟨k+1,by omega,by go_num,by have:=HR6.out;rw[HTK.out] at this;exact this,HB6.out,HS6.out⟩
        case measure=>simp[intOf];omega
       ·obtain rfl:k=bn:=by omega
        have hkl':¬(k:Int)<(k:Int):=by omega
        have hTL:[]++(x.brs.take k).map Brn.to=goesP x:=by rw[HT.out,List.take_of_length_le (by have:=HBN.out.1;omega)]
        rw[hTL] at HRK;clear hTL;obtain ⟨ta,tc',rfl⟩:=HRK.out.t.shape;obtain ⟨ln,hln⟩:∃n,n=(goesP x).length:=⟨_,rfl⟩;rw[<- hln] at HRK⊢;have HLN:=hD hln;have HL2:Hid (ln<=6001):=by show _<=_;have:=goesP_ln x;have:=HBN.out;omega
        clear hln;go_wp2_with fail;go_loopw [5,7,12] (fun t5 t7 t12 wq=>∃(q:Nat) (S2 X2:List Int),q<=ln/\t12= .int .i64 q/\Hid (V=contV p I (N.drop (j+1)) (visT I ((goesP x).drop q) (S2,X2)))/\Hid (Bd p S2 X2)/\Hid (Rws W0.heap.size wq t5 (.slice (some ⟨nb,no,none⟩) nn nc) t7 (.slice ta ln tc') S2 N X2 (goesP x))/\Hid (Below W0.heap.size W0 wq)) (fun _ _ t12 _=>ln-(intOf t12).toNat)
        case atStart=>exact ⟨0,_,_,Nat.zero_le _,rfl,HVX.out,HBD.out,HRK.out,HBK.out⟩
        case round=>
         clear x0 x1 x2 x3;obtain ⟨q,S2,X2,hq,rfl,HVQ,HB2,HR2,HW2⟩:=hrel;by_cases hql:q<ln
         ·have hql':(q:Int)<(ln:Int):=by omega
          have hl6:ln<=6001:=HL2.out;obtain ⟨t,ht⟩:∃t,(goesP x)[q]?=some t:=⟨_,List.getElem?_eq_getElem (by have:=HLN.out;omega)⟩;have htl:=HGX.out t (List.mem_of_getElem? ht);have hv:=HVQ.out;rw[visT_at ht] at hv;obtain ⟨tb,to,hta,hc⟩:=HR2.out.tcell ht;subst hta;obtain ⟨va,vc,rfl⟩:=HR2.out.s.shape;obtain ⟨sl,hsl⟩:∃n,n=S2.length:=⟨_,rfl⟩;have hsl2:sl<=6000:=by have:=HB2.out.len;have:=HN.out;have:=HSL.out;omega
          rw[<- hsl] at HR2⊢;have HVT:=hD hv;have HTT:=hD (And.intro ht htl);have HS2:=hD (And.intro hsl hsl2);clear hv ht htl hsl hsl2;by_cases e1:t=I
          ·subst e1;have e2:(t==t)=true:=by simp
           have hr:R=true:=by
            have h1:=HVT.out;rw[if_pos rfl] at h1;rw[HR.out];exact HC.out.found HNE.out (HV.out.symm.trans h1)
           have hbw:=HB0.out.trans (HW2.out.mono HB0.out.size);go_wp2_with fail;go_ret;exact ⟨by first|rfl|(rw[hr];rfl),hbw⟩
          ·have e2:(t==I)=false:=by rw[beq_eq_false_iff_ne];exact e1
           have hv2:=HVT.out;rw[if_neg e1] at hv2;by_cases e3:t<0
           ·have e4:¬0<=t:=by omega
            rw[if_neg (fun h=>e4 h.1)] at hv2;have HV2:=hD hv2;clear hv2;go_wp2_with fail;go_roundw
            case rel=>exact ⟨q+1,_,_,by omega,by go_num,HV2.out,HB2.out,HR2.out,HW2.out⟩
            case measure=>simp[intOf];omega
           ·have e4:0<=t:=by omega
            obtain ⟨r,hr⟩:∃r,r=S2.contains t:=⟨_,rfl⟩;have HIN:Hid (Calls Tryz.prog 58 #[.slice va sl vc, .int .i64 t] wr fun e w'=>e= .returned (.bool r)/\Below wr.heap.size wr w'):=by rw[hr];exact in10_any S2 _ _ _ t wr HR2.out.s.row (by have:=HS2.out;omega)
            cases r
            ·have hv3:¬t∈S2:=fun h=>by rw[<- List.contains_iff_mem] at h;rw[h] at hr;cases hr
             rw[if_pos ⟨e4,hv3⟩] at hv2;have HV2:=hD hv2;have HBP:=hD (HB2.out.push hv3 e4 HTT.out.2);clear hv2 hv3 hr;go_upto_region 23 with (first
              |(go_at_call 58;refine HIN.out.mono ?_;rintro e w7 ⟨rfl,hb7⟩;have HR7:=hD (HR2.out.below hb7);have HW7:Hid (Below W0.heap.size W0 w7):=HW2.out.trans (hb7.mono HW2.out.size);clear hb7;obtain ⟨_,_,hta7,hc7⟩:=HR7.out.tcell HTT.out.1;cases hta7)
              |(refine app_int rfl (.tmp 83) (.tmp 88) rfl W0.heap.size (.slice va sl vc) _ rfl (HR7.out.alloc _).s w7.heap.size t rfl (by simp[go_sem]) (by have:=HS2.out;omega) (by have:=HW7.out.size;simp only[World.size_alloc];omega) ?_;intro v8 w8 h1 h2;have HR8:=hD ((HR7.out.alloc _).appS h1 h2);have HW8:Hid (Below W0.heap.size W0 w8):=h2.below (HR7.out.alloc _).s (HW7.out.alloc HW7.out.size _) (Nat.le_refl _) (by have:=HW7.out.size;simp only[World.size_alloc];omega);clear h1 h2;obtain ⟨_,_,hta8,hc8⟩:=HR8.out.tcell HTT.out.1;cases hta8))
             go_wp2_with ((refine app_int rfl (.tmp 90) (.tmp 95) rfl W0.heap.size u7 _ rfl (HR8.out.alloc _).x w8.heap.size t rfl (by simp[go_sem]) (by have:=HS2.out;have:=HB2.out.xl;omega) (by have:=HW8.out.size;simp only[World.size_alloc];omega) ?_;intro v9 w9 h1 h2;have HR9:=hD ((HR8.out.alloc _).appX h1 h2);have HW9:Hid (Below W0.heap.size W0 w9):=h2.below (HR8.out.alloc _).x (HW8.out.alloc HW8.out.size _) (Nat.le_refl _) (by have:=HW8.out.size;simp only[World.size_alloc];omega);clear h1 h2));go_roundw
             case rel=>exact ⟨q+1,_,_,by omega,by go_num,HV2.out,HBP.out,HR9.out,HW9.out⟩
             case measure=>simp[intOf];omega
            ·have hv3:t∈S2:=by rw[<- List.contains_iff_mem];exact hr.symm
             rw[if_neg (fun h=>h.2 hv3)] at hv2;have HV2:=hD hv2;clear hv2 hv3 hr;go_wp2_with (go_at_call 58;refine HIN.out.mono ?_;rintro e w7 ⟨rfl,hb7⟩;have HR7:=hD (HR2.out.below hb7);have HW7:Hid (Below W0.heap.size W0 w7):=HW2.out.trans (hb7.mono HW2.out.size);clear hb7);go_roundw
             case rel=>exact ⟨q+1,_,_,by omega,by go_num,HV2.out,HB2.out,HR7.out,HW7.out⟩
             case measure=>simp[intOf];omega
         ·obtain rfl:q=ln:=by omega
          have hql':¬(q:Int)<(q:Int):=by omega
          have hv:=HVQ.out;rw[HLN.out,visT_end] at hv;have HV3:Hid (V=visN p I (N.drop (j+1)) (S2,X2)):=hv;have HR3':=hD HR2.out.noT;have hn6:nn<=6000:=HNB.out;clear hv;go_wp2_with fail;go_roundw
          case rel=>exact ⟨j+1,_,_,by omega,by go_num,HV3.out,HB2.out,HR3'.out,HW2.out⟩
          case measure=>simp[intOf];omega
    ·obtain rfl:j=nn:=by omega
     have hjl':¬(j:Int)<(j:Int):=by omega
     obtain ⟨ua,uc,rfl⟩:=HRQ.out.x.shape;obtain ⟨va,vc,rfl⟩:=HRQ.out.s.shape;have hV:V=some (S',X'):=by rw[HVJ.out,HNN.out];exact visN_end _ _ _ _
     have hnx:=HC.out.next HG.out HNE.out (HV.out.symm.trans hV);have HNX:=hD hnx;have HXB:Hid (X'.length<=6000):=by show _<=_;have:=HBD.out.len;have:=HBD.out.xl;have:=HN.out;have:=HSL.out;omega
     have hms:(if X'.length=0 then 0 else p.steps.length+2-S'.length)<p.steps.length+2-sn0:=by
      obtain ⟨d,e1,e2,-,-⟩:=visN_spec HG.out (HV.out.symm.trans hV);simp only[List.nil_append] at e1 e2;have h1:=HC.out.bnd.len;have h2:=HSN.out;have h3:S'.length=S.length+X'.length:=by rw[e1,List.length_append, <-e2]
      split<;>omega
     have HMS:=hD hms;obtain ⟨xl,hxl⟩:∃n,n=X'.length:=⟨_,rfl⟩;obtain ⟨sl,hsl⟩:∃n,n=S'.length:=⟨_,rfl⟩;rw[<- hxl, <-hsl] at HMS HRQ⊢;clear hV hnx hms hxl hsl;go_wp2_with fail;go_roundw
     case rel=>exact ⟨_,_,_,HXB.out,HNX.out.1,HR.out.trans HNX.out.2,HRQ.out.turn,HWQ.out⟩
     case measure=>
      have h1:=HMS.out;have h2:¬j=0:=by omega
      change (if xl=0 then 0 else p.steps.length+2-sl)<(if j=0 then 0 else p.steps.length+2-sn0);rw[if_neg h2];exact h1
  ·have hlt':¬(0:Int)<(nn:Int):=by omega
   have hN:N=[]:=List.eq_nil_of_length_eq_zero (by have:=HNN.out;omega);have hr:R=false:=by
    have h1:=HC.out;rw[hN] at h1;rw[HR.out,hN];exact h1.stop
   have hbw:=HB0.out.trans (HW.out.mono HB0.out.size);go_wp2_with fail;go_ret;exact ⟨by first|rfl|(rw[hr];rfl),hbw⟩
end Go.Proofs.YtjfhfaodbjecdaaGreat
