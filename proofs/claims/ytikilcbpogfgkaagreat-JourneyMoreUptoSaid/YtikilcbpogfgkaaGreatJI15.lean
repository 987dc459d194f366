/- Lemmas. -/
import Derived.Test.YtikilcbpogfgkaaGreatJI14
set_option maxHeartbeats 12800000
set_option maxRecDepth 100000
namespace Go.Proofs.YtikilcbpogfgkaaGreat
open Go.RowKit
variable {ops:Array Oper} {P:Program} {Q:Exit->Act->World->Prop} {fin:List Out->Oper->Prop}
abbrev RB (w w':World):Prop:=Bl w w'
def coversO (ops:Array Oper):Bool:=(List.range (ops.size-1)).all fun i=>(List.range ops.size).any fun j=>decide (i<j)&&(match ops[j]? with|some o=>(depsOf o).contains i|none=>false)
theorem covers_at (h:coversO ops=true) {i:Nat} (hi:i<ops.size-1):∃j o,i<j/\ops[j]?=some o/\i∈depsOf o:=by
 unfold coversO at h;rw[List.all_eq_true] at h;have:=h i (List.mem_range.2 hi);rw[List.any_eq_true] at this;obtain ⟨j,-,h2⟩:=this;rw[Bool.and_eq_true,decide_eq_true_eq] at h2;obtain ⟨h3,h4⟩:=h2;split at h4
 ·rename_i o ho;exact ⟨j,o,h3,ho,by simpa using h4⟩
 cases h4
theorem covers_all (h:coversO ops=true) {L:Array Bool} (hdp:∀i o,didO L i=true->ops[i]?=some o->∀j∈depsOf o,didO L j=true) (hl:∀o,ops[ops.size-1]?=some o->∀j∈depsOf o,didO L j=true):∀(k i:Nat),i+k=ops.size-1->i<ops.size-1->didO L i=true:=by
 intro k;induction k using Nat.strongRecOn with
 |_ k ih=>
  intro i hk hi;obtain ⟨j,o,h1,h2,h3⟩:=covers_at h hi;have hj:j<ops.size:=(gA_ h2).1;by_cases e:j=ops.size-1
  ·subst e;exact hl o h2 i h3
  exact hdp j o (ih (ops.size-1-j) om j om om) h2 i h3
def StepsL (P:Program) (ops:Array Oper) (Q:Exit->Act->World->Prop) (S:World->Prop) (a0:Act):List Oper->List Out->(List Out->Oper->Prop)->Prop
 |[],_,_=>False
 |[o],Rs,fin=>fin Rs.reverse o
 |o::o2::rest,Rs,fin=>∃k:Out,k.keeps RB/\k.js=[]/\(∀ (a:Act) (w:World) (l:Nat->Value),AtO S Rs.reverse ops a0 o a w l->OutStep RB P ops Q o k l a w)/\StepsL P ops Q S a0 (o2::rest) (k::Rs) fin
theorem stepsL_O {S:World->Prop} {a0:Act} :∀(os:List Oper) (Rs:List Out),StepsL P ops Q S a0 os Rs fin->∃os1 last,os=os1++[last]/\StepsO RB P ops Q S a0 os1 Rs fun Ks=>fin Ks last
 |[],_,h=>h.elim
 |[o],Rs,h=>⟨[],o,rfl,h⟩
 |o::o2::rest,Rs,h=>by
  obtain ⟨k,h1,h2,h3,h4⟩:=h;obtain ⟨os1,last,e,h5⟩:=stepsL_O (o2::rest) (k::Rs) h4;exact ⟨o::os1,last,by rw[e];rfl,k,h1,by rw[h2];rfl,h3,h5⟩
theorem layO_app {l:Nat->Value}:∀(ks:List Out) (os xs:List Oper) (i:Nat) (a:Act),ks.length=os.length->layO a l ks (os++xs) i=layO a l ks os i
 |[],[],xs,_,a,_=>by unfold layO;rfl
 |[],_::_,_,_,_,h=>by cases h
 |_::_,[],_,_,_,h=>by cases h
 |k::ks,o::os,xs,i,a,h=>by
  rw[List.cons_append,layO,layO];exact layO_app ks os xs (i+1) _ (by simpa using h)
theorem region_outL {os:List Oper} {id:Nat} {a0:Act} {w:World} (hm:P.follows .mixedOrders=true) (S:World->Prop)
 (hst:∀w w',S w->Bl w w'->S w') (hchk:chkAll os.toArray a0.tmps.size (os.map fun _=>[])=true) (hcov:coversO os.toArray=true) (h0:S w.drew)
 (hsteps:StepsL P os.toArray Q S a0 os [] fun Ks last=>∀(l:Nat->Value) (w:World),S w->(∀ (i:Nat) (k:Out),Ks[i]?=some k->k.ok l w (l i))->last.guard=none/\last.wp P (layO a0 l Ks os 0) w (fun a' w'=>Q .normal a' w') Q):(Code.region id os.toArray true).wp P Q a0 w:=by
 obtain ⟨os1,last,hos,hO⟩:=stepsL_O os [] hsteps;obtain ⟨Kf,-,h2,h3,h4,h5⟩:=stepsO_full (R:=RB) os1 [] (fun k hk=>by cases hk) hO;rw[List.length_nil,Nat.zero_add] at h2;obtain ⟨ops,hops⟩:=nm os.toArray;obtain ⟨Ks,hKs⟩:=nm (Kf++[Out.eq undef]);have hsz:ops.size=os1.length+1:=by rw[hops,hos];simp
 have hn1:ops.size-1=os1.length:=om;have hat0:∀i,i<os1.length->ops[i]?=os1[i]?:=fun i hi=>by rw[hops,hos];simp[List.getElem?_append_left hi]
 have hlast:ops[os1.length]?=some last:=by rw[hops,hos];simp
 rw[<- hops] at hchk hcov h5⊢;have hlen:Ks.length=ops.size:=by rw[hKs,hsz,List.length_append,h2];rfl
 have hKat:∀i,i<os1.length->Ks[i]?=Kf[i]?:=fun i hi=>by rw[hKs,List.getElem?_append_left om]
 have hkp:∀k∈Ks,k.keeps RB:=fun k hk=>by
  rw[hKs,List.mem_append] at hk;rcases hk with hk|hk
  ·exact h4 k hk
  ·rw[List.mem_singleton] at hk;subst hk;exact trivial
 have hc:∀i o,ops[i]?=some o->∀k,Ks[i]?=some k->ChkO ops a0.tmps.size i k.js o:=fun i o ho k hk=>by
  have:=chk_at hchk ho;have e:(os.map fun _=>([]:List Nat)).getD i []=[]:=by
   rw[List.getD_eq_getElem?_getD,List.getElem?_map];cases os[i]?<;>rfl
  rw[e] at this;have hi:i<ops.size:=(gA_ ho).1;by_cases hil:i<os1.length
  ·exact ChkO.of (chkO_js this (h5 i o k (by rw[<- hat0 i hil];exact ho) (by rw[List.length_nil,Nat.zero_add, <-hKat i hil];exact hk)).1)
  ·obtain rfl:i=os1.length:=om
   rw[hKs, <-h2,List.getElem?_append_right lr] at hk;simp at hk;subst hk;exact ChkO.of this
 have hget:∀i o,ops[i]?=some o->∃k,Ks[i]?=some k:=fun i o ho=>⟨_,gE_ (by rw[hlen];exact (gA_ ho).1)⟩
 refine wp_region_invO hm (fun L a w=>((∀ i,i<ops.size->didO L i=true)/\Q .normal a w)\/(didO L os1.length=false/\∃l,InO S Ks ops a0 L l a w)) ?_ ?_ ?_ ?_
 ·refine .inr ⟨didO_none _ _,fun _=>undef,by simp,⟨rfl,rfl,fun _ _=>rfl,fun j d hj=>?_⟩,h0,fun i hi=>?_,fun i o hi=>?_⟩
  ·rw[didO_none] at hj;cases hj
  ·exact gZ4
  exact gZ4
 ·rintro L a w i hL hi hn hd (⟨hall,-⟩|⟨hnl,l,hI⟩)
  ·rw[hall i hi] at hn;cases hn
  have ho:=Array.getElem?_eq_getElem hi;obtain ⟨k,hk⟩:=hget i _ ho;have ci:=hc i _ ho k hk;have hd':∀j∈depsOf ops[i],didO L j=true:=fun j hj=>by
   unfold depsOf at hj;rw[List.mem_map] at hj;obtain ⟨e,he,rfl⟩:=hj;rw[List.mem_filter] at he;exact hd _ ho e (by simpa using he.1) he.2
  have hat:AtO S Ks ops a0 ops[i] a w l:=by
   exact gY
  by_cases hil:i<os1.length
  ·have hs:=(h5 i ops[i] k (by rw[<- hat0 i hil];exact ho) (by rw[List.length_nil,Nat.zero_add, <-hKat i hil];exact hk)).2 a w l (by
    rw[List.length_nil,Nat.zero_add];exact ⟨hat.inv,hat.old,hat.dep,fun j hj k' hk'=>hat.ok j hj k' (by
     rw[List.getElem?_take] at hk';split at hk'
     ·rw[hKat j om];exact hk'
     ·cases hk'),hat.yield⟩)
   have hnl2:didO (L.setIfInBounds i true) os1.length=false:=by
    rw[didO_set om,hnl];have:decide (os1.length=i)=false:=by simp;omega
    rw[this];rfl
   refine wpOp_step ho fun K hK=>?_
   unfold OutStep at hs;split
   ·rename_i hw;rw[if_pos hw] at hs;exact hs K fun v w' hb hv=>hK _ _ (.inr ⟨hnl2,_,hI.step hst hkp hc hlen ho hk hn hd' hb hv⟩)
   rename_i hw;rw[if_neg hw] at hs;exact hK _ _ (.inr ⟨hnl2,_,hI.step hst hkp hc hlen ho hk hn hd' br hs⟩)
  obtain rfl:i=os1.length:=om;have hlo:ops[os1.length]=last:=by rw[hlast] at ho;cases ho;rfl
  have hall:∀j,j<os1.length->didO L j=true:=fun j hj=>covers_all hcov hI.dp (fun o ho2=>by
   rw[hn1,hlast] at ho2;cases ho2;rw[<- hlo];exact hd') (os1.length-j) j om om
  have hok:∀(i:Nat) (k:Out),Kf[i]?=some k->k.ok l w (l i):=fun i k hk=>by
   have hi2:i<os1.length:=by rw[<- h2];exact (gL_ hk).1
   exact hI.ok i (hall i hi2) k (by rw[hKat i hi2];exact hk)
  have e:a=layO a0 l Kf os1 0:=by
   obtain ⟨s1,s2⟩:=layO_sz (l:=l) Kf os1 0 a0;have ht:a.tmps=(layO a0 l Kf os1 0).tmps:=by
    refine Array.ext_getElem? fun s=>?_
    by_cases hw:∃j,j<os1.length/\dstOf ops j=some s
    ·obtain ⟨j,hj,hjd⟩:=hw;have hoj:ops[j]?=some os1[j]:=by rw[hat0 j hj];exact gE_ hj
     obtain ⟨k,hk⟩:=hget j _ hoj;have hd:(os1[j]).dst=some s:=by unfold dstOf at hjd;rw[hoj] at hjd;exact hjd
     have cj:=hc j _ hoj k hk;have hkf:Kf[j]?=some k:=by rw[<- hKat j hj];exact hk
     rw[hI.fr.new j s (hall j hj) hjd,layO_new Kf os1 0 a0 j os1[j] k s h2 hkf (gE_ hj) hd (cj.dst s hd).1 (fun y o' hy ho' e=>(cj.dst s hd).2 y hy (by
      unfold dstOf;have hyl:=(gL_ ho').1;rw[hat0 y hyl,ho'];exact e)),Nat.zero_add]
     have:=hok j k hkf;cases k with
     |eq u=>have h2:l j=u:=this;rw[h2];rfl
     |rel p=>rfl
     |rell js p=>rfl
     |fn js F=>rfl
    rw[hI.fr.old s fun j hj e=>hw ⟨j,(by
     by_cases hjn:j<os1.length
     ·exact hjn
     ·unfold dstOf at e;cases q:ops[j]? with
      |none=>rw[q] at e;cases e
      |some o'=>
       have:=(gA_ q).1;have hjeq:j=os1.length:=om
       rw[hjeq,hnl] at hj;cases hj),e⟩]
    rw[(layO_at (a0:=a0) Kf os1 0 a0 s h2 fun x o ho e=>hw ⟨x,(gL_ ho).1,by
     unfold dstOf;rw[hat0 x (gL_ ho).1,ho];exact e⟩).1]
   obtain ⟨t,df⟩:=a;have hdf:df=a0.defers:=hI.fr.df;generalize hX:layO a0 l Kf os1 0=X at*;obtain ⟨t2,df2⟩:=X;simp only at ht s2;rw[ht,hdf,s2]
  obtain ⟨hg,hwp⟩:=h3 l w hI.inv hok;rw[hos,layO_app Kf os1 [last] 0 a0 h2, <-e] at hwp;refine wpOp_step ho fun K hK=>?_
  rw[hlo];have hw:Region.wanted last (yielded ops a.tmps)=true:=by unfold Region.wanted;rw[hg]
  rw[if_pos hw];refine Oper.wp_mono ?_ hwp;intro a' w' hq;refine hK _ _ (.inl ⟨fun j hj=>?_,hq⟩);rw[didO_set om];by_cases ej:j=os1.length
  ·simp[ej]
  rw[hall j om];simp
 ·exact gF1
 rintro L a w hall (⟨-,hq⟩|⟨hnl,-⟩)
 ·exact hq
 rw[hall _ om] at hnl;cases hnl
section
variable {P:Program} {ops:Array Oper} {Q:Exit->Act->World->Prop} {o:Oper} {l:Nat->Value} {a:Act} {w w':World} {S:World->Prop} {Ks:List Out} {a0:Act}
theorem stqL {o2:Oper} {rest:List Oper} {Rs:List Out} (v:Value) (h:∀(a:Act) (w:World) (l:Nat->Value),AtO S Rs.reverse ops a0 o a w l->OutStep RB P ops Q o (.eq v) l a w) (hr:StepsL P ops Q S a0 (o2::rest) (.eq v::Rs) fin):StepsL P ops Q S a0 (o::o2::rest) Rs fin:=⟨.eq v,trivial,rfl,h,hr⟩
end
open Go.RowKit
theorem onCycle_any (s:PgS) (p:Prg) (i:Nat) (w:World) (hp:PgOk w s p) (hS:Sm p) (hall:∀x∈p.steps,mayStepP p x=true) (hi:i<p.steps.length):
 Calls Tryz.prog 52 #[pgV s, .int .i64 (i:Int)] w fun e w'=>e= .returned (.bool (cycP p i))/\Bl w w':=by
 obtain ⟨R,hR⟩:=nm (cycP p i);rw[<- hR];obtain ⟨hs1,-,-,-⟩:=hp.steps.ln;have HG:=hD (goesIn_of hall);have HST:=hD (CycI.start hi);have HP:=hD hp;have HSM:=hD hS;have HR:=hD hR;have HN:=hD hs1;have HSL:Hd (s.sn<=6000):=by show _<=_;have:=hS.steps;omega
 clear hR hp hS hall hi hs1;obtain ⟨I,hI⟩:=nm (i:Int);unfold cycP at HR;rw[<- hI] at HST HR⊢;clear hI;unfold pgV;go_enter Tryz.func52,Tryz.ntmps52;go_upto_region 2 with fail;obtain ⟨W0,hW0⟩:=nm (w.alloc (.cells (pA s) 33));have HB0:Hd (Bl w W0):=by show Below _ _ _;rw[hW0];exact bL
 have HPB:Hd (PBox W0 w.heap.size s):=by show _=_;rw[hW0];exact heap_new _ _
 have hR0:Rws W0.heap.size (W0.alloc (.cells #[.int .i64 I] 3)) (.slice none 0 0) (.slice (some ⟨W0.heap.size,0,none⟩) 1 1) (.slice none 0 0) (.slice none 0 0) [] [I] [] []:=
  ⟨OwnI.nil _ _,OwnI.one _ _ lr,OwnI.nil _ _,OwnI.nil _ _,nil_ap _,nil_ap _,nil_ap _,ap_nil _,ap_nil _,nil_ap _⟩
 have HR0:=hD hR0;have HB1:Hd (Bl W0 (W0.alloc (.cells #[.int .i64 I] 3))):=br.alloc lr _;rw[<- hW0];clear hW0 hR0;go_wp2_with fail;go_loopw [5,6,7,8,9,10,11,12] (fun v5 v6 v7 v8 v9 v10 v11 v12 wr=>∃fuel S N,Hd (N.length<=6000)/\Hd (CycI p I fuel S N)/\Hd (R=cycF p I fuel S N)/\Hd (Rws W0.heap.size wr v5 v6 (.slice none 0 0) (.slice none 0 0) S N [] [])/\Hd (Bl W0 wr)) (fun v5 v6 v7 v8 v9 v10 v11 v12 wr=>if lenOf v6=0 then 0 else p.steps.length+2-lenOf v5)
 case atStart=>exact ⟨_,_,_,by show _<=_;simp,HST.o,HR.o,HR0.o,HB1.o⟩
 case round=>
  obtain ⟨fuel,S,N,HNB,HC,HR,HRW,HW⟩:=hrel;obtain ⟨na,nc,rfl⟩:=HRW.o.n.shape;obtain ⟨sa,sc,rfl⟩:=HRW.o.s.shape;obtain ⟨nn,hnn⟩:=nm N.length;obtain ⟨sn0,hsn0⟩:=nm S.length;rw[<- hnn, <-hsn0] at HRW⊢;have HNN:=hD hnn;rw[<- hnn] at HNB;have HSN:=hD hsn0;clear hnn hsn0;by_cases hlt:0<nn
  ·have hlt':(0:Int)<(nn:Int):=om;have hne:N≠[]:=fun e=>by have:=HNN.o;rw[e] at this;simp at this;omega
   have HNE:=hD hne;obtain ⟨V,hV⟩:=nm (visN p I N (S,[]));have HV:=hD hV;clear hne hV;have HX0:Hd (Rws W0.heap.size wr (.slice sa sn0 sc) (.slice na nn nc) (.slice none 0 0) (.slice none 0 0) S N [] []):=HRW.o;go_wp2_with fail;go_loopw [5,7,8,9,10,11,12] (fun u5 u7 u8 u9 u10 u11 u12 wq=>∃(j:Nat) (S' X':List Int),j<=nn/\u8= .int .i64 j/\Hd (V=visN p I (N.drop j) (S',X'))/\Hd (Bd p S' X')/\Hd (Rws W0.heap.size wq u5 (.slice na nn nc) u7 (.slice none 0 0) S' N X' [])/\Hd (Bl W0 wq)) (fun u5 u7 u8 u9 u10 u11 u12 _=>nn-(intOf u8).toNat)
   case atStart=>exact ⟨0,_,_,zl,rfl,HV.o,HC.o.bnd,HX0.o,HW.o⟩
   case round=>
    obtain ⟨j,S',X',hj,rfl,HVJ,HBD,HRQ,HWQ⟩:=hrel;by_cases hjl:j<nn
    ·have hjl':(j:Int)<(nn:Int):=om;obtain ⟨t,ht⟩:∃t,N[j]?=some t:=⟨_,gE_ (by have:=HNN.o;omega)⟩;have ht0:=HC.o.nw t (gM_ ht);obtain ⟨m,rfl⟩:∃m:Nat,t=(m:Int):=⟨t.toNat,om⟩;have hml:m<p.steps.length:=om;obtain ⟨x,hx⟩:∃x,p.steps[m]?=some x:=⟨_,gE_ hml⟩;have hxe:stepAt p (m:Int)=x:=by unfold stepAt;rw[Int.toNat_natCast];exact getD_some hx
     have hxm:=gM_ hx;have hbq:=HB0.o.trans (HWQ.o.mono HB0.o.size);have HBQ:=hD hbq;obtain ⟨sb,so,hps,hsb,⟨tp,tn,tc,y0,hy0⟩,⟨kp,kn,kc,y1,hy1⟩,⟨bp,bn,bc,y2,hy2⟩,y3⟩:=HP.o.steps.get hx;obtain ⟨nb,no,hna,hnb,hnc⟩:=RowAt.get HRQ.o.n.row ht;obtain ⟨xt,hxt⟩:=nm x.to;have HBN:Hd (bn=x.brs.length/\kn=x.keys.length/\bn<=6000):=⟨hy2.ln.1,hy1.ln.1,by have:=hy2.ln.1;have:=HSM.o.brs x hxm;omega⟩;have HVX:Hd (V=contV p I (N.drop (j+1)) (visT I (goesP x) (S',X'))):=by show _=_;rw[HVJ.o,visN_at ht,hxe]
     have HGX:Hd (∀ t∈goesP x,t<(p.steps.length:Int)):=HG.o _ _ hx;have HBR:=hD hy2;have HXT:Hd (x.to=xt):=hxt.symm;rw[<- hxt] at y3;rw[Nat.mul_one] at hnc;have hmi:(m:Int)<(s.sn:Int):=by have:=HN.o;omega
     have HNA:=hD hna;have HCE:Hd (∀ W,Bl wr W->Cl W w.heap.size 2 (.slice (some ⟨sb,so,none⟩) s.sn s.sc)/\Cl W nb (no+j) (.int .i64 m)/\Cl W sb (so+m*4) (.slice tp tn tc)/\Cl W sb (so+m*4+1) (.slice kp kn kc)/\Cl W sb (so+m*4+2) (.slice bp bn bc)/\Cl W sb (so+m*4+3) (.int .i64 xt)):=fun W h=>by
      obtain ⟨-,-,q2,-⟩:=(HPB.o.below (HWQ.o.trans (h.mono HWQ.o.size))).cells;rw[hps] at q2;have hb:=HBQ.o.trans (h.mono HBQ.o.size);exact ⟨q2,(h.cell (p:=⟨nb,no+j,none⟩) hnb).trans hnc,(hb.cell (p:=⟨sb,so+m*4,none⟩) hsb).trans y0,(hb.cell (p:=⟨sb,so+m*4+1,none⟩) hsb).trans y1,(hb.cell (p:=⟨sb,so+m*4+2,none⟩) hsb).trans y2,(hb.cell (p:=⟨sb,so+m*4+3,none⟩) hsb).trans y3⟩
     rw[hna];clear hxe hxt ht hx hxm hps hna hy0 hy1 hy2 ht0 hml hnc hnb hsb y0 y1 y2 y3 hbq;go_upto_region 8 with fail;refine region_outL kq (fun Wk=>Bl wr Wk) (fun w1 w2 h1 h2=>h1.trans (h2.mono h1.size)) kq kq (Below.drew br) ?_;refine stqL ?_ (fun aa ww ll hh=>?_) ?_;rotate_left
     ·have e2:=hh.oL 2;exact ov gX
     refine stqL ?_ (fun aa ww ll hh=>?_) ?_;rotate_left
     ·have e24:=hh.gt 0 0;exact ov (fC (HCE.o ww hh.inv))
     refine stqL ?_ (fun aa ww ll hh=>?_) ?_;rotate_left
     ·have e6:=hh.oL 6;refine ov ?_;rw[xmv e6]
     refine stqL ?_ (fun aa ww ll hh=>?_) ?_;rotate_left
     ·have e8:=hh.oL 8;refine ov ?_;rw[xmv e8]
     refine stqL ?_ (fun aa ww ll hh=>?_) ?_;rotate_left
     ·have e26:=hh.gt 2 1;have e27:=hh.gt 3 0;exact ov gX
     refine stqL ?_ (fun aa ww ll hh=>?_) ?_;rotate_left
     ·have e28:=hh.gt 4 0;exact ov (fC (HCE.o ww hh.inv))
     refine stqL ?_ (fun aa ww ll hh=>?_) ?_;rotate_left
     ·have e25:=hh.gt 1 4;have e29:=hh.gt 5 0;exact ov gX
     refine stqL ?_ (fun aa ww ll hh=>?_) ?_;rotate_left
     ·have e30:=hh.gt 6 0;exact ov (fC (HCE.o ww hh.inv))
     refine ⟨.rel (fun W v=>∃g,v= .pointer (some ⟨g,0,none⟩)/\wr.heap.size<=g/\W.heap[g]?=some (.cells #[.slice none 0 0, .slice none 0 0, .slice none 0 0, .int .i64 0] 79 (0,0))),(fun _ _ _ ⟨g,h1,h2,h3⟩ hb=>⟨g,h1,h2,(hb.block g (gA_ h3).1).trans h3⟩),rfl,fun aa ww ll hh=>?_,?_⟩
     ·have hsz:=hh.inv.size;clear hh;refine out_new (wanted_none rfl) (w':=ww.alloc (.cells #[.slice none 0 0, .slice none 0 0, .slice none 0 0, .int .i64 0] 79)) (v:= .pointer (some ⟨ww.heap.size,0,none⟩)) ?_ (br.alloc lr _) ⟨_,rfl,hsz,heap_new _ _⟩;go_simp;try rfl
     intro ll w2 hS hok;have p8:=hok 8 _ rfl;clear hok;simp only[ly];refine ⟨(by first|trivial|rfl),?_⟩;obtain ⟨g,hg,hgl,hgb⟩:=p8;rw[hg];have c0:w2.cell? ⟨g,0,none⟩=some (.slice none 0 0):=by simp[World.cell?,hgb]
     have f0:w2.frozen? ⟨g,0,none⟩=false:=by simp[World.frozen?,hgb]
     have c1:w2.cell? ⟨g,1,none⟩=some (.slice none 0 0):=by simp[World.cell?,hgb]
     have f1:w2.frozen? ⟨g,1,none⟩=false:=by simp[World.frozen?,hgb]
     have c2:w2.cell? ⟨g,2,none⟩=some (.slice none 0 0):=by simp[World.cell?,hgb]
     have f2:w2.frozen? ⟨g,2,none⟩=false:=by simp[World.frozen?,hgb]
     have c3:w2.cell? ⟨g,3,none⟩=some (.int .i64 0):=by simp[World.cell?,hgb]
     have f3:w2.frozen? ⟨g,3,none⟩=false:=by simp[World.frozen?,hgb]
     clear hg;unfold Oper.wp;go_simp;rename_i hK;refine hK _ _ ?_;clear hK;have hb3:SBox (set4 w2 g (.slice tp tn tc) (.slice kp kn kc) (.slice bp bn bc) (.int .i64 xt)) g tp tn tc kp kn kc bp bn bc xt:=set4_heap _ _ _ _ hgb;have hB3:=set4_below (.slice tp tn tc) (.slice kp kn kc) (.slice bp bn bc) (.int .i64 xt) hS hgl;change Code.wp _ _ _ _ (set4 w2 g (.slice tp tn tc) (.slice kp kn kc) (.slice bp bn bc) (.int .i64 xt));generalize set4 w2 g (.slice tp tn tc) (.slice kp kn kc) (.slice bp bn bc) (.int .i64 xt)=W3 at*;clear c0 f0 c1 f1 c2 f2 c3 f3 hgb hS hgl;have HS3:=hD hb3;have HB3:=hD (HWQ.o.trans (hB3.mono HWQ.o.size));have HR3:=hD (HRQ.o.below hB3);rw[HNA.o] at HR3;clear hb3 hB3;obtain ⟨x0,x1,x2,x3⟩:=HS3.o.cells;by_cases hk0:kn=0
     ·have hk0i:((kn:Int)==0)=true:=by rw[beq_iff_eq];omega
      have hk0j:(kn:Int)=0:=om;have HT:Hd (goesP x=[xt]++x.brs.map Brn.to):=by show _=_;unfold goesP;rw[if_pos (by have:=HBN.o.2.1;omega),HXT.o]
      go_wp2_with (refine app_int rfl (.tmp 36) (.tmp 39) rfl W0.heap.size (.slice none 0 0) [] rfl (HR3.o.alloc _).t W3.heap.size xt rfl (by simp[go_sem]) sm (by have:=HB3.o.size;simp only[World.size_alloc];omega) ?_;intro v4 w4 h1 h2;have HR4:=hD ((HR3.o.alloc _).appT h1 h2);have HB4:Hd (Bl W0 w4):=h2.below (HR3.o.alloc _).t (HB3.o.alloc HB3.o.size _) lr (by have:=HB3.o.size;simp only[World.size_alloc];omega);have HS4:=hD ((HS3.o.below (br.alloc lr _)).grw h2 (HR3.o.alloc _).t);clear h1 h2);go_loopw [10,11] (fun u10 u11 wq=>∃k:Nat,k<=bn/\u11= .int .i64 k/\Hd (Rws W0.heap.size wq u5 (.slice (some ⟨nb,no,none⟩) nn nc) u7 u10 S' N X' ([xt]++(x.brs.take k).map Brn.to))/\Hd (Bl W0 wq)/\Hd (SBox wq g tp tn tc kp kn kc bp bn bc xt)) (fun _ u11 _=>bn-(intOf u11).toNat)
      case atStart=>exact ⟨0,zl,rfl,HR4.o,HB4.o,HS4.o⟩
      case round=>
       clear x0 x1 x2 x3;obtain ⟨k,hk,rfl,HRK,HBK,HSK⟩:=hrel;obtain ⟨x0,x1,x2,x3⟩:=HSK.o.cells;by_cases hkl:k<bn
       ·have hkl':(k:Int)<(bn:Int):=om;have hb6:bn<=6000:=HBN.o.2.2;obtain ⟨y,hy⟩:∃y,x.brs[k]?=some y:=⟨_,gE_ (by have:=HBN.o.1;omega)⟩;have hbk:=HB0.o.trans (HBK.o.mono HB0.o.size);obtain ⟨bb,bo,p1,n1,c1',hbp,hbb,hb0,hbr,hb1⟩:=BrnRow.el (HBR.o.below keepBrn hbk) hy;obtain ⟨yt,hyt⟩:=nm y.to;have HTK:Hd (([xt]++(x.brs.take k).map Brn.to)++[yt]=[xt]++(x.brs.take (k+1)).map Brn.to):=by show _=_;rw[List.append_assoc,hyt,brs_take x hy]
        have HTL:Hd (([xt]++(x.brs.take k).map Brn.to).length<=1000000):=by
         exact gT2
        exact gR
       obtain rfl:k=bn:=om;have hkl':¬(k:Int)<(k:Int):=om;have hTL:[xt]++(x.brs.take k).map Brn.to=goesP x:=by rw[HT.o,List.take_of_length_le (by have:=HBN.o.1;omega)]
       rw[hTL] at HRK;clear hTL;obtain ⟨ta,tc',rfl⟩:=HRK.o.t.shape;obtain ⟨ln,hln⟩:=nm ((goesP x).length);rw[<- hln] at HRK⊢;have HLN:=hD hln;have HL2:Hd (ln<=6001):=by show _<=_;have:=goesP_ln x;have:=HBN.o;omega
       clear hln;go_wp2_with fail;go_loopw [5,7,12] (fun t5 t7 t12 wq=>∃(q:Nat) (S2 X2:List Int),q<=ln/\t12= .int .i64 q/\Hd (V=contV p I (N.drop (j+1)) (visT I ((goesP x).drop q) (S2,X2)))/\Hd (Bd p S2 X2)/\Hd (Rws W0.heap.size wq t5 (.slice (some ⟨nb,no,none⟩) nn nc) t7 (.slice ta ln tc') S2 N X2 (goesP x))/\Hd (Bl W0 wq)) (fun _ _ t12 _=>ln-(intOf t12).toNat)
       case atStart=>exact ⟨0,_,_,zl,rfl,HVX.o,HBD.o,HRK.o,HBK.o⟩
       case round=>
        clear x0 x1 x2 x3;obtain ⟨q,S2,X2,hq,rfl,HVQ,HB2,HR2,HW2⟩:=hrel;by_cases hql:q<ln
        ·have hql':(q:Int)<(ln:Int):=om;have hl6:ln<=6001:=HL2.o;obtain ⟨t,ht⟩:∃t,(goesP x)[q]?=some t:=⟨_,gE_ (by have:=HLN.o;omega)⟩;have htl:=HGX.o t (gM_ ht);have hv:=HVQ.o;rw[visT_at ht] at hv;obtain ⟨tb,tq,hta,hc⟩:=HR2.o.tcell ht;exact gA
        exact gQ1
     ·have hk0i:((kn:Int)==0)=false:=by rw[beq_eq_false_iff_ne];omega
      have hk0j:¬(kn:Int)=0:=om;have HT:Hd (goesP x=[]++x.brs.map Brn.to):=by show _=_;unfold goesP;rw[if_neg (by have:=HBN.o.2.1;omega)]
      go_wp2_with fail;go_loopw [10,11] (fun u10 u11 wq=>∃k:Nat,k<=bn/\u11= .int .i64 k/\Hd (Rws W0.heap.size wq u5 (.slice (some ⟨nb,no,none⟩) nn nc) u7 u10 S' N X' ([]++(x.brs.take k).map Brn.to))/\Hd (Bl W0 wq)/\Hd (SBox wq g tp tn tc kp kn kc bp bn bc xt)) (fun _ u11 _=>bn-(intOf u11).toNat)
      case atStart=>exact ⟨0,zl,rfl,HR3.o,HB3.o,HS3.o⟩
      case round=>
       clear x0 x1 x2 x3;obtain ⟨k,hk,rfl,HRK,HBK,HSK⟩:=hrel;obtain ⟨x0,x1,x2,x3⟩:=HSK.o.cells;by_cases hkl:k<bn
       ·have hkl':(k:Int)<(bn:Int):=om;have hb6:bn<=6000:=HBN.o.2.2;obtain ⟨y,hy⟩:∃y,x.brs[k]?=some y:=⟨_,gE_ (by have:=HBN.o.1;omega)⟩;have hbk:=HB0.o.trans (HBK.o.mono HB0.o.size);obtain ⟨bb,bo,p1,n1,c1',hbp,hbb,hb0,hbr,hb1⟩:=BrnRow.el (HBR.o.below keepBrn hbk) hy;obtain ⟨yt,hyt⟩:=nm y.to;have HTK:Hd (([]++(x.brs.take k).map Brn.to)++[yt]=[]++(x.brs.take (k+1)).map Brn.to):=by show _=_;rw[List.append_assoc,hyt,brs_take x hy]
        have HTL:Hd (([]++(x.brs.take k).map Brn.to).length<=1000000):=by
         exact gT2
        exact gR
       obtain rfl:k=bn:=om;have hkl':¬(k:Int)<(k:Int):=om;have hTL:[]++(x.brs.take k).map Brn.to=goesP x:=by rw[HT.o,List.take_of_length_le (by have:=HBN.o.1;omega)]
       rw[hTL] at HRK;clear hTL;obtain ⟨ta,tc',rfl⟩:=HRK.o.t.shape;obtain ⟨ln,hln⟩:=nm ((goesP x).length);rw[<- hln] at HRK⊢;have HLN:=hD hln;have HL2:Hd (ln<=6001):=by show _<=_;have:=goesP_ln x;have:=HBN.o;omega
       clear hln;go_wp2_with fail;go_loopw [5,7,12] (fun t5 t7 t12 wq=>∃(q:Nat) (S2 X2:List Int),q<=ln/\t12= .int .i64 q/\Hd (V=contV p I (N.drop (j+1)) (visT I ((goesP x).drop q) (S2,X2)))/\Hd (Bd p S2 X2)/\Hd (Rws W0.heap.size wq t5 (.slice (some ⟨nb,no,none⟩) nn nc) t7 (.slice ta ln tc') S2 N X2 (goesP x))/\Hd (Bl W0 wq)) (fun _ _ t12 _=>ln-(intOf t12).toNat)
       case atStart=>exact ⟨0,_,_,zl,rfl,HVX.o,HBD.o,HRK.o,HBK.o⟩
       case round=>
        clear x0 x1 x2 x3;obtain ⟨q,S2,X2,hq,rfl,HVQ,HB2,HR2,HW2⟩:=hrel;by_cases hql:q<ln
        ·have hql':(q:Int)<(ln:Int):=om;have hl6:ln<=6001:=HL2.o;obtain ⟨t,ht⟩:∃t,(goesP x)[q]?=some t:=⟨_,gE_ (by have:=HLN.o;omega)⟩;have htl:=HGX.o t (gM_ ht);have hv:=HVQ.o;rw[visT_at ht] at hv;obtain ⟨tb,tq,hta,hc⟩:=HR2.o.tcell ht;exact gA
        exact gQ1
    obtain rfl:j=nn:=om;have hjl':¬(j:Int)<(j:Int):=om;obtain ⟨ua,uc,rfl⟩:=HRQ.o.x.shape;obtain ⟨va,vc,rfl⟩:=HRQ.o.s.shape;have hV:V=some (S',X'):=by rw[HVJ.o,HNN.o];exact visN_end _ _ _ _
    have hnx:=HC.o.next HG.o HNE.o (HV.o.symm.trans hV);have HNX:=hD hnx;have HXB:Hd (X'.length<=6000):=by show _<=_;have:=HBD.o.len;have:=HBD.o.xl;have:=HN.o;have:=HSL.o;omega
    have hms:(if X'.length=0 then 0 else p.steps.length+2-S'.length)<p.steps.length+2-sn0:=by
     obtain ⟨d,e1,e2,-,-⟩:=visN_spec HG.o (HV.o.symm.trans hV);simp only[List.nil_append] at e1 e2;have h1:=HC.o.bnd.len;have h2:=HSN.o;have h3:S'.length=S.length+X'.length:=by rw[e1,List.length_append, <-e2]
     split<;>omega
    have HMS:=hD hms;obtain ⟨xl,hxl⟩:=nm X'.length;obtain ⟨sl,hsl⟩:=nm S'.length;rw[<- hxl, <-hsl] at HMS HRQ⊢;clear hV hnx hms hxl hsl;go_wp2_with fail;go_roundw
    case rel=>exact ⟨_,_,_,HXB.o,HNX.o.1,HR.o.trans HNX.o.2,HRQ.o.turn,HWQ.o⟩
    case measure=>
     have h1:=HMS.o;have h2:¬j=0:=om;change (if xl=0 then 0 else p.steps.length+2-sl)<(if j=0 then 0 else p.steps.length+2-sn0);rw[if_neg h2];exact h1
  have hlt':¬(0:Int)<(nn:Int):=om;have hN:N=[]:=List.eq_nil_of_length_eq_zero (by have:=HNN.o;omega);have hr:R=false:=by
   have h1:=HC.o;rw[hN] at h1;rw[HR.o,hN];exact h1.stop
  have hbw:=HB0.o.trans (HW.o.mono HB0.o.size);exact gC4
end Go.Proofs.YtikilcbpogfgkaaGreat
