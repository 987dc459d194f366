/- Lemmas. -/
import Derived.Test.YtjfhfaodbjecdaaGreatJK22
set_option maxHeartbeats 12800000
set_option maxRecDepth 100000
namespace Go.Proofs.YtjfhfaodbjecdaaGreat
open Go.RowKit
def bf {α:Type} (f:α->Nat) (l:List α):Nat:=(l.map f).sum
section
variable {α:Type} {f:α->Nat}
theorem jT (x:α) (l:List α):bf f (x::l)=f x+bf f l:=by simp[bf]
theorem kt (l r:List α):bf f (l++r)=bf f l+bf f r:=by simp[bf]
theorem er {l:List α} {k:Nat} {x:α} (h:l[k]?=some x):bf f (l.take (k+1))=bf f (l.take k)+f x:=by
 rw[List.take_add_one,h,kt];simp[bf]
theorem dL {l:List α} {k:Nat} (h:l.length<=k):bf f (l.take k)=bf f l:=by rw[List.take_of_length_le h]
theorem dM {l:List α}:bf f (l.take 0)=0:=by simp[bf]
theorem fE {B:Nat}:∀{l:List α},(∀ x∈l,f x<=B)->bf f l<=l.length*B
 |[],_=>by simp[bf]
 |x::l,h=>by
  rw[jT,List.length_cons,Nat.add_mul,Nat.one_mul];have h1:=h x sm;have h2:=fE (l:=l) (fun y hy=>h y (List.mem_cons_of_mem _ hy));omega
theorem eV:∀{l:List α} {x:α},x∈l->f x<=bf f l
 |y::l,x,h=>by
  rw[jT];rcases List.mem_cons.1 h with rfl|h
  ·omega
  ·have:=eV h;omega
theorem jv (h:∀x,1<=f x):∀{l:List α},l.length<=bf f l
 |[]=>by simp
 |y::l=>by
  rw[jT,List.length_cons];have:=h y;have:=jv h (l:=l);omega
theorem de {l:List α} {k:Nat}:bf f (l.take k)<=bf f l:=by
 have h:=kt (f:=f) (l.take k) (l.drop k);rw[List.take_append_drop] at h;omega
end
def eL (l:List Ist):Nat:=l.length+bf (fun i=>i.e.length) l
def fL (l:List (List Nod)):Nat:=bf (fun c=>1+c.length) l
def nZ (l:List Brn):Nat:=bf (fun b=>b.pats.length) l
def dz (x:Stp):Nat:=1+x.takes.length+x.brs.length+fL x.keys+nZ x.brs
def ig (a:Actn):Nat:=1+a.params.length+eL a.body
def fU (t:Tbl):Nat:=1+t.acts.length+t.dargs.length+fL t.keys
def et (p:Prg):Nat:=p.heads.length+p.metas.length+p.emit.length+eL p.ctl+bf List.length p.heads+bf dz p.steps+bf ig p.acts+bf fU p.tabs
theorem Sm.of {p:Prg} (h:et p<=6000):Sm p:=by
 unfold et eL at h;have a1:p.steps.length<=bf dz p.steps:=jv fun x=>by unfold dz;omega
 have a2:p.acts.length<=bf ig p.acts:=jv fun x=>by unfold ig;omega
 have a3:p.tabs.length<=bf fU p.tabs:=jv fun x=>by unfold fU;omega
 have st:∀x∈p.steps,dz x<=6000:=fun x hx=>by have:=eV (f:=dz) hx;omega
 have ac:∀x∈p.acts,ig x<=6000:=fun x hx=>by have:=eV (f:=ig) hx;omega
 have tb:∀x∈p.tabs,fU x<=6000:=fun x hx=>by have:=eV (f:=fU) hx;omega
 have kl:∀l:List (List Nod),l.length<=fL l:=fun l=>jv fun x=>by omega
 have kc:∀(l:List (List Nod)),∀c∈l,c.length<=fL l:=fun l c hc=>by have:=eV (f:=fun c:List Nod=>1+c.length) hc;unfold fL;omega
 refine ⟨om,fun l hl=>?_,om,om,om,fun x hx=>?_,fun x hx=>?_,fun x hx c hc=>?_,fun x hx=>?_,fun x hx b hb=>?_,om,fun a ha=>?_,fun a ha=>?_,fun a ha i hi=>?_,om,fun i hi=>?_,om,fun x hx=>?_,fun x hx c hc=>?_,fun x hx=>?_,fun x hx=>?_⟩
 ·have:=eV (f:=List.length) hl;omega
 ·have:=st x hx;unfold dz at this;omega
 ·have:=st x hx;have:=kl x.keys;unfold dz at *;omega
 ·have:=st x hx;have:=kc x.keys c hc;unfold dz at *;omega
 ·have:=st x hx;unfold dz at this;omega
 ·have:=st x hx;have:=eV (f:=fun b:Brn=>b.pats.length) hb;unfold dz nZ at *;omega
 ·have:=ac a ha;unfold ig at this;omega
 ·have:=ac a ha;unfold ig eL at this;omega
 ·have:=ac a ha;have:=eV (f:=fun i:Ist=>i.e.length) hi;unfold ig eL at *;omega
 ·have:=eV (f:=fun i:Ist=>i.e.length) hi;omega
 ·have:=tb x hx;have:=kl x.keys;unfold fU at *;omega
 ·have:=tb x hx;have:=kc x.keys c hc;unfold fU at *;omega
 ·have:=tb x hx;unfold fU at this;omega
 have:=tb x hx;unfold fU at this;omega
structure Lm (p:Prg):Prop where
 heads:p.heads.length<=1048576
 head:∀l∈p.heads,l.length<=1048576
 metas:p.metas.length<=1048576
 emit:p.emit.length<=1048576
 steps:p.steps.length<=1048576
 takes:∀x∈p.steps,x.takes.length<=1048576
 skeys:∀x∈p.steps,x.keys.length<=1048576
 scode:∀x∈p.steps,∀c∈x.keys,c.length<=1048576
 brs:∀x∈p.steps,x.brs.length<=1048576
 pats:∀x∈p.steps,∀b∈x.brs,b.pats.length<=1048576
 acts:p.acts.length<=1048576
 params:∀a∈p.acts,a.params.length<=1048576
 body:∀a∈p.acts,a.body.length<=1048576
 bcode:∀a∈p.acts,∀i∈a.body,i.e.length<=1048576
 ctl:p.ctl.length<=1048576
 ccode:∀i∈p.ctl,i.e.length<=1048576
 tabs:p.tabs.length<=1048576
 tkeys:∀x∈p.tabs,x.keys.length<=1048576
 tcode:∀x∈p.tabs,∀c∈x.keys,c.length<=1048576
 tacts:∀x∈p.tabs,x.acts.length<=1048576
 dargs:∀x∈p.tabs,x.dargs.length<=1048576
theorem rU {n k B:Nat} (h:n<=k*B) (hk:k<=1048576):n<=1048576*B:=Nat.le_trans h (Nat.mul_le_mul_right _ hk)
theorem mj {l:List Ist} (h1:l.length<=1048576) (h2:∀i∈l,i.e.length<=1048576):eL l<=1099512676352:=by
 have:=rU (fE (f:=fun i:Ist=>i.e.length) h2) h1;unfold eL;omega
theorem qx {l:List (List Nod)} (h1:l.length<=1048576) (h2:∀i∈l,i.length<=1048576):fL l<=1099512676352:=by
 have:=rU (fE (f:=fun i:List Nod=>1+i.length) (B:=1048577) (fun i hi=>by have:=h2 i hi;omega)) h1;unfold fL;omega
theorem yq {l:List Brn} (h1:l.length<=1048576) (h2:∀i∈l,i.pats.length<=1048576):nZ l<=1099511627776:=by
 have:=rU (fE (f:=fun b:Brn=>b.pats.length) h2) h1;unfold nZ;omega
theorem Lm.step {p:Prg} (h:Lm p):∀x∈p.steps,dz x<=2199026401281:=fun x hx=>by
 have a1:=h.takes x hx;have a2:=h.brs x hx;have a3:=qx (h.skeys x hx) (h.scode x hx);have a4:=yq (h.brs x hx) (h.pats x hx);unfold dz;omega
theorem Lm.act {p:Prg} (h:Lm p):∀x∈p.acts,ig x<=1099513724929:=fun x hx=>by
 have a1:=h.params x hx;have a2:=mj (h.body x hx) (h.bcode x hx);unfold ig;omega
theorem Lm.tab {p:Prg} (h:Lm p):∀x∈p.tabs,fU x<=1099514773505:=fun x hx=>by
 have a1:=h.tacts x hx;have a2:=h.dargs x hx;have a3:=qx (h.tkeys x hx) (h.tcode x hx);unfold fU;omega
theorem Lm.great {p:Prg} (h:Lm p):et p<=5000000000000000000:=by
 have a1:=rU (fE (f:=dz) h.step) h.steps;have a2:=rU (fE (f:=ig) h.act) h.acts;have a3:=rU (fE (f:=fU) h.tab) h.tabs;have a4:=rU (fE (f:=List.length) h.head) h.heads;have a5:=mj h.ctl h.ccode;have a6:=h.heads;have a7:=h.metas;have a8:=h.emit;unfold et;omega
theorem oc {x:Int} {n:Nat} (h:x=(n:Int)) (h2:n<=5000000000000000000):wrap64 x=(n:Int):=by
 subst h;unfold wrap64;omega
open Go.RowKit
theorem ku (l:List Ist) (p:Option Addr) (n c:Nat) (w:World) (h:IstRow w (.slice p n c) l) (hn:l.length<=1048576) (he:∀i∈l,i.e.length<=1048576):
 Calls Tryz.prog 56 #[.slice p n c] w fun e w'=>e= .returned (.int .i64 (eL l:Nat))/\w'=w:=by
 obtain ⟨hl1,-,-,-⟩:=h.ln;subst hl1;obtain ⟨R,hR⟩:=nm (eL l);rw[<- hR];have HR:=hD hR;have HV:=hD h;have HB:=hD (mj hn he);clear h he hR;go_enter Tryz.func56,Tryz.ntmps56;go_wp2_with fail;go_loopw [3,4] (fun z i wr=>∃k:Nat,k<=l.length/\i= .int .i64 k/\z= .int .i64 (l.length+bf (fun i=>i.e.length) (l.take k):Nat)/\wr=w) (fun _ i _=>l.length-(intOf i).toNat)
 case atStart=>exact ⟨0,zl,rfl,by rw[dM,Nat.add_zero],rfl⟩
 case round=>
  obtain ⟨k,hk,rfl,rfl,rfl⟩:=hrel;by_cases hlt:k<l.length
  ·have hki:(k:Int)<(l.length:Int):=om;obtain ⟨x,hx⟩:∃x,l[k]?=some x:=⟨_,bS hlt⟩;obtain ⟨b,o,rfl,hb,-,-,-,⟨ep,en,ec,y3,hy⟩,-⟩:=HV.o.get hx;obtain ⟨z,hz⟩:=nm (l.length+bf (fun i=>i.e.length) (l.take k));have HZ:Hd (z+en=l.length+bf (fun i=>i.e.length) (l.take (k+1))):=by show _=_;rw[hz,er hx,hy.ln.1];omega
   have HZB:Hd (z+en<=5000000000000000000):=by
    show _<=_;rw[HZ.o];have h1:=HB.o;have h2:=de (f:=fun i:Ist=>i.e.length) (l:=l) (k:=k+1);unfold eL at h1;omega
   rw[<- hz];clear hz hx hy;go_wp2_with fail;go_roundw
   case rel=>exact ⟨k+1,om,by go_num,by rw[<- HZ.o];exact congrArg _ (oc om HZB.o),by trivial⟩
   case measure=>exact mz
  obtain rfl:k=l.length:=om;have hki:¬((l.length:Nat):Int)<(l.length:Int):=om;have hr:l.length+bf (fun i=>i.e.length) (l.take l.length)=R:=by rw[HR.o,dL lr];rfl
  rw[hr];go_wp2_with fail;go_ret;exact ⟨rfl,rfl⟩
theorem IsRow.elG {w:World} {p:Option Addr} {n c:Nat} {l:List (List Int)} (h:IsRow w (.slice p n c) l) {j:Nat} {x:List Int} (hj:l[j]?=some x):∃b o p1 n1 c1,p=some ⟨b,o,none⟩/\b<w.heap.size/\w.cell? ⟨b,o+j,none⟩=some (.slice p1 n1 c1)/\IRow w (.slice p1 n1 c1) x:=by
 exact Cb
theorem CsRow.elG {w:World} {p:Option Addr} {n c:Nat} {l:List (List Nod)} (h:CsRow w (.slice p n c) l) {j:Nat} {x:List Nod} (hj:l[j]?=some x):∃b o p1 n1 c1,p=some ⟨b,o,none⟩/\b<w.heap.size/\w.cell? ⟨b,o+j,none⟩=some (.slice p1 n1 c1)/\eQ w (.slice p1 n1 c1) x:=by
 exact Cb
theorem zy {x:Int} {a b n:Nat} (h:x=(a:Int)) (h1:a+b=n) (h2:n<=5000000000000000000):wrap64 (wrap64 x+(b:Int))=(n:Int):=by
 rw[oc h om];exact oc om h2
theorem sZ {x:Int} {a b c n:Nat} (h:x=(a:Int)) (h1:a+b+c=n) (h2:n<=5000000000000000000):wrap64 (wrap64 (wrap64 x+(b:Int))+(c:Int))=(n:Int):=by
 rw[zy h rfl om];exact oc om h2
theorem qy (s:PgS) (p:Prg) (w:World) (hp:PgOk w s p) (hL:Lm p):
 Calls Tryz.prog 30 #[cE s] w fun e w'=>e= .returned (.bool (decide (6000<et p)))/\Bl w w':=by
 obtain ⟨R,hR⟩:=nm (et p);have hRB:=hL.great;rw[<- hR] at hRB⊢;obtain ⟨G,hG⟩:=nm (decide (6000<R));rw[<- hG];have HGR:=hD hG;clear hG;have HRB:=hD hRB;obtain ⟨wc,hwc⟩:=nm (eL p.ctl);obtain ⟨sh,hsh⟩:=nm (bf List.length p.heads);obtain ⟨ss,hss⟩:=nm (bf dz p.steps);obtain ⟨sa,hsa⟩:=nm (bf ig p.acts);obtain ⟨st,hst⟩:=nm (bf fU p.tabs);have HR:Hd (R=s.hn+s.mn+s.en+wc+sh+ss+sa+st):=by show _=_;rw[hR,hp.heads.ln.1,hp.metas.ln.1,hp.emit.ln.1,hwc,hsh,hss,hsa,hst];rfl
 have HCW:Hd (∀ W,Bl w W->CR 56 #[.slice s.cp s.cn s.cc] W (.int .i64 (wc:Nat))):=fun W h=>by rw[hwc];refine Calls.mono (ku _ _ _ _ _ (hp.ctl.below dP h) hL.ctl hL.ccode) fun _ _ h=>⟨h.1,h.2 ▸ Below.refl _ _⟩
 have HSH:=hD hsh;have HSS:=hD hss;have HSA:=hD hsa;have HST:=hD hst;have HP:=hD hp;have HL:=hD hL;have HN:Hd (s.hn=p.heads.length/\s.sn=p.steps.length/\s.an=p.acts.length/\s.tn=p.tabs.length):=⟨hp.heads.ln.1,hp.steps.ln.1,hp.acts.ln.1,hp.tabs.ln.1⟩;clear hR hRB hwc hsh hss hsa hst hp hL;unfold cE;go_enter Tryz.func30,Tryz.ntmps30;go_upto_region 1 with fail;obtain ⟨W0,hW0⟩:=nm (w.alloc (.cells (pA s) 33));have HB0:Hd (Bl w W0):=by show Below _ _ _;rw[hW0];exact bL
 have HPB:Hd (PBox W0 w.heap.size s):=by show _=_;rw[hW0];exact ag _ _
 rw[<- hW0];clear hW0;have HCE:=hD (fun W (h:Bl W0 W)=>(HPB.o.below h).cells);have HC1:=hD (fun W (h:Bl W0 W)=>HCW.o W (HB0.o.trans (h.mono HB0.o.size)));refine dZ W0 ?_;refine sq (fun aa ww ll hh=>by have:=hh.oL 1;exact ov gX) ?_;refine sq (fun aa ww ll hh=>by have:=hh.gt 0 0;exact ov (fC (HCE.o ww hh.inv))) ?_;refine sq (fun aa ww ll hh=>by have:=hh.gt 1 0;exact ov (fC (HCE.o ww hh.inv))) ?_;refine sq (fun aa ww ll hh=>by have:=hh.oL 1;exact ov gX) ?_;refine sq (fun aa ww ll hh=>by have:=hh.gt 3 0;exact ov (fC (HCE.o ww hh.inv))) ?_;refine sq (fun aa ww ll hh=>by have:=hh.gt 4 0;exact ov (fC (HCE.o ww hh.inv))) ?_;refine sq (fun aa ww ll hh=>by have:=hh.gt 2 3;have:=hh.gt 5 0;exact ov gX) ?_;refine sq (fun aa ww ll hh=>by have:=hh.oL 1;exact ov gX) ?_;refine sq (fun aa ww ll hh=>by have:=hh.gt 7 0;exact ov (fC (HCE.o ww hh.inv))) ?_;refine sq (fun aa ww ll hh=>by have:=hh.gt 8 0;exact ov (fC (HCE.o ww hh.inv))) ?_;refine sq (fun aa ww ll hh=>by have:=hh.gt 6 3;have:=hh.gt 9 0;exact ov gX) ?_;refine sq (fun aa ww ll hh=>by have:=hh.oL 1;exact ov gX) ?_;refine sq (fun aa ww ll hh=>by have:=hh.gt 11 0;exact ov (fC (HCE.o ww hh.inv))) ?_;refine ⟨.eq (.int .i64 (wc:Nat)),trivial,rfl,fun aa ww ll hh=>?_,?_⟩
 ·have e23:=hh.gt 12 0;have ef:=fQ aa;refine aE (aj rfl) ?_ (HC1.o ww hh.inv);exact gX
 refine sq (fun aa ww ll hh=>by have:=hh.gt 10 3;have:=hh.gt 13 0;exact ov gX) ?_;refine cV 14 0 ?_;intro ll w2 hS hok;clear hok;simp only[ly];clear HC1 HCW HCE;have HB1:=hD hS;clear hS;obtain ⟨T0,hT0⟩:=nm (s.hn+s.mn+s.en+wc);have ht0:IntKind.i64.wrap (IntKind.i64.wrap (IntKind.i64.wrap ((s.hn:Int)+(s.mn:Int))+(s.en:Int))+(wc:Int))=(T0:Int):=by
  rw[IntWalk.i64_left,IntWalk.i64_left,IntWalk.i64_left];change wrap64 (wrap64 (wrap64 ((s.hn:Int)+(s.mn:Int))+(s.en:Int))+(wc:Int))=(T0:Int);have h1:=HR.o;have h2:=HRB.o;rw[sZ (a:=s.hn+s.mn) (n:=s.hn+s.mn+s.en+wc) om rfl om,hT0]
 rw[ht0];have HT0:=hD hT0;clear ht0 hT0;go_wp2_with fail;go_loopw [3,4] (fun z u wr=>∃k:Nat,k<=s.hn/\u= .int .i64 k/\z= .int .i64 (T0+bf List.length (p.heads.take k):Nat)/\Hd (Bl W0 wr)) (fun _ u _=>s.hn-(intOf u).toNat)
 case atStart=>exact ⟨0,zl,rfl,by rw[dM,Nat.add_zero],HB1.o⟩
 case round=>
  obtain ⟨k,hk,rfl,rfl,HW⟩:=hrel;obtain ⟨q0,q1,q2,q3,q4,q5,q6,q7,q8,q9,q10,q11⟩:=(HPB.o.below HW.o).cells;by_cases hlt:k<s.hn
  ·have hki:(k:Int)<(s.hn:Int):=om;have hb6:s.hn<=1048576:=by have:=HL.o.heads;have:=HN.o.1;omega
   obtain ⟨x,hx⟩:∃x,p.heads[k]?=some x:=⟨_,bS (by have:=HN.o.1;omega)⟩;obtain ⟨b,o,ep,en,ec,hps,hb,y0,hy⟩:=IsRow.elG (HP.o.heads.below ii (HB0.o.trans (HW.o.mono HB0.o.size))) hx;obtain ⟨z,hz⟩:=nm (T0+bf List.length (p.heads.take k));have HZ:Hd (z+en=T0+bf List.length (p.heads.take (k+1))):=by show _=_;rw[hz,er hx,hy.ln.1];omega
   have HZB:Hd (z+en<=5000000000000000000):=by
    show _<=_;rw[HZ.o,HT0.o];have h1:=HR.o;have h2:=de (f:=List.length) (l:=p.heads) (k:=k+1);have h3:=HSH.o;have h4:=HRB.o;omega
   rw[<- hz];rw[hps] at q0;clear hz hx hy hps;go_wp2_with fail;go_roundw
   case rel=>exact ⟨k+1,om,by go_num,by rw[<- HZ.o];exact congrArg _ (oc om HZB.o),HW.o⟩
   case measure=>exact mz
  obtain rfl:k=s.hn:=om;have hki:¬(s.hn:Int)<(s.hn:Int):=om;obtain ⟨T1,hT1⟩:=nm (T0+sh);have hr:T0+bf List.length (p.heads.take s.hn)=T1:=by rw[hT1,HSH.o,dL (by have:=HN.o.1;omega)]
  rw[hr];have HT1:=hD hT1;have HWA:=HW;clear hr hT1 hk;go_wp2_with fail;clear hlt hki q0 q1 q2 q3 q4 q5 q6 q7 q8 q9 q10 q11;go_loopw [3,5,6,7] (fun z u u6 u7 wr=>∃k:Nat,k<=s.sn/\u= .int .i64 k/\z= .int .i64 (T1+bf dz (p.steps.take k):Nat)/\Hd (Bl W0 wr)) (fun _ u _ _ _=>s.sn-(intOf u).toNat)
  case atStart=>exact ⟨0,zl,rfl,by rw[dM,Nat.add_zero],HWA.o⟩
  case round=>
   clear HWA HW;obtain ⟨k,hk,rfl,rfl,HW⟩:=hrel;by_cases hlt:k<s.sn
   ·have hki:(k:Int)<(s.sn:Int):=om;have hb6:s.sn<=1048576:=by have:=HL.o.steps;have:=HN.o.2.1;omega
    obtain ⟨x,hx⟩:∃x,p.steps[k]?=some x:=⟨_,bS (by have:=HN.o.2.1;omega)⟩;have hxm:=cX hx;obtain ⟨sb,so,hps,hsb,⟨tp,tn,tc,y0,hy0⟩,⟨kp,kn,kc,y1,hy1⟩,⟨bp,bn,bc,y2,hy2⟩,y3⟩:=HP.o.steps.get hx;obtain ⟨z,hz⟩:=nm (T1+bf dz (p.steps.take k));obtain ⟨zk,hzk⟩:=nm (fL x.keys);obtain ⟨zp,hzp⟩:=nm (nZ x.brs);have HZ:Hd (z+1+tn+bn+zk+zp=T1+bf dz (p.steps.take (k+1))):=by show _=_;rw[hz,er hx,hy0.ln.1,hy2.ln.1,hzk,hzp];unfold dz;omega
    have HZB:Hd (z+1+tn+bn+zk+zp<=5000000000000000000):=by
     show _<=_;rw[HZ.o,HT1.o,HT0.o];have h1:=HR.o;have h2:=de (f:=dz) (l:=p.steps) (k:=k+1);have h3:=HSS.o;have h4:=HRB.o;omega
    have HZK:=hD hzk;have HZP:=hD hzp;have HLK:Hd (kn=x.keys.length/\bn=x.brs.length/\kn<=1048576/\bn<=1048576):=⟨hy1.ln.1,hy2.ln.1,by have:=hy1.ln.1;have:=HL.o.skeys x hxm;omega,by have:=hy2.ln.1;have:=HL.o.brs x hxm;omega⟩;have HKR:=hD hy1;have HBR:=hD hy2;rw[<- hz];have HCE:Hd (∀ W,Bl W0 W->Cl W w.heap.size 2 (.slice (some ⟨sb,so,none⟩) s.sn s.sc)/\Cl W sb (so+k*4) (.slice tp tn tc)/\Cl W sb (so+k*4+1) (.slice kp kn kc)/\Cl W sb (so+k*4+2) (.slice bp bn bc)):=fun W h=>by
     obtain ⟨-,-,q2,-⟩:=(HPB.o.below h).cells;rw[hps] at q2;have hb:=HB0.o.trans (h.mono HB0.o.size);exact ⟨q2,(hb.cell (p:=⟨sb,so+k*4,none⟩) hsb).trans y0,(hb.cell (p:=⟨sb,so+k*4+1,none⟩) hsb).trans y1,(hb.cell (p:=⟨sb,so+k*4+2,none⟩) hsb).trans y2⟩
    clear hx hxm hps hsb y0 y1 y2 y3 hy0 hy1 hy2 hz hzk hzp;obtain ⟨q2,q3,q4,q5⟩:=HCE.o wr HW.o;go_upto_region 9 with fail;go_quiet (fail);have hS:Bl wr (wr.drewN nq):=below_drewN br _;generalize wr.drewN nq=w2 at*;clear q2 q3 q4 q5;have HW2:=hD (HW.o.trans (hS.mono HW.o.size));clear hS;obtain ⟨z1,hz1⟩:=nm (z+1+tn+bn);have hw9:wrap64 (wrap64 (wrap64 ((z:Int)+1)+(tn:Int))+(bn:Int))=(z1:Int):=by
     have h1:=HZB.o;rw[sZ (a:=z+1) (n:=z+1+tn+bn) om rfl om,hz1]
    rw[hw9];rw[<- hz1] at HZ HZB;clear hw9 hz1;obtain ⟨q2,q3,q4,q5⟩:=HCE.o w2 HW2.o;go_wp2_with fail;go_loopw [3,6] (fun zz u wq=>∃j:Nat,j<=kn/\u= .int .i64 j/\zz= .int .i64 (z1+bf (fun c=>1+c.length) (x.keys.take j):Nat)/\Hd (Bl W0 wq)) (fun _ u _=>kn-(intOf u).toNat)
    case atStart=>exact ⟨0,zl,rfl,by rw[dM,Nat.add_zero],HW2.o⟩
    case round=>
     clear q2 q3 q4 q5 HW2;obtain ⟨j,hj,rfl,rfl,HWQ⟩:=hrel;obtain ⟨q2,q3,q4,q5⟩:=HCE.o _ HWQ.o;by_cases hjl:j<kn
     ·exact gW
     obtain rfl:j=kn:=om;have hjli:¬(j:Int)<(j:Int):=om;obtain ⟨z2,hz2⟩:=nm (z1+zk);have hr:z1+bf (fun c=>1+c.length) (x.keys.take j)=z2:=by rw[hz2,HZK.o,dL (by have:=HLK.o.1;omega)];rfl
     rw[hr];rw[<- hz2] at HZ HZB;clear hr hz2;go_wp2_with fail;go_loopw [3,7] (fun zz u wq=>∃i:Nat,i<=bn/\u= .int .i64 i/\zz= .int .i64 (z2+bf (fun b=>b.pats.length) (x.brs.take i):Nat)/\Hd (Bl W0 wq)) (fun _ u _=>bn-(intOf u).toNat)
     case atStart=>exact ⟨0,zl,rfl,by rw[dM,Nat.add_zero],HWQ.o⟩
     case round=>
      clear q2 q3 q4 q5 HWQ hjli;obtain ⟨i,hi,rfl,rfl,HWQ⟩:=hrel;obtain ⟨q2,q3,q4,q5⟩:=HCE.o _ HWQ.o;by_cases hil:i<bn
      ·have hili:(i:Int)<(bn:Int):=om;have hk6:bn<=1048576:=by have:=HLK.o;omega
       obtain ⟨c,hc⟩:∃c,x.brs[i]?=some c:=⟨_,bS (by have:=HLK.o.2.1;omega)⟩;obtain ⟨bb,bo,hbp,hbb,⟨cp,cn,cc,y6,hy6⟩,-⟩:=(HBR.o.below iC (HB0.o.trans (HWQ.o.mono HB0.o.size))).get hc;obtain ⟨zz,hzz⟩:=nm (z2+bf (fun b=>b.pats.length) (x.brs.take i));have HY:Hd (zz+cn=z2+bf (fun b=>b.pats.length) (x.brs.take (i+1))):=by show _=_;rw[hzz,er hc,hy6.ln.1];omega
       have HYB:Hd (zz+cn<=5000000000000000000):=by
        show _<=_;rw[HY.o];have h1:=HZB.o;have h2:=de (f:=fun b:Brn=>b.pats.length) (l:=x.brs) (k:=i+1);have h3:=HZP.o;unfold nZ at h3;omega
       rw[<- hzz];rw[hbp] at q5;clear hc hy6 hzz hbp;go_wp2_with fail;go_roundw
       case rel=>exact ⟨i+1,om,by go_num,by rw[<- HY.o];exact congrArg _ (oc om HYB.o),HWQ.o⟩
       case measure=>exact mz
      obtain rfl:i=bn:=om;have hili:¬(i:Int)<(i:Int):=om;have hr:z2+bf (fun b=>b.pats.length) (x.brs.take i)=T1+bf dz (p.steps.take (k+1)):=by
       rw[<- HZ.o,HZP.o,dL (by have:=HLK.o.2.1;omega)];rfl
      exact D1
   obtain rfl:k=s.sn:=om;have hki:¬(s.sn:Int)<(s.sn:Int):=om;obtain ⟨q0,q1,q2,q3,q4,q5,q6,q7,q8,q9,q10,q11⟩:=(HPB.o.below HW.o).cells;obtain ⟨T2,hT2⟩:=nm (T1+ss);have hr:T1+bf dz (p.steps.take s.sn)=T2:=by rw[hT2,HSS.o,dL (by have:=HN.o.2.1;omega)]
   rw[hr];have HT2:=hD hT2;have HWA:=HW;clear hr hT2 hk;go_wp2_with fail;clear hlt hki q0 q1 q2 q3 q4 q5 q6 q7 q8 q9 q10 q11;go_loopw [3,8] (fun z u wr=>∃k:Nat,k<=s.an/\u= .int .i64 k/\z= .int .i64 (T2+bf ig (p.acts.take k):Nat)/\Hd (Bl W0 wr)) (fun _ u _=>s.an-(intOf u).toNat)
   case atStart=>exact ⟨0,zl,rfl,by rw[dM,Nat.add_zero],HWA.o⟩
   case round=>
    clear HWA HW;obtain ⟨k,hk,rfl,rfl,HW⟩:=hrel;by_cases hlt:k<s.an
    ·have hki:(k:Int)<(s.an:Int):=om;have hb6:s.an<=1048576:=by have:=HL.o.acts;have:=HN.o.2.2.1;omega
     obtain ⟨x,hx⟩:∃x,p.acts[k]?=some x:=⟨_,bS (by have:=HN.o.2.2.1;omega)⟩;have hxm:=cX hx;obtain ⟨sb,so,hps,hsb,⟨tp,tn,tc,y0,hy0⟩,⟨bp,bn,bc,y1,hy1⟩⟩:=HP.o.acts.get hx;obtain ⟨z,hz⟩:=nm (T2+bf ig (p.acts.take k));obtain ⟨zk,hzk⟩:=nm (eL x.body);have HZ:Hd (z+1+tn+zk=T2+bf ig (p.acts.take (k+1))):=by show _=_;rw[hz,er hx,hy0.ln.1,hzk];unfold ig;omega
     have HZB:Hd (z+1+tn+zk<=5000000000000000000):=by
      show _<=_;rw[HZ.o,HT2.o,HT1.o,HT0.o];have h1:=HR.o;have h2:=de (f:=ig) (l:=p.acts) (k:=k+1);have h3:=HSA.o;have h4:=HRB.o;omega
     have HCW2:Hd (∀ W,Bl wr W->Calls Tryz.prog 56 #[.slice bp bn bc] W fun e w'=>e= .returned (.int .i64 (zk:Nat))/\w'=W):=fun W h=>by
      rw[hzk];have hb:=HB0.o.trans (HW.o.mono HB0.o.size);exact ku _ _ _ _ _ ((hy1.below dP hb).below dP h) (HL.o.body x hxm) (HL.o.bcode x hxm)
     rw[<- hz];have HCE:Hd (∀ W,Bl W0 W->Cl W w.heap.size 3 (.slice (some ⟨sb,so,none⟩) s.an s.ac)/\Cl W sb (so+k*2) (.slice tp tn tc)/\Cl W sb (so+k*2+1) (.slice bp bn bc)):=fun W h=>by
      obtain ⟨-,-,-,q2,-⟩:=(HPB.o.below h).cells;rw[hps] at q2;have hb:=HB0.o.trans (h.mono HB0.o.size);exact ⟨q2,(hb.cell (p:=⟨sb,so+k*2,none⟩) hsb).trans y0,(hb.cell (p:=⟨sb,so+k*2+1,none⟩) hsb).trans y1⟩
     clear hx hxm hps hsb y0 y1 hy0 hy1 hz hzk;obtain ⟨q2,q3,q4⟩:=HCE.o wr HW.o;go_upto_region 21 with fail;go_quiet (first|(go_at_call 56;exact Calls.quiet_of_same ((HCW2.o _ (below_drewN br _)).mono fun _ _ h=>⟨h.1,h.2⟩)));have hS:Bl wr (wr.drewN nq):=below_drewN br _;generalize wr.drewN nq=w2 at*;clear q2 q3 q4 HCE;have HW2:=hD (HW.o.trans (hS.mono HW.o.size));clear hS;go_wp2_with fail;go_roundw
     case rel=>exact ⟨k+1,om,by go_num,by rw[<- HZ.o];exact congrArg _ (sZ (a:=z+1) om rfl HZB.o),HW2.o⟩
     case measure=>exact mz
    obtain rfl:k=s.an:=om;have hki:¬(s.an:Int)<(s.an:Int):=om;obtain ⟨q0,q1,q2,q3,q4,q5,q6,q7,q8,q9,q10,q11⟩:=(HPB.o.below HW.o).cells;obtain ⟨T3,hT3⟩:=nm (T2+sa);have hr:T2+bf ig (p.acts.take s.an)=T3:=by rw[hT3,HSA.o,dL (by have:=HN.o.2.2.1;omega)]
    rw[hr];have HT3:=hD hT3;have HWA:=HW;clear hr hT3 hk;go_wp2_with fail;clear hlt hki q0 q1 q2 q3 q4 q5 q6 q7 q8 q9 q10 q11;go_loopw [3,9,10] (fun z u u10 wr=>∃k:Nat,k<=s.tn/\u= .int .i64 k/\z= .int .i64 (T3+bf fU (p.tabs.take k):Nat)/\Hd (Bl W0 wr)) (fun _ u _ _=>s.tn-(intOf u).toNat)
    case atStart=>exact ⟨0,zl,rfl,by rw[dM,Nat.add_zero],HWA.o⟩
    case round=>
     clear HWA HW;obtain ⟨k,hk,rfl,rfl,HW⟩:=hrel;by_cases hlt:k<s.tn
     ·have hki:(k:Int)<(s.tn:Int):=om;have hb6:s.tn<=1048576:=by have:=HL.o.tabs;have:=HN.o.2.2.2;omega
      obtain ⟨x,hx⟩:∃x,p.tabs[k]?=some x:=⟨_,bS (by have:=HN.o.2.2.2;omega)⟩;have hxm:=cX hx;obtain ⟨sb,so,hps,hsb,⟨kp,kn,kc,y1,hy1⟩,-,⟨tp,tn,tc,y0,hy0⟩,-,⟨bp,bn,bc,y2,hy2⟩⟩:=HP.o.tabs.get hx;obtain ⟨z,hz⟩:=nm (T3+bf fU (p.tabs.take k));obtain ⟨zk,hzk⟩:=nm (fL x.keys);have HZ:Hd (z+1+tn+bn+zk=T3+bf fU (p.tabs.take (k+1))):=by show _=_;rw[hz,er hx,hy0.ln.1,hy2.ln.1,hzk];unfold fU;omega
      have HZB:Hd (z+1+tn+bn+zk<=5000000000000000000):=by
       show _<=_;rw[HZ.o,HT3.o,HT2.o,HT1.o,HT0.o];have h1:=HR.o;have h2:=de (f:=fU) (l:=p.tabs) (k:=k+1);have h3:=HST.o;have h4:=HRB.o;omega
      have HZK:=hD hzk;have HLK:Hd (kn=x.keys.length/\kn<=1048576):=⟨hy1.ln.1,by have:=hy1.ln.1;have:=HL.o.tkeys x hxm;omega⟩;have HKR:=hD hy1;rw[<- hz];have HCE:Hd (∀ W,Bl W0 W->Cl W w.heap.size 4 (.slice (some ⟨sb,so,none⟩) s.tn s.tc)/\Cl W sb (so+k*5+2) (.slice tp tn tc)/\Cl W sb (so+k*5) (.slice kp kn kc)/\Cl W sb (so+k*5+4) (.slice bp bn bc)):=fun W h=>by
       obtain ⟨-,-,-,-,q2,-⟩:=(HPB.o.below h).cells;rw[hps] at q2;have hb:=HB0.o.trans (h.mono HB0.o.size);exact ⟨q2,(hb.cell (p:=⟨sb,so+k*5+2,none⟩) hsb).trans y0,(hb.cell (p:=⟨sb,so+k*5,none⟩) hsb).trans y1,(hb.cell (p:=⟨sb,so+k*5+4,none⟩) hsb).trans y2⟩
      clear hx hxm hps hsb y0 y1 y2 hy0 hy1 hy2 hz hzk;obtain ⟨q2,q3,q4,q5⟩:=HCE.o wr HW.o;go_upto_region 25 with fail;go_quiet (fail);have hS:Bl wr (wr.drewN nq):=below_drewN br _;generalize wr.drewN nq=w2 at*;clear q2 q3 q4 q5;have HW2:=hD (HW.o.trans (hS.mono HW.o.size));clear hS;obtain ⟨z1,hz1⟩:=nm (z+1+tn+bn);have hw9:wrap64 (wrap64 (wrap64 ((z:Int)+1)+(tn:Int))+(bn:Int))=(z1:Int):=by
       have h1:=HZB.o;rw[sZ (a:=z+1) (n:=z+1+tn+bn) om rfl om,hz1]
      rw[hw9];rw[<- hz1] at HZ HZB;clear hw9 hz1;obtain ⟨q2,q3,q4,q5⟩:=HCE.o w2 HW2.o;go_wp2_with fail;go_loopw [3,10] (fun zz u wq=>∃j:Nat,j<=kn/\u= .int .i64 j/\zz= .int .i64 (z1+bf (fun c=>1+c.length) (x.keys.take j):Nat)/\Hd (Bl W0 wq)) (fun _ u _=>kn-(intOf u).toNat)
      case atStart=>exact ⟨0,zl,rfl,by rw[dM,Nat.add_zero],HW2.o⟩
      case round=>
       clear q2 q3 q4 q5 HW2;obtain ⟨j,hj,rfl,rfl,HWQ⟩:=hrel;obtain ⟨q2,q3,q4,q5⟩:=HCE.o _ HWQ.o;by_cases hjl:j<kn
       ·exact gW
       obtain rfl:j=kn:=om;have hjli:¬(j:Int)<(j:Int):=om;have hr:z1+bf (fun c=>1+c.length) (x.keys.take j)=T3+bf fU (p.tabs.take (k+1)):=by rw[<- HZ.o,HZK.o,dL (by have:=HLK.o.1;omega)];rfl
       exact D1
     obtain rfl:k=s.tn:=om;have hki:¬(s.tn:Int)<(s.tn:Int):=om;obtain ⟨q0,q1,q2,q3,q4,q5,q6,q7,q8,q9,q10,q11⟩:=(HPB.o.below HW.o).cells;have hr:T3+bf fU (p.tabs.take s.tn)=R:=by rw[dL (by have:=HN.o.2.2.2;omega),HR.o, <-HST.o,HT3.o,HT2.o,HT1.o,HT0.o]
     rw[hr];have hbw:=HB0.o.trans (HW.o.mono HB0.o.size);clear hr;have hG:decide ((6000:Int)<(R:Int))=G:=by rw[HGR.o];exact decide_eq_decide.2 om
     go_wp2_with fail;go_ret;exact ⟨by first|rfl|(rw[<- hG])|(rw[<- hG];rfl),hbw⟩
open Go.RowKit
theorem qA (s:PgS) (p:Prg) (l:List Ent) (lp:Option Addr) (ln lc:Nat) (w:World) (hp:PgOk w s p) (hL:Lm p) (hl:ERow w (.slice lp ln lc) l):
 Calls Tryz.prog 14 #[cE s, .slice lp ln lc] w fun e w'=>oS (fun b=>b=false->et p<=6000/\l.length<=40) e/\Bl w w':=by
 obtain ⟨G,hG⟩:=nm (decide (6000<et p));have HG:=hD hG;have HGR:Hd (∀ W,Bl w W->CR 30 #[cE s] W (.bool G)):=fun W h=>by rw[hG];exact qy s p W (hp.below h) hL
 have HP:=hD hp;have HN:Hd (s.an=p.acts.length/\ln=l.length):=⟨hp.acts.ln.1,hl.ln.1⟩;have han:s.an<=1048576:=by have:=hp.acts.ln.1;have:=hL.acts;omega
 clear hp hL hl hG;unfold cE at HGR⊢;go_enter Tryz.func14,Tryz.ntmps14;go_upto_region 1 with fail;obtain ⟨W0,hW0⟩:=nm (w.alloc (.cells (pA s) 33));have HB0:Hd (Bl w W0):=by show Below _ _ _;rw[hW0];exact bL
 have HPB:Hd (PBox W0 w.heap.size s):=by show _=_;rw[hW0];exact ag _ _
 rw[<- hW0];clear hW0;obtain ⟨q0,q1,q2,q3,q4,q5,q6,q7,q8,q9,q10,q11⟩:=HPB.o.cells;go_wp2_with fail;clear q0 q1 q2 q3 q4 q5 q6 q7 q8 q9 q10 q11;go_loopw [5,7,14] (fun z u i wr=>∃(k:Nat) (n:Int),k<=s.an/\i= .int .i64 k/\z= .int .i64 n/\Hd (Bl W0 wr)) (fun _ _ i _=>s.an-(intOf i).toNat)
 case atStart=>exact ⟨0,_,zl,rfl,rfl,Below.refl _ _⟩
 case round=>
  obtain ⟨k,n,hk,rfl,rfl,HW⟩:=hrel;by_cases hlt:k<s.an
  ·have hki:(k:Int)<(s.an:Int):=om;have hbw:=HB0.o.trans (HW.o.mono HB0.o.size);obtain ⟨a,ha⟩:∃a,p.acts[k]?=some a:=⟨_,bS (by have:=HN.o.1;omega)⟩;obtain ⟨b,o,hps,hb,⟨p1,n1,c1,y1,hy1⟩,⟨p2,n2,c2,y2,hy2⟩⟩:=(HP.o.acts.below lk hbw).get ha;have HB1:Hd (Bl W0 (wr.alloc (.cells #[.slice p1 n1 c1, .slice p2 n2 c2] 49))):=HW.o.alloc HW.o.size _;rw[hps];clear hbw ha hps hy1 hy2;go_wp2_with fail;go_roundw
   case rel=>exact ⟨k+1,_,om,by go_num,rfl,HB1.o⟩
   case measure=>exact mz
  obtain rfl:k=s.an:=om;have hki:¬(s.an:Int)<(s.an:Int):=om;obtain ⟨q0,q1,q2,q3,q4,q5,q6,q7,q8,q9,q10,q11⟩:=(HPB.o.below HW.o).cells;have HBW:=hD (HB0.o.trans (HW.o.mono HB0.o.size));have hcase:(G=true)\/(G=false/\(200<n\/(¬ 200<n/\40<(ln:Int))\/(¬ 200<n/\¬40<(ln:Int)))):=by
   cases G
   ·exact .inr ⟨rfl,om⟩
   ·exact .inl rfl
  rcases hcase with rfl|⟨rfl,g1|⟨g1,g2⟩|⟨g1,g2⟩⟩
  all_goals
   go_wp2_with (go_at_call 30;(with_reducible refine (HGR.o _ HBW.o).mono ?_);rintro e w1 ⟨rfl,hb1⟩;have HB1:=hD hb1;clear hb1);go_ret;exact ⟨⟨_,rfl,fun h=>by first|cases h|(have h1:=HG.o;have h2:=HN.o.2;exact ⟨Nat.le_of_not_lt (of_decide_eq_false h1.symm),om⟩)|(exfalso;simp at h;omega)⟩,HBW.o.trans (HB1.o.mono HBW.o.size)⟩
structure Seen (p:Prg) (l:List Ent) (x:Pkt) (po:Int):Prop where
 great:et p<=6000
 many:l.length<=40
 may:iL p=true
 ents:∀y∈l,EntOk p y
 fits:nk p x=true
 p0:0<=po
 p1:po<=511
 rest:x.rest.length<=400
theorem uh (s:PgS) (p:Prg) (l:List Ent) (lp:Option Addr) (ln lc:Nat) (q:KS) (x:Pkt) (po eg:Int) (dr se ac:Bool) (w:World) (hp:PgOk w s p) (hL:Lm p) (hl:ERow w (.slice lp ln lc) l) (hla:∀x∈l,x.args.length<=1000000) (hq:KOk w q x):
 Calls Tryz.prog 5 #[cE s, .slice lp ln lc,kV q po dr se eg ac] w fun e w'=>oS (fun b=>b=true->Seen p l x po) e/\Bl w w':=by
 have HGR:=hD (fun W (h:Bl w W)=>qA s p l lp ln lc W (hp.below h) hL (hl.below eN h));have HM19:=hD (fun W (h:Bl w W) (hg:et p<=6000)=>tX s p W (hp.below h) (Sm.of hg));obtain ⟨rm,hrm⟩:=nm (iL p);have HM10:Hd (∀ W,Bl w W->et p<=6000->CR 16 #[cE s] W (.bool rm)):=fun W h hg=>by rw[hrm];exact nR s p W (hp.below h) (Sm.of hg)
 have HM12:=hD (fun W (h:Bl w W) (hg:et p<=6000) (hm:iL p=true)=>tW s p l lp ln lc W (hp.below h) (Sm.of hg) hm (hl.below eN h) hla);obtain ⟨rf,hrf⟩:=nm (nk p x);have HFI:Hd (∀ W,Bl w W->et p<=6000->CR 13 #[cE s,kV q po dr se eg ac] W (.bool rf)):=fun W h hg=>by rw[hrf];exact rT s p q x po eg dr se ac W (hp.below h) (Sm.of hg) (hq.below h)
 have HRM:=hD hrm;have HRF:=hD hrf;have HN:Hd (q.rn=x.rest.length):=hq.r.ln.1;clear hp hL hl hla hq hrm hrf;unfold cE at HGR HM19 HM10 HM12 HFI⊢;unfold kV at HFI⊢;go_enter Tryz.func5,Tryz.ntmps5;go_upto_region 1 with fail;obtain ⟨W0,hW0⟩:=nm ((w.alloc (.cells (pA s) 33)).alloc (.cells (kA q po dr se eg ac) 40));have HB0:Hd (Bl w W0):=by show Below _ _ _;rw[hW0];exact bL
 have HPB:Hd (PBox W0 w.heap.size s):=by show _=_;rw[hW0,Below.heap_alloc _ _ _ sm];exact ag _ _
 have HKB:Hd (KBox W0 (w.heap.size+1) q po dr se eg ac):=by
  exact j9
 rw[<- hW0];clear hW0;have HCE:Hd (∀ W,Bl W0 W->xL W w.heap.size s/\(Cl W (w.heap.size+1) 0 (.int .i64 po)/\Cl W (w.heap.size+1) 1 (.slice q.rp q.rn q.rc)/\Cl W (w.heap.size+1) 2 (.slice q.vp q.vn q.vc)/\Cl W (w.heap.size+1) 3 (.slice q.fp q.fn q.fc)/\Cl W (w.heap.size+1) 4 (.slice q.mp q.mn q.mc)/\Cl W (w.heap.size+1) 5 (.bool dr)/\Cl W (w.heap.size+1) 6 (.bool se)/\Cl W (w.heap.size+1) 7 (.int .i64 eg)/\Cl W (w.heap.size+1) 8 (.bool ac))):=fun W h=>⟨(HPB.o.below h).cells,(HKB.o.below h).cells⟩
 obtain ⟨⟨q0,q1,q2,q3,q4,q5,q6,q7,q8,q9,q10,q11⟩,k0,k1,k2,k3,k4,k5,k6,k7,k8⟩:=HCE.o W0 br;have HC0:Hd (Bl W0 W0):=Below.refl _ _;go_wp2_with (first
  |(go_at_call 14;(with_reducible refine (HGR.o _ HB0.o).mono ?_);rintro e w1 ⟨⟨b1,rfl,ha1⟩,hb1⟩;have HB1:=hD (HB0.o.trans (hb1.mono HB0.o.size));have HC1:=hD hb1;have HA1:=hD ha1;clear hb1 ha1;obtain ⟨⟨q0,q1,q2,q3,q4,q5,q6,q7,q8,q9,q10,q11⟩,k0,k1,k2,k3,k4,k5,k6,k7,k8⟩:=HCE.o w1 HC1.o;cases b1)
  |(go_at_call 15;(with_reducible refine (HM19.o _ HB1.o (HA1.o (by trivial)).1).mono ?_);rintro e w2 ⟨⟨b2,rfl,-⟩,hb2⟩;have HB2:=hD (HB1.o.trans (hb2.mono HB1.o.size));have HC2:=hD (HC1.o.trans (hb2.mono HC1.o.size));clear hb2;obtain ⟨⟨q0,q1,q2,q3,q4,q5,q6,q7,q8,q9,q10,q11⟩,k0,k1,k2,k3,k4,k5,k6,k7,k8⟩:=HCE.o w2 HC2.o;cases b2)
  |(go_at_call 16;(with_reducible refine (HM10.o _ HB2.o (HA1.o (by trivial)).1).mono ?_);rintro e w3 ⟨rfl,hb3⟩;have HB3:=hD (HB2.o.trans (hb3.mono HB2.o.size));have HC3:=hD (HC2.o.trans (hb3.mono HC2.o.size));clear hb3;obtain ⟨⟨q0,q1,q2,q3,q4,q5,q6,q7,q8,q9,q10,q11⟩,k0,k1,k2,k3,k4,k5,k6,k7,k8⟩:=HCE.o w3 HC3.o;cases rm)
  |(go_at_call 17;(with_reducible refine (HM12.o _ HB3.o (HA1.o (by trivial)).1 HRM.o.symm).mono ?_);rintro e w4 ⟨⟨b4,rfl,ha4⟩,hb4⟩;have HB4:=hD (HB3.o.trans (hb4.mono HB3.o.size));have HC4:=hD (HC3.o.trans (hb4.mono HC3.o.size));have HA4:=hD ha4;clear hb4 ha4;obtain ⟨⟨q0,q1,q2,q3,q4,q5,q6,q7,q8,q9,q10,q11⟩,k0,k1,k2,k3,k4,k5,k6,k7,k8⟩:=HCE.o w4 HC4.o;cases b4)
  |(go_at_call 13;(with_reducible refine (HFI.o _ HB4.o (HA1.o (by trivial)).1).mono ?_);rintro e w5 ⟨rfl,hb5⟩;have HB5:=hD (HB4.o.trans (hb5.mono HB4.o.size));have HC5:=hD (HC4.o.trans (hb5.mono HC4.o.size));clear hb5;obtain ⟨⟨q0,q1,q2,q3,q4,q5,q6,q7,q8,q9,q10,q11⟩,k0,k1,k2,k3,k4,k5,k6,k7,k8⟩:=HCE.o w5 HC5.o;cases rf))
 all_goals
  go_ret;refine ⟨⟨_,rfl,fun h=>?_⟩,by first|exact HB5.o|exact HB4.o|exact HB3.o|exact HB2.o|exact HB1.o⟩
  first
   |(cases h;done)
   |(simp only[Bool.and_eq_true,decide_eq_true_eq] at h;have:=HN.o;exact ⟨(HA1.o (by trivial)).1,(HA1.o (by trivial)).2,HRM.o.symm,HA4.o (by trivial),HRF.o.symm,om,om,om⟩)
   |trace_state
end Go.Proofs.YtjfhfaodbjecdaaGreat
