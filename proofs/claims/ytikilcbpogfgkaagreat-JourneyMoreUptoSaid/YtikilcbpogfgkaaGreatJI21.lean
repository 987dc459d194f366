/- Lemmas. -/
import Derived.Test.YtikilcbpogfgkaaGreatJI20
set_option maxHeartbeats 12800000
set_option maxRecDepth 100000
namespace Go.Proofs.YtikilcbpogfgkaaGreat
open Go.RowKit
variable {w:World} {c j b size g:Nat} {x:Int} {v0 v1 v2 v3 v4 v5 v6 v7:Value} {r:List Value}
theorem weigh10_any (l:List Ist) (p:Option Addr) (n c:Nat) (w:World) (h:IstRow w (.slice p n c) l) (hn:l.length<=1048576) (he:∀i∈l,i.e.length<=1048576):
 Calls Tryz.prog 78 #[.slice p n c] w fun e w'=>e= .returned (.int .i64 (weighN l:Nat))/\w'=w:=by
 obtain ⟨hl1,-,-,-⟩:=h.ln;subst hl1;obtain ⟨R,hR⟩:=nm (weighN l);rw[<- hR];have HR:=hD hR;have HV:=hD h;have HB:=hD (weigh_le hn he);clear h he hR;go_enter Tryz.func78,Tryz.ntmps78;go_wp2_with fail;go_loopw [3,4] (fun z i wr=>∃k:Nat,k<=l.length/\i= .int .i64 k/\z= .int .i64 (l.length+sumL (fun i=>i.e.length) (l.take k):Nat)/\wr=w) (fun _ i _=>l.length-(intOf i).toNat)
 case atStart=>exact ⟨0,zl,rfl,by rw[sumL_zero,Nat.add_zero],rfl⟩
 case round=>
  obtain ⟨k,hk,rfl,rfl,rfl⟩:=hrel;by_cases hlt:k<l.length
  ·have hki:(k:Int)<(l.length:Int):=om;obtain ⟨x,hx⟩:∃x,l[k]?=some x:=⟨_,gE_ hlt⟩;obtain ⟨b,o,rfl,hb,-,-,-,⟨ep,en,ec,y3,hy⟩,-⟩:=HV.o.get hx;obtain ⟨z,hz⟩:=nm (l.length+sumL (fun i=>i.e.length) (l.take k));have HZ:Hd (z+en=l.length+sumL (fun i=>i.e.length) (l.take (k+1))):=by show _=_;rw[hz,sumL_take hx,hy.ln.1];omega
   have HZB:Hd (z+en<=5000000000000000000):=by
    show _<=_;rw[HZ.o];have h1:=HB.o;have h2:=sumL_takele (f:=fun i:Ist=>i.e.length) (l:=l) (k:=k+1);unfold weighN at h1;omega
   rw[<- hz];clear hz hx hy;go_wp2_with fail;go_roundw
   case rel=>exact ⟨k+1,om,by go_num,by rw[<- HZ.o];exact congrArg _ (wrapL om HZB.o),by trivial⟩
   case measure=>exact mz
  obtain rfl:k=l.length:=om;have hki:¬((l.length:Nat):Int)<(l.length:Int):=om;have hr:l.length+sumL (fun i=>i.e.length) (l.take l.length)=R:=by rw[HR.o,sumL_full lr];rfl
  rw[hr];go_wp2_with fail;go_ret;exact ⟨rfl,rfl⟩
theorem IsRow.elG {p:Option Addr} {n:Nat} {l:List (List Int)} (h:IsRow w (.slice p n c) l) {x:List Int} (hj:l[j]?=some x):∃b o p1 n1 c1,p=some ⟨b,o,none⟩/\b<w.heap.size/\w.cell? ⟨b,o+j,none⟩=some (.slice p1 n1 c1)/\IRow w (.slice p1 n1 c1) x:=by
 exact gB5
theorem CsRow.elG {p:Option Addr} {n:Nat} {l:List (List Nod)} (h:CsRow w (.slice p n c) l) {x:List Nod} (hj:l[j]?=some x):∃b o p1 n1 c1,p=some ⟨b,o,none⟩/\b<w.heap.size/\w.cell? ⟨b,o+j,none⟩=some (.slice p1 n1 c1)/\CRow w (.slice p1 n1 c1) x:=by
 exact gB5
theorem wrap2 {a n:Nat} (h:x=(a:Int)) (h1:a+b=n) (h2:n<=5000000000000000000):wrap64 (wrap64 x+(b:Int))=(n:Int):=by
 rw[wrapL h om];exact wrapL om h2
theorem wrap3 {a n:Nat} (h:x=(a:Int)) (h1:a+b+c=n) (h2:n<=5000000000000000000):wrap64 (wrap64 (wrap64 x+(b:Int))+(c:Int))=(n:Int):=by
 rw[wrap2 h rfl om];exact wrapL om h2
theorem great10_any (s:PgS) (p:Prg) (w:World) (hp:PgOk w s p) (hL:Lm p):
 Calls Tryz.prog 44 #[pgV s] w fun e w'=>e= .returned (.bool (decide (6000<greatN p)))/\Bl w w':=by
 obtain ⟨R,hR⟩:=nm (greatN p);have hRB:=hL.great;rw[<- hR] at hRB⊢;obtain ⟨G,hG⟩:=nm (decide (6000<R));rw[<- hG];have HGR:=hD hG;clear hG;have HRB:=hD hRB;obtain ⟨wc,hwc⟩:=nm (weighN p.ctl);obtain ⟨sh,hsh⟩:=nm (sumL List.length p.heads);obtain ⟨ss,hss⟩:=nm (sumL stepN p.steps);obtain ⟨sa,hsa⟩:=nm (sumL actN p.acts);obtain ⟨st,hst⟩:=nm (sumL tabN p.tabs);have HR:Hd (R=s.hn+s.mn+s.en+wc+sh+ss+sa+st):=by show _=_;rw[hR,hp.heads.ln.1,hp.metas.ln.1,hp.emit.ln.1,hwc,hsh,hss,hsa,hst];rfl
 have HCW:Hd (∀ W,Bl w W->CR 78 #[.slice s.cp s.cn s.cc] W (.int .i64 (wc:Nat))):=fun W h=>by rw[hwc];refine Calls.mono (weigh10_any _ _ _ _ _ (hp.ctl.below keepIst h) hL.ctl hL.ccode) fun _ _ h=>⟨h.1,h.2 ▸ Below.refl _ _⟩
 have HSH:=hD hsh;have HSS:=hD hss;have HSA:=hD hsa;have HST:=hD hst;have HP:=hD hp;have HL:=hD hL;have HN:Hd (s.hn=p.heads.length/\s.sn=p.steps.length/\s.an=p.acts.length/\s.tn=p.tabs.length):=⟨hp.heads.ln.1,hp.steps.ln.1,hp.acts.ln.1,hp.tabs.ln.1⟩;clear hR hRB hwc hsh hss hsa hst hp hL;unfold pgV;go_enter Tryz.func44,Tryz.ntmps44;go_upto_region 1 with fail;obtain ⟨W0,hW0⟩:=nm (w.alloc (.cells (pA s) 33));have HB0:Hd (Bl w W0):=by show Below _ _ _;rw[hW0];exact bL
 have HPB:Hd (PBox W0 w.heap.size s):=by show _=_;rw[hW0];exact heap_new _ _
 rw[<- hW0];clear hW0;have HCE:=hD (fun W (h:Bl W0 W)=>(HPB.o.below h).cells);have HC1:=hD (fun W (h:Bl W0 W)=>HCW.o W (HB0.o.trans (h.mono HB0.o.size)));refine roB W0 ?_;refine sq (fun aa ww ll hh=>by have:=hh.oL 1;exact ov gX) ?_;refine sq (fun aa ww ll hh=>by have:=hh.gt 0 0;exact ov (fC (HCE.o ww hh.inv))) ?_;refine sq (fun aa ww ll hh=>by have:=hh.gt 1 0;exact ov (fC (HCE.o ww hh.inv))) ?_;refine sq (fun aa ww ll hh=>by have:=hh.oL 1;exact ov gX) ?_;refine sq (fun aa ww ll hh=>by have:=hh.gt 3 0;exact ov (fC (HCE.o ww hh.inv))) ?_;refine sq (fun aa ww ll hh=>by have:=hh.gt 4 0;exact ov (fC (HCE.o ww hh.inv))) ?_;refine sq (fun aa ww ll hh=>by have:=hh.gt 2 3;have:=hh.gt 5 0;exact ov gX) ?_;refine sq (fun aa ww ll hh=>by have:=hh.oL 1;exact ov gX) ?_;refine sq (fun aa ww ll hh=>by have:=hh.gt 7 0;exact ov (fC (HCE.o ww hh.inv))) ?_;refine sq (fun aa ww ll hh=>by have:=hh.gt 8 0;exact ov (fC (HCE.o ww hh.inv))) ?_;refine sq (fun aa ww ll hh=>by have:=hh.gt 6 3;have:=hh.gt 9 0;exact ov gX) ?_;refine sq (fun aa ww ll hh=>by have:=hh.oL 1;exact ov gX) ?_;refine sq (fun aa ww ll hh=>by have:=hh.gt 11 0;exact ov (fC (HCE.o ww hh.inv))) ?_;refine ⟨.eq (.int .i64 (wc:Nat)),trivial,rfl,fun aa ww ll hh=>?_,?_⟩
 ·have e23:=hh.gt 12 0;have ef:=evf aa;refine out_call_eq (wanted_none rfl) ?_ (HC1.o ww hh.inv);exact gX
 refine sq (fun aa ww ll hh=>by have:=hh.gt 10 3;have:=hh.gt 13 0;exact ov gX) ?_;refine stm 14 0 ?_;intro ll w2 hS hok;clear hok;simp only[ly];clear HC1 HCW HCE;have HB1:=hD hS;clear hS;obtain ⟨T0,hT0⟩:=nm (s.hn+s.mn+s.en+wc);have ht0:IntKind.i64.wrap (IntKind.i64.wrap (IntKind.i64.wrap ((s.hn:Int)+(s.mn:Int))+(s.en:Int))+(wc:Int))=(T0:Int):=by
  rw[IntWalk.i64_left,IntWalk.i64_left,IntWalk.i64_left];change wrap64 (wrap64 (wrap64 ((s.hn:Int)+(s.mn:Int))+(s.en:Int))+(wc:Int))=(T0:Int);have h1:=HR.o;have h2:=HRB.o;rw[wrap3 (a:=s.hn+s.mn) (n:=s.hn+s.mn+s.en+wc) om rfl om,hT0]
 rw[ht0];have HT0:=hD hT0;clear ht0 hT0;go_wp2_with fail;go_loopw [3,4] (fun z u wr=>∃k:Nat,k<=s.hn/\u= .int .i64 k/\z= .int .i64 (T0+sumL List.length (p.heads.take k):Nat)/\Hd (Bl W0 wr)) (fun _ u _=>s.hn-(intOf u).toNat)
 case atStart=>exact ⟨0,zl,rfl,by rw[sumL_zero,Nat.add_zero],HB1.o⟩
 case round=>
  obtain ⟨k,hk,rfl,rfl,HW⟩:=hrel;obtain ⟨q0,q1,q2,q3,q4,q5,q6,q7,q8,q9,q10,q11⟩:=(HPB.o.below HW.o).cells;by_cases hlt:k<s.hn
  ·have hki:(k:Int)<(s.hn:Int):=om;have hb6:s.hn<=1048576:=by have:=HL.o.heads;have:=HN.o.1;omega
   obtain ⟨x,hx⟩:∃x,p.heads[k]?=some x:=⟨_,gE_ (by have:=HN.o.1;omega)⟩;obtain ⟨b,o,ep,en,ec,hps,hb,y0,hy⟩:=IsRow.elG (HP.o.heads.below keepIs (HB0.o.trans (HW.o.mono HB0.o.size))) hx;obtain ⟨z,hz⟩:=nm (T0+sumL List.length (p.heads.take k));have HZ:Hd (z+en=T0+sumL List.length (p.heads.take (k+1))):=by show _=_;rw[hz,sumL_take hx,hy.ln.1];omega
   have HZB:Hd (z+en<=5000000000000000000):=by
    show _<=_;rw[HZ.o,HT0.o];have h1:=HR.o;have h2:=sumL_takele (f:=List.length) (l:=p.heads) (k:=k+1);have h3:=HSH.o;have h4:=HRB.o;omega
   rw[<- hz];rw[hps] at q0;clear hz hx hy hps;go_wp2_with fail;go_roundw
   case rel=>exact ⟨k+1,om,by go_num,by rw[<- HZ.o];exact congrArg _ (wrapL om HZB.o),HW.o⟩
   case measure=>exact mz
  obtain rfl:k=s.hn:=om;have hki:¬(s.hn:Int)<(s.hn:Int):=om;obtain ⟨T1,hT1⟩:=nm (T0+sh);have hr:T0+sumL List.length (p.heads.take s.hn)=T1:=by rw[hT1,HSH.o,sumL_full (by have:=HN.o.1;omega)]
  rw[hr];have HT1:=hD hT1;have HWA:=HW;clear hr hT1 hk;go_wp2_with fail;clear hlt hki q0 q1 q2 q3 q4 q5 q6 q7 q8 q9 q10 q11;go_loopw [3,5,6,7] (fun z u u6 u7 wr=>∃k:Nat,k<=s.sn/\u= .int .i64 k/\z= .int .i64 (T1+sumL stepN (p.steps.take k):Nat)/\Hd (Bl W0 wr)) (fun _ u _ _ _=>s.sn-(intOf u).toNat)
  case atStart=>exact ⟨0,zl,rfl,by rw[sumL_zero,Nat.add_zero],HWA.o⟩
  case round=>
   clear HWA HW;obtain ⟨k,hk,rfl,rfl,HW⟩:=hrel;by_cases hlt:k<s.sn
   ·have hki:(k:Int)<(s.sn:Int):=om;have hb6:s.sn<=1048576:=by have:=HL.o.steps;have:=HN.o.2.1;omega
    obtain ⟨x,hx⟩:∃x,p.steps[k]?=some x:=⟨_,gE_ (by have:=HN.o.2.1;omega)⟩;have hxm:=gM_ hx;obtain ⟨sb,so,hps,hsb,⟨tp,tn,tc,y0,hy0⟩,⟨kp,kn,kc,y1,hy1⟩,⟨bp,bn,bc,y2,hy2⟩,y3⟩:=HP.o.steps.get hx;obtain ⟨z,hz⟩:=nm (T1+sumL stepN (p.steps.take k));obtain ⟨zk,hzk⟩:=nm (codesN x.keys);obtain ⟨zp,hzp⟩:=nm (patsN x.brs);have HZ:Hd (z+1+tn+bn+zk+zp=T1+sumL stepN (p.steps.take (k+1))):=by show _=_;rw[hz,sumL_take hx,hy0.ln.1,hy2.ln.1,hzk,hzp];unfold stepN;omega
    have HZB:Hd (z+1+tn+bn+zk+zp<=5000000000000000000):=by
     show _<=_;rw[HZ.o,HT1.o,HT0.o];have h1:=HR.o;have h2:=sumL_takele (f:=stepN) (l:=p.steps) (k:=k+1);have h3:=HSS.o;have h4:=HRB.o;omega
    have HZK:=hD hzk;have HZP:=hD hzp;have HLK:Hd (kn=x.keys.length/\bn=x.brs.length/\kn<=1048576/\bn<=1048576):=⟨hy1.ln.1,hy2.ln.1,by have:=hy1.ln.1;have:=HL.o.skeys x hxm;omega,by have:=hy2.ln.1;have:=HL.o.brs x hxm;omega⟩;have HKR:=hD hy1;have HBR:=hD hy2;rw[<- hz];have HCE:Hd (∀ W,Bl W0 W->Cl W w.heap.size 2 (.slice (some ⟨sb,so,none⟩) s.sn s.sc)/\Cl W sb (so+k*4) (.slice tp tn tc)/\Cl W sb (so+k*4+1) (.slice kp kn kc)/\Cl W sb (so+k*4+2) (.slice bp bn bc)):=fun W h=>by
     obtain ⟨-,-,q2,-⟩:=(HPB.o.below h).cells;rw[hps] at q2;have hb:=HB0.o.trans (h.mono HB0.o.size);exact ⟨q2,(hb.cell (p:=⟨sb,so+k*4,none⟩) hsb).trans y0,(hb.cell (p:=⟨sb,so+k*4+1,none⟩) hsb).trans y1,(hb.cell (p:=⟨sb,so+k*4+2,none⟩) hsb).trans y2⟩
    clear hx hxm hps hsb y0 y1 y2 y3 hy0 hy1 hy2 hz hzk hzp;obtain ⟨q2,q3,q4,q5⟩:=HCE.o wr HW.o;go_upto_region 9 with fail;go_quiet (fail);have hS:Bl wr (wr.drewN nq):=below_drewN br _;generalize wr.drewN nq=w2 at*;clear q2 q3 q4 q5;have HW2:=hD (HW.o.trans (hS.mono HW.o.size));clear hS;obtain ⟨z1,hz1⟩:=nm (z+1+tn+bn);have hw9:wrap64 (wrap64 (wrap64 ((z:Int)+1)+(tn:Int))+(bn:Int))=(z1:Int):=by
     have h1:=HZB.o;rw[wrap3 (a:=z+1) (n:=z+1+tn+bn) om rfl om,hz1]
    rw[hw9];rw[<- hz1] at HZ HZB;clear hw9 hz1;obtain ⟨q2,q3,q4,q5⟩:=HCE.o w2 HW2.o;go_wp2_with fail;go_loopw [3,6] (fun zz u wq=>∃j:Nat,j<=kn/\u= .int .i64 j/\zz= .int .i64 (z1+sumL (fun c=>1+c.length) (x.keys.take j):Nat)/\Hd (Bl W0 wq)) (fun _ u _=>kn-(intOf u).toNat)
    case atStart=>exact ⟨0,zl,rfl,by rw[sumL_zero,Nat.add_zero],HW2.o⟩
    case round=>
     clear q2 q3 q4 q5 HW2;obtain ⟨j,hj,rfl,rfl,HWQ⟩:=hrel;obtain ⟨q2,q3,q4,q5⟩:=HCE.o _ HWQ.o;by_cases hjl:j<kn
     ·exact gP
     obtain rfl:j=kn:=om;have hjli:¬(j:Int)<(j:Int):=om;obtain ⟨z2,hz2⟩:=nm (z1+zk);have hr:z1+sumL (fun c=>1+c.length) (x.keys.take j)=z2:=by rw[hz2,HZK.o,sumL_full (by have:=HLK.o.1;omega)];rfl
     rw[hr];rw[<- hz2] at HZ HZB;clear hr hz2;go_wp2_with fail;go_loopw [3,7] (fun zz u wq=>∃i:Nat,i<=bn/\u= .int .i64 i/\zz= .int .i64 (z2+sumL (fun b=>b.pats.length) (x.brs.take i):Nat)/\Hd (Bl W0 wq)) (fun _ u _=>bn-(intOf u).toNat)
     case atStart=>exact ⟨0,zl,rfl,by rw[sumL_zero,Nat.add_zero],HWQ.o⟩
     case round=>
      clear q2 q3 q4 q5 HWQ hjli;obtain ⟨i,hi,rfl,rfl,HWQ⟩:=hrel;obtain ⟨q2,q3,q4,q5⟩:=HCE.o _ HWQ.o;by_cases hil:i<bn
      ·have hili:(i:Int)<(bn:Int):=om;have hk6:bn<=1048576:=by have:=HLK.o;omega
       obtain ⟨c,hc⟩:∃c,x.brs[i]?=some c:=⟨_,gE_ (by have:=HLK.o.2.1;omega)⟩;obtain ⟨bb,bo,hbp,hbb,⟨cp,cn,cc,y6,hy6⟩,-⟩:=(HBR.o.below keepBrn (HB0.o.trans (HWQ.o.mono HB0.o.size))).get hc;obtain ⟨zz,hzz⟩:=nm (z2+sumL (fun b=>b.pats.length) (x.brs.take i));have HY:Hd (zz+cn=z2+sumL (fun b=>b.pats.length) (x.brs.take (i+1))):=by show _=_;rw[hzz,sumL_take hc,hy6.ln.1];omega
       have HYB:Hd (zz+cn<=5000000000000000000):=by
        show _<=_;rw[HY.o];have h1:=HZB.o;have h2:=sumL_takele (f:=fun b:Brn=>b.pats.length) (l:=x.brs) (k:=i+1);have h3:=HZP.o;unfold patsN at h3;omega
       rw[<- hzz];rw[hbp] at q5;clear hc hy6 hzz hbp;go_wp2_with fail;go_roundw
       case rel=>exact ⟨i+1,om,by go_num,by rw[<- HY.o];exact congrArg _ (wrapL om HYB.o),HWQ.o⟩
       case measure=>exact mz
      obtain rfl:i=bn:=om;have hili:¬(i:Int)<(i:Int):=om;have hr:z2+sumL (fun b=>b.pats.length) (x.brs.take i)=T1+sumL stepN (p.steps.take (k+1)):=by
       rw[<- HZ.o,HZP.o,sumL_full (by have:=HLK.o.2.1;omega)];rfl
      exact gK4
   obtain rfl:k=s.sn:=om;have hki:¬(s.sn:Int)<(s.sn:Int):=om;obtain ⟨q0,q1,q2,q3,q4,q5,q6,q7,q8,q9,q10,q11⟩:=(HPB.o.below HW.o).cells;obtain ⟨T2,hT2⟩:=nm (T1+ss);have hr:T1+sumL stepN (p.steps.take s.sn)=T2:=by rw[hT2,HSS.o,sumL_full (by have:=HN.o.2.1;omega)]
   rw[hr];have HT2:=hD hT2;have HWA:=HW;clear hr hT2 hk;go_wp2_with fail;clear hlt hki q0 q1 q2 q3 q4 q5 q6 q7 q8 q9 q10 q11;go_loopw [3,8] (fun z u wr=>∃k:Nat,k<=s.an/\u= .int .i64 k/\z= .int .i64 (T2+sumL actN (p.acts.take k):Nat)/\Hd (Bl W0 wr)) (fun _ u _=>s.an-(intOf u).toNat)
   case atStart=>exact ⟨0,zl,rfl,by rw[sumL_zero,Nat.add_zero],HWA.o⟩
   case round=>
    clear HWA HW;obtain ⟨k,hk,rfl,rfl,HW⟩:=hrel;by_cases hlt:k<s.an
    ·have hki:(k:Int)<(s.an:Int):=om;have hb6:s.an<=1048576:=by have:=HL.o.acts;have:=HN.o.2.2.1;omega
     obtain ⟨x,hx⟩:∃x,p.acts[k]?=some x:=⟨_,gE_ (by have:=HN.o.2.2.1;omega)⟩;have hxm:=gM_ hx;obtain ⟨sb,so,hps,hsb,⟨tp,tn,tc,y0,hy0⟩,⟨bp,bn,bc,y1,hy1⟩⟩:=HP.o.acts.get hx;obtain ⟨z,hz⟩:=nm (T2+sumL actN (p.acts.take k));obtain ⟨zk,hzk⟩:=nm (weighN x.body);have HZ:Hd (z+1+tn+zk=T2+sumL actN (p.acts.take (k+1))):=by show _=_;rw[hz,sumL_take hx,hy0.ln.1,hzk];unfold actN;omega
     have HZB:Hd (z+1+tn+zk<=5000000000000000000):=by
      show _<=_;rw[HZ.o,HT2.o,HT1.o,HT0.o];have h1:=HR.o;have h2:=sumL_takele (f:=actN) (l:=p.acts) (k:=k+1);have h3:=HSA.o;have h4:=HRB.o;omega
     have HCW2:Hd (∀ W,Bl wr W->Calls Tryz.prog 78 #[.slice bp bn bc] W fun e w'=>e= .returned (.int .i64 (zk:Nat))/\w'=W):=fun W h=>by
      rw[hzk];have hb:=HB0.o.trans (HW.o.mono HB0.o.size);exact weigh10_any _ _ _ _ _ ((hy1.below keepIst hb).below keepIst h) (HL.o.body x hxm) (HL.o.bcode x hxm)
     rw[<- hz];have HCE:Hd (∀ W,Bl W0 W->Cl W w.heap.size 3 (.slice (some ⟨sb,so,none⟩) s.an s.ac)/\Cl W sb (so+k*2) (.slice tp tn tc)/\Cl W sb (so+k*2+1) (.slice bp bn bc)):=fun W h=>by
      obtain ⟨-,-,-,q2,-⟩:=(HPB.o.below h).cells;rw[hps] at q2;have hb:=HB0.o.trans (h.mono HB0.o.size);exact ⟨q2,(hb.cell (p:=⟨sb,so+k*2,none⟩) hsb).trans y0,(hb.cell (p:=⟨sb,so+k*2+1,none⟩) hsb).trans y1⟩
     clear hx hxm hps hsb y0 y1 hy0 hy1 hz hzk;obtain ⟨q2,q3,q4⟩:=HCE.o wr HW.o;go_upto_region 21 with fail;go_quiet (first|(go_at_call 78;exact Calls.quiet_of_same ((HCW2.o _ (below_drewN br _)).mono fun _ _ h=>⟨h.1,h.2⟩)));have hS:Bl wr (wr.drewN nq):=below_drewN br _;generalize wr.drewN nq=w2 at*;clear q2 q3 q4 HCE;have HW2:=hD (HW.o.trans (hS.mono HW.o.size));clear hS;go_wp2_with fail;go_roundw
     case rel=>exact ⟨k+1,om,by go_num,by rw[<- HZ.o];exact congrArg _ (wrap3 (a:=z+1) om rfl HZB.o),HW2.o⟩
     case measure=>exact mz
    obtain rfl:k=s.an:=om;have hki:¬(s.an:Int)<(s.an:Int):=om;obtain ⟨q0,q1,q2,q3,q4,q5,q6,q7,q8,q9,q10,q11⟩:=(HPB.o.below HW.o).cells;obtain ⟨T3,hT3⟩:=nm (T2+sa);have hr:T2+sumL actN (p.acts.take s.an)=T3:=by rw[hT3,HSA.o,sumL_full (by have:=HN.o.2.2.1;omega)]
    rw[hr];have HT3:=hD hT3;have HWA:=HW;clear hr hT3 hk;go_wp2_with fail;clear hlt hki q0 q1 q2 q3 q4 q5 q6 q7 q8 q9 q10 q11;go_loopw [3,9,10] (fun z u u10 wr=>∃k:Nat,k<=s.tn/\u= .int .i64 k/\z= .int .i64 (T3+sumL tabN (p.tabs.take k):Nat)/\Hd (Bl W0 wr)) (fun _ u _ _=>s.tn-(intOf u).toNat)
    case atStart=>exact ⟨0,zl,rfl,by rw[sumL_zero,Nat.add_zero],HWA.o⟩
    case round=>
     clear HWA HW;obtain ⟨k,hk,rfl,rfl,HW⟩:=hrel;by_cases hlt:k<s.tn
     ·have hki:(k:Int)<(s.tn:Int):=om;have hb6:s.tn<=1048576:=by have:=HL.o.tabs;have:=HN.o.2.2.2;omega
      obtain ⟨x,hx⟩:∃x,p.tabs[k]?=some x:=⟨_,gE_ (by have:=HN.o.2.2.2;omega)⟩;have hxm:=gM_ hx;obtain ⟨sb,so,hps,hsb,⟨kp,kn,kc,y1,hy1⟩,-,⟨tp,tn,tc,y0,hy0⟩,-,⟨bp,bn,bc,y2,hy2⟩⟩:=HP.o.tabs.get hx;obtain ⟨z,hz⟩:=nm (T3+sumL tabN (p.tabs.take k));obtain ⟨zk,hzk⟩:=nm (codesN x.keys);have HZ:Hd (z+1+tn+bn+zk=T3+sumL tabN (p.tabs.take (k+1))):=by show _=_;rw[hz,sumL_take hx,hy0.ln.1,hy2.ln.1,hzk];unfold tabN;omega
      have HZB:Hd (z+1+tn+bn+zk<=5000000000000000000):=by
       show _<=_;rw[HZ.o,HT3.o,HT2.o,HT1.o,HT0.o];have h1:=HR.o;have h2:=sumL_takele (f:=tabN) (l:=p.tabs) (k:=k+1);have h3:=HST.o;have h4:=HRB.o;omega
      have HZK:=hD hzk;have HLK:Hd (kn=x.keys.length/\kn<=1048576):=⟨hy1.ln.1,by have:=hy1.ln.1;have:=HL.o.tkeys x hxm;omega⟩;have HKR:=hD hy1;rw[<- hz];have HCE:Hd (∀ W,Bl W0 W->Cl W w.heap.size 4 (.slice (some ⟨sb,so,none⟩) s.tn s.tc)/\Cl W sb (so+k*5+2) (.slice tp tn tc)/\Cl W sb (so+k*5) (.slice kp kn kc)/\Cl W sb (so+k*5+4) (.slice bp bn bc)):=fun W h=>by
       obtain ⟨-,-,-,-,q2,-⟩:=(HPB.o.below h).cells;rw[hps] at q2;have hb:=HB0.o.trans (h.mono HB0.o.size);exact ⟨q2,(hb.cell (p:=⟨sb,so+k*5+2,none⟩) hsb).trans y0,(hb.cell (p:=⟨sb,so+k*5,none⟩) hsb).trans y1,(hb.cell (p:=⟨sb,so+k*5+4,none⟩) hsb).trans y2⟩
      clear hx hxm hps hsb y0 y1 y2 hy0 hy1 hy2 hz hzk;obtain ⟨q2,q3,q4,q5⟩:=HCE.o wr HW.o;go_upto_region 25 with fail;go_quiet (fail);have hS:Bl wr (wr.drewN nq):=below_drewN br _;generalize wr.drewN nq=w2 at*;clear q2 q3 q4 q5;have HW2:=hD (HW.o.trans (hS.mono HW.o.size));clear hS;obtain ⟨z1,hz1⟩:=nm (z+1+tn+bn);have hw9:wrap64 (wrap64 (wrap64 ((z:Int)+1)+(tn:Int))+(bn:Int))=(z1:Int):=by
       have h1:=HZB.o;rw[wrap3 (a:=z+1) (n:=z+1+tn+bn) om rfl om,hz1]
      rw[hw9];rw[<- hz1] at HZ HZB;clear hw9 hz1;obtain ⟨q2,q3,q4,q5⟩:=HCE.o w2 HW2.o;go_wp2_with fail;go_loopw [3,10] (fun zz u wq=>∃j:Nat,j<=kn/\u= .int .i64 j/\zz= .int .i64 (z1+sumL (fun c=>1+c.length) (x.keys.take j):Nat)/\Hd (Bl W0 wq)) (fun _ u _=>kn-(intOf u).toNat)
      case atStart=>exact ⟨0,zl,rfl,by rw[sumL_zero,Nat.add_zero],HW2.o⟩
      case round=>
       clear q2 q3 q4 q5 HW2;obtain ⟨j,hj,rfl,rfl,HWQ⟩:=hrel;obtain ⟨q2,q3,q4,q5⟩:=HCE.o _ HWQ.o;by_cases hjl:j<kn
       ·exact gP
       obtain rfl:j=kn:=om;have hjli:¬(j:Int)<(j:Int):=om;have hr:z1+sumL (fun c=>1+c.length) (x.keys.take j)=T3+sumL tabN (p.tabs.take (k+1)):=by rw[<- HZ.o,HZK.o,sumL_full (by have:=HLK.o.1;omega)];rfl
       exact gK4
     obtain rfl:k=s.tn:=om;have hki:¬(s.tn:Int)<(s.tn:Int):=om;obtain ⟨q0,q1,q2,q3,q4,q5,q6,q7,q8,q9,q10,q11⟩:=(HPB.o.below HW.o).cells;have hr:T3+sumL tabN (p.tabs.take s.tn)=R:=by rw[sumL_full (by have:=HN.o.2.2.2;omega),HR.o, <-HST.o,HT3.o,HT2.o,HT1.o,HT0.o]
     rw[hr];have hbw:=HB0.o.trans (HW.o.mono HB0.o.size);clear hr;have hG:decide ((6000:Int)<(R:Int))=G:=by rw[HGR.o];exact decide_eq_decide.2 om
     go_wp2_with fail;go_ret;exact ⟨by first|rfl|(rw[<- hG])|(rw[<- hG];rfl),hbw⟩
open Go.RowKit
structure GrwG (W W':World) (v v':Value):Prop where
 grown:W.grownBy W' v.ownBlock
 lies:v'.ownBlock=v.ownBlock\/v'.ownBlock=some W.heap.size
theorem append_at {S E:TypeId} {z:Value} {bytes:Nat} (H:ElemOk S E z size bytes) {ops:Array Oper} {rest:List Oper} {o:Oper} {a:Act} {Q:Exit->Act->World->Prop} (hgd:o.guard=none) (s x:Operand)
 (ho:o.op= .call { callee:= .builtin .append,args:=#[s,x],argTypes:=#[S,S] })
 (base:Nat) (v:Value) (n:Nat) (xs:List Value) (hs:a.eval s=v) (hown:w.ownsRow base E size v n xs)
 (vx:Value) (m:Nat) (news:List Value) (hx:a.eval x=vx) (hsrc:SrcAt w size vx m news) (hl:(n+m)*bytes<=140737488355328) (hm:n+m<=maxLen) (hbase:base<=w.heap.size)
 (h:∀v' w',w'.ownsRow base E size v' (n+m) (xs++news)->GrwG w w' v v'->wpList Tryz.prog ops Q rest (a.put o.dst v') w'):wpList Tryz.prog ops Q (o::rest) a w:=by
 obtain ⟨i0,hi,hz0,hz1,hz2⟩:=info_parts H.inf;obtain ⟨h1,h2,⟨rfl,rfl⟩|⟨ad,c,rfl,h3⟩⟩:=hsrc
 ·obtain rfl:news=[]:=List.eq_nil_of_length_eq_zero om;refine wpList_append_own_none hgd s x _ ho base E i0 size H.und hi v n xs hs hown hx ?_;exact h v w (by simpa using hown) ⟨grownBy_same _ _, .inl rfl⟩
 exact wpList_append_own_at _ hgd s x _ ho base E i0 z size bytes H.und hi hz0 hz1 hz2 H.zs H.sz v n xs hs hown ad m c news hx h1 h3 h2 hm hl hbase fun v' w' q1 q2 _ q3=>h v' w' q1 ⟨q2,q3⟩
theorem flatB:Flat 1 BAt (fun b=>[Value.bool b]) where
 len:=fun _=>rfl
 one:=fun x u hu=>by simp at hu;subst hu;rfl
 put:=fun w b o x h=>h 0 _ rfl
 get:=fun w b o x h i v hi=>by
  match i,hi with
  |0,hi=>cases hi;exact h
theorem elemB:ElemOk 41 4 (.bool false) 1 1:=⟨Tryz.underlying41,by kernel_rfl,rfl,by decide⟩
theorem elemNs:ElemOk 42 43 (.slice none 0 0) 1 24:=⟨Tryz.underlying42,by kernel_rfl,rfl,by decide⟩
theorem flat_bools:∀l:List Bool,l.flatMap (fun n=>[Value.bool n])=l.map Value.bool
 |[]=>rfl
 |a::l=>by rw[List.flatMap_cons,flat_bools l];rfl
theorem flat_u8:∀l:List Int,l.flatMap (fun n=>[Value.int .u8 n])=l.map (Value.int .u8)
 |[]=>rfl
 |a::l=>by rw[List.flatMap_cons,flat_u8 l];rfl
def Bx (w:World) (g:Nat) (c:List Value):Prop:=w.heap[g]?=some (.cells c.toArray 45 (0,0))
section
variable {w w':World} {g:Nat} {c:List Value}
theorem Bx.cell (h:Bx w g c) {i:Nat} {u:Value} (hi:c[i]?=some u):w.cell? ⟨g,i,none⟩=some u:=by
 unfold Bx at h;simp only[World.cell?,h];simpa using hi
theorem Bx.free (h:Bx w g c) (i:Nat):w.frozen? ⟨g,i,none⟩=false:=by unfold Bx at h;simp[World.frozen?,h]
theorem Bx.f9 (h:Bx w g c):w.frozen? ⟨g,0,none⟩=false/\w.frozen? ⟨g,1,none⟩=false/\w.frozen? ⟨g,2,none⟩=false/\w.frozen? ⟨g,3,none⟩=false/\w.frozen? ⟨g,4,none⟩=false/\w.frozen? ⟨g,5,none⟩=false/\w.frozen? ⟨g,6,none⟩=false/\w.frozen? ⟨g,7,none⟩=false/\w.frozen? ⟨g,8,none⟩=false:=⟨h.free 0,h.free 1,h.free 2,h.free 3,h.free 4,h.free 5,h.free 6,h.free 7,h.free 8⟩
theorem Bx.lt (h:Bx w g c):g<w.heap.size:=(gA_ h).1
theorem Bx.below (h:Bx w g c) (hb:Bl w w'):Bx w' g c:=(hb.block g h.lt).trans h
theorem Bx.put (h:Bx w g c) (i:Nat) (v:Value):Bx (w.setCell ⟨g,i,none⟩ v) g (c.set i v):=by
 unfold Bx at*;rw[heap_setCell_same w g i _ _ v h];simp
end
structure OwnRows (base s1 s2 t0:Nat) (w:World) (x:Pkt) (n:Nat) (r v m f:Value) (fs:List Value):Prop where
 hr:w.ownsRow base 5 1 r x.rest.length (x.rest.map (Value.int .u8))
 hrl:∀k,r.ownBlock=some k->k<s1
 hv:w.ownsRow s1 4 1 v x.valid.length (x.valid.map Value.bool)
 hvl:∀k,v.ownBlock=some k->k<s2
 hm:NOwn s2 w m x.metas
 hml:∀k,m.ownBlock=some k->k<t0
 hf:w.ownsRow t0 43 1 f n fs
 hfs:∀(i:Nat) (u:Value) (l:List Nat),fs[i]?=some u->x.fields[i]?=some l->NOwn t0 w u l
 fd:∀u∈fs,∀k,u.ownBlock=some k->f.ownBlock≠some k
 fp:fs.Pairwise fun a b=>∀k,a.ownBlock=some k->b.ownBlock≠some k
 hn:n<=x.fields.length
 l1:base<=s1
 l2:s1<=s2
 l3:s2<=t0
theorem own_base {b' E n:Nat} {v:Value} {xs:List Value} (h:w.ownsRow b E size v n xs) (hb:b'<=b):w.ownsRow b' E size v n xs:=by
 obtain ⟨h1,h2⟩:=h;refine ⟨h1,?_⟩;rcases h2 with h2|⟨g,cap,cur,h3,h4,h5⟩
 ·exact .inl h2
 exact .inr ⟨g,cap,cur,h3,om,h5⟩
section
variable {base s1 s2 t0 n:Nat} {w w':World} {x:Pkt} {r v f m:Value} {fs:List Value}
theorem OwnRows.flen (h:OwnRows base s1 s2 t0 w x n r v m f fs):fs.length=n:=by have:=h.hf.1;omega
theorem OwnRows.fblk (h:OwnRows base s1 s2 t0 w x n r v m f fs):∀z∈fs,∀k,z.ownBlock=some k->t0<=k/\k<w.heap.size:=by
 intro z hz k hk;obtain ⟨i,hi⟩:=List.getElem?_of_mem hz;have hl:=(gL_ hi).1;exact own_size (h.hfs i z _ hi (gE_ (by have:=h.flen;have:=h.hn;omega))).1 hk
theorem OwnRows.nodup (h:OwnRows base s1 s2 t0 w x n r v m f fs):(([r,v,f,m]++fs).filterMap Value.ownBlock).Nodup:=by
 have q1:=h.l1;have q2:=h.l2;have q3:=h.l3;rw[List.Nodup,List.pairwise_filterMap];have vb:∀k,v.ownBlock=some k->s1<=k:=fun k hk=>(own_size h.hv hk).1
 have mb:∀k,m.ownBlock=some k->s2<=k:=fun k hk=>(own_size h.hm.1 hk).1
 have fb:∀k,f.ownBlock=some k->t0<=k:=fun k hk=>(own_size h.hf hk).1
 have ub:∀u∈fs,∀k,u.ownBlock=some k->t0<=k:=fun u hu k hk=>(h.fblk u hu k hk).1
 have rl:=h.hrl;have vl:=h.hvl;have ml:=h.hml;simp only[List.cons_append,List.nil_append,List.pairwise_cons,List.mem_cons];refine ⟨fun b hb k hk j hj=>?_,fun b hb k hk j hj=>?_,fun b hb k hk j hj=>?_,fun b hb k hk j hj=>?_,h.fp.imp fun {a b} hab k hk j hj e=>hab k hk (by rw[e];exact hj)⟩
 ·have:=rl k hk;rcases hb with rfl|rfl|rfl|hb
  ·have:=vb j hj;omega
  ·have:=fb j hj;omega
  ·have:=mb j hj;omega
  have:=ub b hb j hj;omega
 ·have:=vl k hk;rcases hb with rfl|rfl|hb
  ·have:=fb j hj;omega
  ·have:=mb j hj;omega
  have:=ub b hb j hj;omega
 ·have:=fb k hk;rcases hb with rfl|hb
  ·have:=ml j hj;omega
  exact fun e=>h.fd b hb j hj (by rw[<- e];exact hk)
 have:=ml k hk;have:=ub b hb j hj;omega
end
structure PktO (base:Nat) (w:World) (x:Pkt) (r v f m:Value) (fs:List Value):Prop where
 hr:w.ownsRow base 5 1 r x.rest.length (x.rest.map (Value.int .u8))
 hv:w.ownsRow base 4 1 v x.valid.length (x.valid.map Value.bool)
 hf:w.ownsRow base 43 1 f x.fields.length fs
 hfs:∀(i:Nat) (u:Value) (l:List Nat),fs[i]?=some u->x.fields[i]?=some l->NOwn base w u l
 hm:NOwn base w m x.metas
 nd:(([r,v,f,m]++fs).filterMap Value.ownBlock).Nodup
section
variable {base:Nat} {w w':World} {x:Pkt} {r v f m:Value} {fs:List Value}
theorem PktO.flen (h:PktO base w x r v f m fs):fs.length=x.fields.length:=by have:=h.hf.1;omega
theorem PktO.blk (h:PktO base w x r v f m fs):∀z∈[r,v,f,m]++fs,∀k,z.ownBlock=some k->base<=k/\k<w.heap.size:=by
 intro z hz k hk;rcases List.mem_append.1 hz with hz|hz
 ·simp only[List.mem_cons,List.not_mem_nil,or_false] at hz;rcases hz with rfl|rfl|rfl|rfl
  ·exact own_size h.hr hk
  ·exact own_size h.hv hk
  ·exact own_size h.hf hk
  exact own_size h.hm.1 hk
 obtain ⟨i,hi⟩:=List.getElem?_of_mem hz;have hl:=(gL_ hi).1;exact own_size (h.hfs i z _ hi (gE_ (by have:=h.flen;omega))).1 hk
theorem PktO.far (h:PktO base w x r v f m fs) (hk:∀k,base<=k->k<w.heap.size->w'.heap[k]?=w.heap[k]?):PktO base w' x r v f m fs:=by
 refine ⟨own_far h.hr fun k e=>?_,own_far h.hv fun k e=>?_,own_far h.hf fun k e=>?_,fun i u l h1 h2=>(h.hfs i u l h1 h2).far fun k e=>?_,h.hm.far fun k e=>?_,h.nd⟩
 ·have:=own_size h.hr e;exact gC3
 ·have:=own_size h.hv e;exact gC3
 ·have:=own_size h.hf e;exact gC3
 ·have:=own_size (h.hfs i u l h1 h2).1 e;exact gC3
 have:=own_size h.hm.1 e;exact gC3
theorem PktO.below (h:PktO base w x r v f m fs) (hb:Bl w w'):PktO base w' x r v f m fs:=h.far fun k _ hk=>hb.block k hk
theorem PktO.lower (h:PktO base w x r v f m fs) (hb:b<=base):PktO b w x r v f m fs:=
 ⟨own_base h.hr hb,own_base h.hv hb,own_base h.hf hb,fun i u l h1 h2=>⟨own_base (h.hfs i u l h1 h2).1 hb,(h.hfs i u l h1 h2).2⟩,⟨own_base h.hm.1 hb,h.hm.2⟩,h.nd⟩
theorem PktO.boxed (h:PktO base w x r v f m fs) {X:Nat} (hX:w.heap[X]?=some (.cells (pktCells x r v f m).toArray 45 (0,0))) (hlo:base<=X) (hne:∀z∈[r,v,f,m]++fs,z.ownBlock≠some X):PktB base w X x r v f m fs:=
 ⟨hX,h.hr,h.hv,h.hf,h.hfs,h.hm,hlo,List.nodup_cons.2 ⟨fun hc=>by
  obtain ⟨z,hz,e⟩:=List.mem_filterMap.1 hc;exact hne z hz e,h.nd⟩⟩
theorem PktO.ks (h:PktO base w x r v f m fs):∃k:KS,r= .slice k.rp k.rn k.rc/\v= .slice k.vp k.vn k.vc/\f= .slice k.fp k.fn k.fc/\m= .slice k.mp k.mn k.mc/\KOk w k x:=by
 have h1:URow w r x.rest:=RowAt.of_flat flatU rfl (by rw[flat_u8];exact h.hr);have h2:BRow w v x.valid:=RowAt.of_flat flatB rfl (by rw[flat_bools];exact h.hv);have h4:NRow w m x.metas:=h.hm.row;have h3:NsRow w f x.fields:=by
  refine rowAt_of_owns (ls:=fs.map fun u=>[u]) rfl (by rw[List.length_map];exact h.flen) (by rw[show (fs.map fun u=>[u]).flatten=fs from by rw[<- List.flatMap_def];simp];exact h.hf) (fun c hc=>?_) fun j l c hl hc b o hb hcs=>?_
  ·obtain ⟨u,-,rfl⟩:=List.mem_map.1 hc;rfl
  rw[List.getElem?_map] at hc;cases hu:fs[j]? with
  |none=>rw[hu] at hc;cases hc
  |some u=>
   rw[hu] at hc;cases hc;have hr:=(h.hfs j u l hu hl).row;obtain ⟨pa,cap,rfl,-⟩:=hr.shape;exact ⟨pa,_,cap,hcs 0 _ rfl,hr⟩
 obtain ⟨rp,rc,rfl,-⟩:=h1.shape;obtain ⟨vp,vc,rfl,-⟩:=h2.shape;obtain ⟨fp,fc,rfl,-⟩:=h3.shape;obtain ⟨mp,mc,rfl,-⟩:=h4.shape;exact ⟨⟨rp,_,rc,vp,_,vc,fp,_,fc,mp,_,mc⟩,rfl,rfl,rfl,rfl,h1,h2,h3,h4⟩
end
theorem Bx.c3 (h:Bx w g (v0::v1::v2::r)):w.cell? ⟨g,0,none⟩=some v0/\w.cell? ⟨g,1,none⟩=some v1/\w.cell? ⟨g,2,none⟩=some v2:=⟨Bx.cell h rfl,Bx.cell h rfl,Bx.cell h rfl⟩
theorem Bx.c4 (h:Bx w g (v0::v1::v2::v3::r)):w.cell? ⟨g,0,none⟩=some v0/\w.cell? ⟨g,1,none⟩=some v1/\w.cell? ⟨g,2,none⟩=some v2/\w.cell? ⟨g,3,none⟩=some v3:=⟨Bx.cell h rfl,Bx.cell h rfl,Bx.cell h rfl,Bx.cell h rfl⟩
theorem Bx.c5 (h:Bx w g (v0::v1::v2::v3::v4::r)):w.cell? ⟨g,0,none⟩=some v0/\w.cell? ⟨g,1,none⟩=some v1/\w.cell? ⟨g,2,none⟩=some v2/\w.cell? ⟨g,3,none⟩=some v3/\w.cell? ⟨g,4,none⟩=some v4:=⟨Bx.cell h rfl,Bx.cell h rfl,Bx.cell h rfl,Bx.cell h rfl,Bx.cell h rfl⟩
theorem Bx.c6 (h:Bx w g (v0::v1::v2::v3::v4::v5::r)):w.cell? ⟨g,0,none⟩=some v0/\w.cell? ⟨g,1,none⟩=some v1/\w.cell? ⟨g,2,none⟩=some v2/\w.cell? ⟨g,3,none⟩=some v3/\w.cell? ⟨g,4,none⟩=some v4/\w.cell? ⟨g,5,none⟩=some v5:=⟨Bx.cell h rfl,Bx.cell h rfl,Bx.cell h rfl,Bx.cell h rfl,Bx.cell h rfl,Bx.cell h rfl⟩
theorem Bx.c7 (h:Bx w g (v0::v1::v2::v3::v4::v5::v6::r)):w.cell? ⟨g,0,none⟩=some v0/\w.cell? ⟨g,1,none⟩=some v1/\w.cell? ⟨g,2,none⟩=some v2/\w.cell? ⟨g,3,none⟩=some v3/\w.cell? ⟨g,4,none⟩=some v4/\w.cell? ⟨g,5,none⟩=some v5/\w.cell? ⟨g,6,none⟩=some v6:=⟨Bx.cell h rfl,Bx.cell h rfl,Bx.cell h rfl,Bx.cell h rfl,Bx.cell h rfl,Bx.cell h rfl,Bx.cell h rfl⟩
theorem Bx.c8 (h:Bx w g (v0::v1::v2::v3::v4::v5::v6::v7::r)):w.cell? ⟨g,0,none⟩=some v0/\w.cell? ⟨g,1,none⟩=some v1/\w.cell? ⟨g,2,none⟩=some v2/\w.cell? ⟨g,3,none⟩=some v3/\w.cell? ⟨g,4,none⟩=some v4/\w.cell? ⟨g,5,none⟩=some v5/\w.cell? ⟨g,6,none⟩=some v6/\w.cell? ⟨g,7,none⟩=some v7:=⟨Bx.cell h rfl,Bx.cell h rfl,Bx.cell h rfl,Bx.cell h rfl,Bx.cell h rfl,Bx.cell h rfl,Bx.cell h rfl,Bx.cell h rfl⟩
theorem Bx.c9 {v8:Value} (h:Bx w g (v0::v1::v2::v3::v4::v5::v6::v7::v8::r)):w.cell? ⟨g,0,none⟩=some v0/\w.cell? ⟨g,1,none⟩=some v1/\w.cell? ⟨g,2,none⟩=some v2/\w.cell? ⟨g,3,none⟩=some v3/\w.cell? ⟨g,4,none⟩=some v4/\w.cell? ⟨g,5,none⟩=some v5/\w.cell? ⟨g,6,none⟩=some v6/\w.cell? ⟨g,7,none⟩=some v7/\w.cell? ⟨g,8,none⟩=some v8:=⟨Bx.cell h rfl,Bx.cell h rfl,Bx.cell h rfl,Bx.cell h rfl,Bx.cell h rfl,Bx.cell h rfl,Bx.cell h rfl,Bx.cell h rfl,Bx.cell h rfl⟩
end Go.Proofs.YtikilcbpogfgkaaGreat
