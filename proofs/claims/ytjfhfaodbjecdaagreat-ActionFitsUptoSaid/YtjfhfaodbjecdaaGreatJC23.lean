/-
  Lemmas, joined: GrtA, LawA.
-/
import Derived.Test.YtjfhfaodbjecdaaGreatJC22
import Derived.Test.YtjfhfaodbjecdaaGreatJC04
import Derived.BigQuiet
import Derived.Deep.RegionLaw
import Derived.IntWalk
import Derived.Test.YtjfhfaodbjecdaaGreatJC16
set_option maxHeartbeats 12800000
set_option maxRecDepth 100000
namespace Go.Proofs.YtjfhfaodbjecdaaGreat
open Go.RowKit
theorem weigh10_any (l:List Ist) (p:Option Addr) (n c:Nat) (w:World) (h:IstRow w (.slice p n c) l) (hn:l.length<=1048576) (he:∀i∈l,i.e.length<=1048576):
 Calls Tryz.prog 56 #[.slice p n c] w fun e w'=>e= .returned (.int .i64 (weighN l:Nat))/\w'=w:=by
 obtain ⟨hl1,-,-,-⟩:=h.ln;subst hl1;obtain ⟨R,hR⟩:∃R,R=weighN l:=⟨_,rfl⟩;rw[<- hR];have HR:=hD hR;have HV:=hD h;have HB:=hD (weigh_le hn he);clear h he hR;go_enter Tryz.func56,Tryz.ntmps56;go_wp2_with fail;go_loopw [3,4] (fun z i wr=>∃k:Nat,k<=l.length/\i= .int .i64 k/\z= .int .i64 (l.length+sumL (fun i=>i.e.length) (l.take k):Nat)/\wr=w) (fun _ i _=>l.length-(intOf i).toNat)
 case atStart=>exact ⟨0,Nat.zero_le _,rfl,by rw[sumL_zero,Nat.add_zero],rfl⟩
 case round=>
  obtain ⟨k,hk,rfl,rfl,rfl⟩:=hrel;by_cases hlt:k<l.length
  ·have hki:(k:Int)<(l.length:Int):=by omega
   obtain ⟨x,hx⟩:∃x,l[k]?=some x:=⟨_,List.getElem?_eq_getElem hlt⟩;obtain ⟨b,o,rfl,hb,-,-,-,⟨ep,en,ec,y3,hy⟩,-⟩:=HV.out.get hx;obtain ⟨z,hz⟩:∃z,z=l.length+sumL (fun i=>i.e.length) (l.take k):=⟨_,rfl⟩;have HZ:Hid (z+en=l.length+sumL (fun i=>i.e.length) (l.take (k+1))):=by show _=_;rw[hz,sumL_take hx,hy.ln.1];omega
   have HZB:Hid (z+en<=5000000000000000000):=by
    show _<=_;rw[HZ.out];have h1:=HB.out;have h2:=sumL_takele (f:=fun i:Ist=>i.e.length) (l:=l) (k:=k+1);unfold weighN at h1;omega
   rw[<- hz];clear hz hx hy;go_wp2_with fail;go_roundw
   case rel=>exact ⟨k+1,by omega,by go_num,by rw[<- HZ.out];exact congrArg _ (wrapL (by omega) HZB.out),by trivial⟩
   case measure=>simp[intOf];omega
  ·obtain rfl:k=l.length:=by omega
   have hki:¬((l.length:Nat):Int)<(l.length:Int):=by omega
   have hr:l.length+sumL (fun i=>i.e.length) (l.take l.length)=R:=by rw[HR.out,sumL_full (Nat.le_refl _)];rfl
   rw[hr];go_wp2_with fail;go_ret;exact ⟨rfl,rfl⟩
theorem IsRow.elG {w:World} {p:Option Addr} {n c:Nat} {l:List (List Int)} (h:IsRow w (.slice p n c) l) {j:Nat} {x:List Int} (hj:l[j]?=some x):∃b o p1 n1 c1,p=some ⟨b,o,none⟩/\b<w.heap.size/\w.cell? ⟨b,o+j,none⟩=some (.slice p1 n1 c1)/\IRow w (.slice p1 n1 c1) x:=by
 obtain ⟨b,o,e,h1,p1,n1,c1,h2,h3⟩:=h.get hj;rw[Nat.mul_one] at h2;exact ⟨b,o,p1,n1,c1,e,h1,h2,h3⟩
theorem CsRow.elG {w:World} {p:Option Addr} {n c:Nat} {l:List (List Nod)} (h:CsRow w (.slice p n c) l) {j:Nat} {x:List Nod} (hj:l[j]?=some x):∃b o p1 n1 c1,p=some ⟨b,o,none⟩/\b<w.heap.size/\w.cell? ⟨b,o+j,none⟩=some (.slice p1 n1 c1)/\CRow w (.slice p1 n1 c1) x:=by
 obtain ⟨b,o,e,h1,p1,n1,c1,h2,h3⟩:=h.get hj;rw[Nat.mul_one] at h2;exact ⟨b,o,p1,n1,c1,e,h1,h2,h3⟩
theorem wrap2 {x:Int} {a b n:Nat} (h:x=(a:Int)) (h1:a+b=n) (h2:n<=5000000000000000000):wrap64 (wrap64 x+(b:Int))=(n:Int):=by
 rw[wrapL h (by omega)];exact wrapL (by omega) h2
theorem wrap3 {x:Int} {a b c n:Nat} (h:x=(a:Int)) (h1:a+b+c=n) (h2:n<=5000000000000000000):wrap64 (wrap64 (wrap64 x+(b:Int))+(c:Int))=(n:Int):=by
 rw[wrap2 h rfl (by omega)];exact wrapL (by omega) h2
theorem great10_any (s:PgS) (p:Prg) (w:World) (hp:PgOk w s p) (hL:Lm p):
 Calls Tryz.prog 30 #[pgV s] w fun e w'=>e= .returned (.bool (decide (6000<greatN p)))/\Below w.heap.size w w':=by
 obtain ⟨R,hR⟩:∃R,R=greatN p:=⟨_,rfl⟩;have hRB:=hL.great;rw[<- hR] at hRB⊢;obtain ⟨G,hG⟩:∃G,G=decide (6000<R):=⟨_,rfl⟩;rw[<- hG];have HGR:=hD hG;clear hG;have HRB:=hD hRB;obtain ⟨wc,hwc⟩:∃n,n=weighN p.ctl:=⟨_,rfl⟩;obtain ⟨sh,hsh⟩:∃n,n=sumL List.length p.heads:=⟨_,rfl⟩;obtain ⟨ss,hss⟩:∃n,n=sumL stepN p.steps:=⟨_,rfl⟩;obtain ⟨sa,hsa⟩:∃n,n=sumL actN p.acts:=⟨_,rfl⟩;obtain ⟨st,hst⟩:∃n,n=sumL tabN p.tabs:=⟨_,rfl⟩;have HR:Hid (R=s.hn+s.mn+s.en+wc+sh+ss+sa+st):=by show _=_;rw[hR,hp.heads.ln.1,hp.metas.ln.1,hp.emit.ln.1,hwc,hsh,hss,hsa,hst];rfl
 have HCW:Hid (∀ W,Below w.heap.size w W->Calls Tryz.prog 56 #[.slice s.cp s.cn s.cc] W fun e w'=>e= .returned (.int .i64 (wc:Nat))/\Below W.heap.size W w'):=fun W h=>by rw[hwc];refine Calls.mono (weigh10_any _ _ _ _ _ (hp.ctl.below keepIst h) hL.ctl hL.ccode) fun _ _ h=>⟨h.1,h.2 ▸ Below.refl _ _⟩
 have HSH:=hD hsh;have HSS:=hD hss;have HSA:=hD hsa;have HST:=hD hst;have HP:=hD hp;have HL:=hD hL;have HN:Hid (s.hn=p.heads.length/\s.sn=p.steps.length/\s.an=p.acts.length/\s.tn=p.tabs.length):=⟨hp.heads.ln.1,hp.steps.ln.1,hp.acts.ln.1,hp.tabs.ln.1⟩;clear hR hRB hwc hsh hss hsa hst hp hL;unfold pgV;go_enter Tryz.func30,Tryz.ntmps30;go_upto_region 1 with fail
 obtain ⟨W0,hW0⟩:∃W0,W0=w.alloc (.cells #[.slice s.hp s.hn s.hc, .slice s.mp s.mn s.mc, .slice s.sp s.sn s.sc, .slice s.ap s.an s.ac, .slice s.tp s.tn s.tc, .slice s.cp s.cn s.cc, .slice s.ep s.en s.ec, .slice s.v1 s.n1 s.c1, .slice s.v2 s.n2 s.c2, .slice s.v3 s.n3 s.c3, .slice s.v4 s.n4 s.c4, .slice s.v5 s.n5 s.c5] 33):=⟨_,rfl⟩;have HB0:Hid (Below w.heap.size w W0):=by show Below _ _ _;rw[hW0];exact (by repeat (first|exact Below.refl _ _|assumption|refine Below.drew ?_|refine blA ?_|refine blS ?_|refine blT ?_ (by assumption)))
 have HPB:Hid (PBox W0 w.heap.size s):=by show _=_;rw[hW0];exact heap_new _ _
 rw[<- hW0];clear hW0;have HCE:=hD (fun W (h:Below W0.heap.size W0 W)=>(HPB.out.below h).cells);have HC1:=hD (fun W (h:Below W0.heap.size W0 W)=>HCW.out W (HB0.out.trans (h.mono HB0.out.size)));refine roB W0 ?_;refine stq ?_ (fun aa ww ll hh=>?_) ?_;rotate_left
 ·have e1:=hh.oL 1;exact ov gX
 refine stq ?_ (fun aa ww ll hh=>?_) ?_;rotate_left
 ·have e11:=hh.gt 0 0;obtain ⟨q0,q1,q2,q3,q4,q5,q6,q7,q8,q9,q10,q11⟩:=HCE.out ww hh.inv;exact ov gX
 refine stq ?_ (fun aa ww ll hh=>?_) ?_;rotate_left
 ·have e12:=hh.gt 1 0;obtain ⟨q0,q1,q2,q3,q4,q5,q6,q7,q8,q9,q10,q11⟩:=HCE.out ww hh.inv;exact ov gX
 refine stq ?_ (fun aa ww ll hh=>?_) ?_;rotate_left
 ·have e1:=hh.oL 1;exact ov gX
 refine stq ?_ (fun aa ww ll hh=>?_) ?_;rotate_left
 ·have e14:=hh.gt 3 0;obtain ⟨q0,q1,q2,q3,q4,q5,q6,q7,q8,q9,q10,q11⟩:=HCE.out ww hh.inv;exact ov gX
 refine stq ?_ (fun aa ww ll hh=>?_) ?_;rotate_left
 ·have e15:=hh.gt 4 0;obtain ⟨q0,q1,q2,q3,q4,q5,q6,q7,q8,q9,q10,q11⟩:=HCE.out ww hh.inv;exact ov gX
 refine stq ?_ (fun aa ww ll hh=>?_) ?_;rotate_left
 ·have e13:=hh.gt 2 3;have e16:=hh.gt 5 0;exact ov gX
 refine stq ?_ (fun aa ww ll hh=>?_) ?_;rotate_left
 ·have e1:=hh.oL 1;exact ov gX
 refine stq ?_ (fun aa ww ll hh=>?_) ?_;rotate_left
 ·have e18:=hh.gt 7 0;obtain ⟨q0,q1,q2,q3,q4,q5,q6,q7,q8,q9,q10,q11⟩:=HCE.out ww hh.inv;exact ov gX
 refine stq ?_ (fun aa ww ll hh=>?_) ?_;rotate_left
 ·have e19:=hh.gt 8 0;obtain ⟨q0,q1,q2,q3,q4,q5,q6,q7,q8,q9,q10,q11⟩:=HCE.out ww hh.inv;exact ov gX
 refine stq ?_ (fun aa ww ll hh=>?_) ?_;rotate_left
 ·have e17:=hh.gt 6 3;have e20:=hh.gt 9 0;exact ov gX
 refine stq ?_ (fun aa ww ll hh=>?_) ?_;rotate_left
 ·have e1:=hh.oL 1;exact ov gX
 refine stq ?_ (fun aa ww ll hh=>?_) ?_;rotate_left
 ·have e22:=hh.gt 11 0;obtain ⟨q0,q1,q2,q3,q4,q5,q6,q7,q8,q9,q10,q11⟩:=HCE.out ww hh.inv;exact ov gX
 refine ⟨.eq (.int .i64 (wc:Nat)),trivial,rfl,fun aa ww ll hh=>?_,?_⟩
 ·have e23:=hh.gt 12 0;have ef:=evf aa;refine out_call_eq (wanted_none rfl) ?_ (HC1.out ww hh.inv);exact gX
 refine stq ?_ (fun aa ww ll hh=>?_) ?_;rotate_left
 ·have e21:=hh.gt 10 3;have e24:=hh.gt 13 0;exact ov gX
 refine stm 14 0 ?_;intro ll w2 hS hok;clear hok;simp only[List.reverse_cons,List.reverse_nil,List.nil_append,List.cons_append,layO,Out.val,Act.put,List.setIfInBounds_toArray,List.set_cons_zero,List.set_cons_succ];clear HC1 HCW HCE;have HB1:=hD hS;clear hS;obtain ⟨T0,hT0⟩:∃T0,T0=s.hn+s.mn+s.en+wc:=⟨_,rfl⟩;have ht0:IntKind.i64.wrap (IntKind.i64.wrap (IntKind.i64.wrap ((s.hn:Int)+(s.mn:Int))+(s.en:Int))+(wc:Int))=(T0:Int):=by
  rw[IntWalk.i64_left,IntWalk.i64_left,IntWalk.i64_left];change wrap64 (wrap64 (wrap64 ((s.hn:Int)+(s.mn:Int))+(s.en:Int))+(wc:Int))=(T0:Int);have h1:=HR.out;have h2:=HRB.out;rw[wrap3 (a:=s.hn+s.mn) (n:=s.hn+s.mn+s.en+wc) (by omega) rfl (by omega),hT0]
 rw[ht0];have HT0:=hD hT0;clear ht0 hT0;go_wp2_with fail;go_loopw [3,4] (fun z u wr=>∃k:Nat,k<=s.hn/\u= .int .i64 k/\z= .int .i64 (T0+sumL List.length (p.heads.take k):Nat)/\Hid (Below W0.heap.size W0 wr)) (fun _ u _=>s.hn-(intOf u).toNat)
 case atStart=>exact ⟨0,Nat.zero_le _,rfl,by rw[sumL_zero,Nat.add_zero],HB1.out⟩
 case round=>
  obtain ⟨k,hk,rfl,rfl,HW⟩:=hrel;obtain ⟨q0,q1,q2,q3,q4,q5,q6,q7,q8,q9,q10,q11⟩:=(HPB.out.below HW.out).cells;by_cases hlt:k<s.hn
  ·have hki:(k:Int)<(s.hn:Int):=by omega
   have hb6:s.hn<=1048576:=by have:=HL.out.heads;have:=HN.out.1;omega
   obtain ⟨x,hx⟩:∃x,p.heads[k]?=some x:=⟨_,List.getElem?_eq_getElem (by have:=HN.out.1;omega)⟩;obtain ⟨b,o,ep,en,ec,hps,hb,y0,hy⟩:=IsRow.elG (HP.out.heads.below keepIs (HB0.out.trans (HW.out.mono HB0.out.size))) hx;obtain ⟨z,hz⟩:∃z,z=T0+sumL List.length (p.heads.take k):=⟨_,rfl⟩;have HZ:Hid (z+en=T0+sumL List.length (p.heads.take (k+1))):=by show _=_;rw[hz,sumL_take hx,hy.ln.1];omega
   have HZB:Hid (z+en<=5000000000000000000):=by
    show _<=_;rw[HZ.out,HT0.out];have h1:=HR.out;have h2:=sumL_takele (f:=List.length) (l:=p.heads) (k:=k+1);have h3:=HSH.out;have h4:=HRB.out;omega
   rw[<- hz];rw[hps] at q0;clear hz hx hy hps;go_wp2_with fail;go_roundw
   case rel=>exact ⟨k+1,by omega,by go_num,by rw[<- HZ.out];exact congrArg _ (wrapL (by omega) HZB.out),HW.out⟩
   case measure=>simp[intOf];omega
  ·obtain rfl:k=s.hn:=by omega
   have hki:¬(s.hn:Int)<(s.hn:Int):=by omega
   obtain ⟨T1,hT1⟩:∃T1,T1=T0+sh:=⟨_,rfl⟩;have hr:T0+sumL List.length (p.heads.take s.hn)=T1:=by rw[hT1,HSH.out,sumL_full (by have:=HN.out.1;omega)]
   rw[hr];have HT1:=hD hT1;have HWA:=HW;clear hr hT1 hk;go_wp2_with fail;clear hlt hki q0 q1 q2 q3 q4 q5 q6 q7 q8 q9 q10 q11;go_loopw [3,5,6,7] (fun z u u6 u7 wr=>∃k:Nat,k<=s.sn/\u= .int .i64 k/\z= .int .i64 (T1+sumL stepN (p.steps.take k):Nat)/\Hid (Below W0.heap.size W0 wr)) (fun _ u _ _ _=>s.sn-(intOf u).toNat)
   case atStart=>exact ⟨0,Nat.zero_le _,rfl,by rw[sumL_zero,Nat.add_zero],HWA.out⟩
   case round=>
    clear HWA HW;obtain ⟨k,hk,rfl,rfl,HW⟩:=hrel;by_cases hlt:k<s.sn
    ·have hki:(k:Int)<(s.sn:Int):=by omega
     have hb6:s.sn<=1048576:=by have:=HL.out.steps;have:=HN.out.2.1;omega
     obtain ⟨x,hx⟩:∃x,p.steps[k]?=some x:=⟨_,List.getElem?_eq_getElem (by have:=HN.out.2.1;omega)⟩;have hxm:=List.mem_of_getElem? hx;obtain ⟨sb,so,hps,hsb,⟨tp,tn,tc,y0,hy0⟩,⟨kp,kn,kc,y1,hy1⟩,⟨bp,bn,bc,y2,hy2⟩,y3⟩:=HP.out.steps.get hx;obtain ⟨z,hz⟩:∃z,z=T1+sumL stepN (p.steps.take k):=⟨_,rfl⟩;obtain ⟨zk,hzk⟩:∃n,n=codesN x.keys:=⟨_,rfl⟩;obtain ⟨zp,hzp⟩:∃n,n=patsN x.brs:=⟨_,rfl⟩;have HZ:Hid (z+1+tn+bn+zk+zp=T1+sumL stepN (p.steps.take (k+1))):=by show _=_;rw[hz,sumL_take hx,hy0.ln.1,hy2.ln.1,hzk,hzp];unfold stepN;omega
     have HZB:Hid (z+1+tn+bn+zk+zp<=5000000000000000000):=by
      show _<=_;rw[HZ.out,HT1.out,HT0.out];have h1:=HR.out;have h2:=sumL_takele (f:=stepN) (l:=p.steps) (k:=k+1);have h3:=HSS.out;have h4:=HRB.out;omega
     have HZK:=hD hzk;have HZP:=hD hzp;have HLK:Hid (kn=x.keys.length/\bn=x.brs.length/\kn<=1048576/\bn<=1048576):=⟨hy1.ln.1,hy2.ln.1,by have:=hy1.ln.1;have:=HL.out.skeys x hxm;omega,by have:=hy2.ln.1;have:=HL.out.brs x hxm;omega⟩;have HKR:=hD hy1;have HBR:=hD hy2;rw[<- hz];have HCE:Hid (∀ W,Below W0.heap.size W0 W->W.cell? ⟨w.heap.size,2,none⟩=some (.slice (some ⟨sb,so,none⟩) s.sn s.sc)/\W.cell? ⟨sb,so+k*4,none⟩=some (.slice tp tn tc)/\W.cell? ⟨sb,so+k*4+1,none⟩=some (.slice kp kn kc)/\W.cell? ⟨sb,so+k*4+2,none⟩=some (.slice bp bn bc)):=fun W h=>by
      obtain ⟨-,-,q2,-⟩:=(HPB.out.below h).cells;rw[hps] at q2;have hb:=HB0.out.trans (h.mono HB0.out.size);exact ⟨q2,(hb.cell (p:=⟨sb,so+k*4,none⟩) hsb).trans y0,(hb.cell (p:=⟨sb,so+k*4+1,none⟩) hsb).trans y1,(hb.cell (p:=⟨sb,so+k*4+2,none⟩) hsb).trans y2⟩
     clear hx hxm hps hsb y0 y1 y2 y3 hy0 hy1 hy2 hz hzk hzp;obtain ⟨q2,q3,q4,q5⟩:=HCE.out wr HW.out;go_upto_region 9 with fail
     go_quiet (fail);have hS:Below wr.heap.size wr (wr.drewN nq):=below_drewN (Below.refl _ _) _;generalize wr.drewN nq=w2 at*;clear q2 q3 q4 q5;have HW2:Hid (Below W0.heap.size W0 w2):=HW.out.trans (hS.mono HW.out.size);clear hS;obtain ⟨z1,hz1⟩:∃z1,z1=z+1+tn+bn:=⟨_,rfl⟩;have hw9:wrap64 (wrap64 (wrap64 ((z:Int)+1)+(tn:Int))+(bn:Int))=(z1:Int):=by
      have h1:=HZB.out;rw[wrap3 (a:=z+1) (n:=z+1+tn+bn) (by omega) rfl (by omega),hz1]
     rw[hw9];rw[<- hz1] at HZ HZB;clear hw9 hz1;obtain ⟨q2,q3,q4,q5⟩:=HCE.out w2 HW2.out;go_wp2_with fail;go_loopw [3,6] (fun zz u wq=>∃j:Nat,j<=kn/\u= .int .i64 j/\zz= .int .i64 (z1+sumL (fun c=>1+c.length) (x.keys.take j):Nat)/\Hid (Below W0.heap.size W0 wq)) (fun _ u _=>kn-(intOf u).toNat)
     case atStart=>exact ⟨0,Nat.zero_le _,rfl,by rw[sumL_zero,Nat.add_zero],HW2.out⟩
     case round=>
      clear q2 q3 q4 q5 HW2;obtain ⟨j,hj,rfl,rfl,HWQ⟩:=hrel;obtain ⟨q2,q3,q4,q5⟩:=HCE.out _ HWQ.out;by_cases hjl:j<kn
      ·have hjli:(j:Int)<(kn:Int):=by omega
       have hk6:kn<=1048576:=by have:=HLK.out;omega
       obtain ⟨c,hc⟩:∃c,x.keys[j]?=some c:=⟨_,List.getElem?_eq_getElem (by have:=HLK.out.1;omega)⟩;obtain ⟨kb,ko,cp,cn,cc,hkp,hkb,y6,hy6⟩:=CsRow.elG (HKR.out.below keepCs (HB0.out.trans (HWQ.out.mono HB0.out.size))) hc;obtain ⟨zz,hzz⟩:∃zz,zz=z1+sumL (fun c=>1+c.length) (x.keys.take j):=⟨_,rfl⟩;have HY:Hid (zz+1+cn=z1+sumL (fun c=>1+c.length) (x.keys.take (j+1))):=by show _=_;rw[hzz,sumL_take hc,hy6.ln.1];omega
       have HYB:Hid (zz+1+cn<=5000000000000000000):=by
        show _<=_;rw[HY.out];have h1:=HZB.out;have h2:=sumL_takele (f:=fun c:List Nod=>1+c.length) (l:=x.keys) (k:=j+1);have h3:=HZK.out;unfold codesN at h3;omega
       rw[<- hzz];rw[hkp] at q4;clear hc hy6 hzz hkp;go_wp2_with fail;go_roundw
       case rel=>exact ⟨j+1,by omega,by go_num,by rw[<- HY.out];exact congrArg _ (wrap2 (a:=zz+1) (by omega) rfl HYB.out),HWQ.out⟩
       case measure=>simp[intOf];omega
      ·obtain rfl:j=kn:=by omega
       have hjli:¬(j:Int)<(j:Int):=by omega
       obtain ⟨z2,hz2⟩:∃z2,z2=z1+zk:=⟨_,rfl⟩;have hr:z1+sumL (fun c=>1+c.length) (x.keys.take j)=z2:=by rw[hz2,HZK.out,sumL_full (by have:=HLK.out.1;omega)];rfl
       rw[hr];rw[<- hz2] at HZ HZB;clear hr hz2;go_wp2_with fail;go_loopw [3,7] (fun zz u wq=>∃i:Nat,i<=bn/\u= .int .i64 i/\zz= .int .i64 (z2+sumL (fun b=>b.pats.length) (x.brs.take i):Nat)/\Hid (Below W0.heap.size W0 wq)) (fun _ u _=>bn-(intOf u).toNat)
       case atStart=>exact ⟨0,Nat.zero_le _,rfl,by rw[sumL_zero,Nat.add_zero],HWQ.out⟩
       case round=>
        clear q2 q3 q4 q5 HWQ hjli;obtain ⟨i,hi,rfl,rfl,HWQ⟩:=hrel;obtain ⟨q2,q3,q4,q5⟩:=HCE.out _ HWQ.out;by_cases hil:i<bn
        ·have hili:(i:Int)<(bn:Int):=by omega
         have hk6:bn<=1048576:=by have:=HLK.out;omega
         obtain ⟨c,hc⟩:∃c,x.brs[i]?=some c:=⟨_,List.getElem?_eq_getElem (by have:=HLK.out.2.1;omega)⟩;obtain ⟨bb,bo,hbp,hbb,⟨cp,cn,cc,y6,hy6⟩,-⟩:=(HBR.out.below keepBrn (HB0.out.trans (HWQ.out.mono HB0.out.size))).get hc;obtain ⟨zz,hzz⟩:∃zz,zz=z2+sumL (fun b=>b.pats.length) (x.brs.take i):=⟨_,rfl⟩;have HY:Hid (zz+cn=z2+sumL (fun b=>b.pats.length) (x.brs.take (i+1))):=by show _=_;rw[hzz,sumL_take hc,hy6.ln.1];omega
         have HYB:Hid (zz+cn<=5000000000000000000):=by
          show _<=_;rw[HY.out];have h1:=HZB.out;have h2:=sumL_takele (f:=fun b:Brn=>b.pats.length) (l:=x.brs) (k:=i+1);have h3:=HZP.out;unfold patsN at h3;omega
         rw[<- hzz];rw[hbp] at q5;clear hc hy6 hzz hbp;go_wp2_with fail;go_roundw
         case rel=>exact ⟨i+1,by omega,by go_num,by rw[<- HY.out];exact congrArg _ (wrapL (by omega) HYB.out),HWQ.out⟩
         case measure=>simp[intOf];omega
        ·obtain rfl:i=bn:=by omega
         have hili:¬(i:Int)<(i:Int):=by omega
         have hr:z2+sumL (fun b=>b.pats.length) (x.brs.take i)=T1+sumL stepN (p.steps.take (k+1)):=by
          rw[<- HZ.out,HZP.out,sumL_full (by have:=HLK.out.2.1;omega)];rfl
         rw[hr];clear hr;go_wp2_with fail;go_roundw
         case rel=>exact ⟨k+1,by omega,by go_num,rfl,HWQ.out⟩
         case measure=>simp[intOf];omega
    ·obtain rfl:k=s.sn:=by omega
     have hki:¬(s.sn:Int)<(s.sn:Int):=by omega
     obtain ⟨q0,q1,q2,q3,q4,q5,q6,q7,q8,q9,q10,q11⟩:=(HPB.out.below HW.out).cells;obtain ⟨T2,hT2⟩:∃T2,T2=T1+ss:=⟨_,rfl⟩;have hr:T1+sumL stepN (p.steps.take s.sn)=T2:=by rw[hT2,HSS.out,sumL_full (by have:=HN.out.2.1;omega)]
     rw[hr];have HT2:=hD hT2;have HWA:=HW;clear hr hT2 hk;go_wp2_with fail;clear hlt hki q0 q1 q2 q3 q4 q5 q6 q7 q8 q9 q10 q11;go_loopw [3,8] (fun z u wr=>∃k:Nat,k<=s.an/\u= .int .i64 k/\z= .int .i64 (T2+sumL actN (p.acts.take k):Nat)/\Hid (Below W0.heap.size W0 wr)) (fun _ u _=>s.an-(intOf u).toNat)
     case atStart=>exact ⟨0,Nat.zero_le _,rfl,by rw[sumL_zero,Nat.add_zero],HWA.out⟩
     case round=>
      clear HWA HW;obtain ⟨k,hk,rfl,rfl,HW⟩:=hrel;by_cases hlt:k<s.an
      ·have hki:(k:Int)<(s.an:Int):=by omega
       have hb6:s.an<=1048576:=by have:=HL.out.acts;have:=HN.out.2.2.1;omega
       obtain ⟨x,hx⟩:∃x,p.acts[k]?=some x:=⟨_,List.getElem?_eq_getElem (by have:=HN.out.2.2.1;omega)⟩;have hxm:=List.mem_of_getElem? hx;obtain ⟨sb,so,hps,hsb,⟨tp,tn,tc,y0,hy0⟩,⟨bp,bn,bc,y1,hy1⟩⟩:=HP.out.acts.get hx;obtain ⟨z,hz⟩:∃z,z=T2+sumL actN (p.acts.take k):=⟨_,rfl⟩;obtain ⟨zk,hzk⟩:∃n,n=weighN x.body:=⟨_,rfl⟩;have HZ:Hid (z+1+tn+zk=T2+sumL actN (p.acts.take (k+1))):=by show _=_;rw[hz,sumL_take hx,hy0.ln.1,hzk];unfold actN;omega
       have HZB:Hid (z+1+tn+zk<=5000000000000000000):=by
        show _<=_;rw[HZ.out,HT2.out,HT1.out,HT0.out];have h1:=HR.out;have h2:=sumL_takele (f:=actN) (l:=p.acts) (k:=k+1);have h3:=HSA.out;have h4:=HRB.out;omega
       have HCW2:Hid (∀ W,Below wr.heap.size wr W->Calls Tryz.prog 56 #[.slice bp bn bc] W fun e w'=>e= .returned (.int .i64 (zk:Nat))/\w'=W):=fun W h=>by
        rw[hzk];have hb:=HB0.out.trans (HW.out.mono HB0.out.size);exact weigh10_any _ _ _ _ _ ((hy1.below keepIst hb).below keepIst h) (HL.out.body x hxm) (HL.out.bcode x hxm)
       rw[<- hz];have HCE:Hid (∀ W,Below W0.heap.size W0 W->W.cell? ⟨w.heap.size,3,none⟩=some (.slice (some ⟨sb,so,none⟩) s.an s.ac)/\W.cell? ⟨sb,so+k*2,none⟩=some (.slice tp tn tc)/\W.cell? ⟨sb,so+k*2+1,none⟩=some (.slice bp bn bc)):=fun W h=>by
        obtain ⟨-,-,-,q2,-⟩:=(HPB.out.below h).cells;rw[hps] at q2;have hb:=HB0.out.trans (h.mono HB0.out.size);exact ⟨q2,(hb.cell (p:=⟨sb,so+k*2,none⟩) hsb).trans y0,(hb.cell (p:=⟨sb,so+k*2+1,none⟩) hsb).trans y1⟩
       clear hx hxm hps hsb y0 y1 hy0 hy1 hz hzk;obtain ⟨q2,q3,q4⟩:=HCE.out wr HW.out;go_upto_region 21 with fail
       go_quiet (first|(go_at_call 56;exact Calls.quiet_of_same ((HCW2.out _ (below_drewN (Below.refl _ _) _)).mono fun _ _ h=>⟨h.1,h.2⟩)));have hS:Below wr.heap.size wr (wr.drewN nq):=below_drewN (Below.refl _ _) _;generalize wr.drewN nq=w2 at*;clear q2 q3 q4 HCE;have HW2:Hid (Below W0.heap.size W0 w2):=HW.out.trans (hS.mono HW.out.size);clear hS;go_wp2_with fail;go_roundw
       case rel=>exact ⟨k+1,by omega,by go_num,by rw[<- HZ.out];exact congrArg _ (wrap3 (a:=z+1) (by omega) rfl HZB.out),HW2.out⟩
       case measure=>simp[intOf];omega
      ·obtain rfl:k=s.an:=by omega
       have hki:¬(s.an:Int)<(s.an:Int):=by omega
       obtain ⟨q0,q1,q2,q3,q4,q5,q6,q7,q8,q9,q10,q11⟩:=(HPB.out.below HW.out).cells;obtain ⟨T3,hT3⟩:∃T3,T3=T2+sa:=⟨_,rfl⟩;have hr:T2+sumL actN (p.acts.take s.an)=T3:=by rw[hT3,HSA.out,sumL_full (by have:=HN.out.2.2.1;omega)]
       rw[hr];have HT3:=hD hT3;have HWA:=HW;clear hr hT3 hk;go_wp2_with fail;clear hlt hki q0 q1 q2 q3 q4 q5 q6 q7 q8 q9 q10 q11;go_loopw [3,9,10] (fun z u u10 wr=>∃k:Nat,k<=s.tn/\u= .int .i64 k/\z= .int .i64 (T3+sumL tabN (p.tabs.take k):Nat)/\Hid (Below W0.heap.size W0 wr)) (fun _ u _ _=>s.tn-(intOf u).toNat)
       case atStart=>exact ⟨0,Nat.zero_le _,rfl,by rw[sumL_zero,Nat.add_zero],HWA.out⟩
       case round=>
        clear HWA HW;obtain ⟨k,hk,rfl,rfl,HW⟩:=hrel;by_cases hlt:k<s.tn
        ·have hki:(k:Int)<(s.tn:Int):=by omega
         have hb6:s.tn<=1048576:=by have:=HL.out.tabs;have:=HN.out.2.2.2;omega
         obtain ⟨x,hx⟩:∃x,p.tabs[k]?=some x:=⟨_,List.getElem?_eq_getElem (by have:=HN.out.2.2.2;omega)⟩;have hxm:=List.mem_of_getElem? hx;obtain ⟨sb,so,hps,hsb,⟨kp,kn,kc,y1,hy1⟩,-,⟨tp,tn,tc,y0,hy0⟩,-,⟨bp,bn,bc,y2,hy2⟩⟩:=HP.out.tabs.get hx;obtain ⟨z,hz⟩:∃z,z=T3+sumL tabN (p.tabs.take k):=⟨_,rfl⟩;obtain ⟨zk,hzk⟩:∃n,n=codesN x.keys:=⟨_,rfl⟩;have HZ:Hid (z+1+tn+bn+zk=T3+sumL tabN (p.tabs.take (k+1))):=by show _=_;rw[hz,sumL_take hx,hy0.ln.1,hy2.ln.1,hzk];unfold tabN;omega
         have HZB:Hid (z+1+tn+bn+zk<=5000000000000000000):=by
          show _<=_;rw[HZ.out,HT3.out,HT2.out,HT1.out,HT0.out];have h1:=HR.out;have h2:=sumL_takele (f:=tabN) (l:=p.tabs) (k:=k+1);have h3:=HST.out;have h4:=HRB.out;omega
         have HZK:=hD hzk;have HLK:Hid (kn=x.keys.length/\kn<=1048576):=⟨hy1.ln.1,by have:=hy1.ln.1;have:=HL.out.tkeys x hxm;omega⟩;have HKR:=hD hy1;rw[<- hz];have HCE:Hid (∀ W,Below W0.heap.size W0 W->W.cell? ⟨w.heap.size,4,none⟩=some (.slice (some ⟨sb,so,none⟩) s.tn s.tc)/\W.cell? ⟨sb,so+k*5+2,none⟩=some (.slice tp tn tc)/\W.cell? ⟨sb,so+k*5,none⟩=some (.slice kp kn kc)/\W.cell? ⟨sb,so+k*5+4,none⟩=some (.slice bp bn bc)):=fun W h=>by
          obtain ⟨-,-,-,-,q2,-⟩:=(HPB.out.below h).cells;rw[hps] at q2;have hb:=HB0.out.trans (h.mono HB0.out.size);exact ⟨q2,(hb.cell (p:=⟨sb,so+k*5+2,none⟩) hsb).trans y0,(hb.cell (p:=⟨sb,so+k*5,none⟩) hsb).trans y1,(hb.cell (p:=⟨sb,so+k*5+4,none⟩) hsb).trans y2⟩
         clear hx hxm hps hsb y0 y1 y2 hy0 hy1 hy2 hz hzk;obtain ⟨q2,q3,q4,q5⟩:=HCE.out wr HW.out;go_upto_region 25 with fail
         go_quiet (fail);have hS:Below wr.heap.size wr (wr.drewN nq):=below_drewN (Below.refl _ _) _;generalize wr.drewN nq=w2 at*;clear q2 q3 q4 q5;have HW2:Hid (Below W0.heap.size W0 w2):=HW.out.trans (hS.mono HW.out.size);clear hS;obtain ⟨z1,hz1⟩:∃z1,z1=z+1+tn+bn:=⟨_,rfl⟩;have hw9:wrap64 (wrap64 (wrap64 ((z:Int)+1)+(tn:Int))+(bn:Int))=(z1:Int):=by
          have h1:=HZB.out;rw[wrap3 (a:=z+1) (n:=z+1+tn+bn) (by omega) rfl (by omega),hz1]
         rw[hw9];rw[<- hz1] at HZ HZB;clear hw9 hz1;obtain ⟨q2,q3,q4,q5⟩:=HCE.out w2 HW2.out;go_wp2_with fail;go_loopw [3,10] (fun zz u wq=>∃j:Nat,j<=kn/\u= .int .i64 j/\zz= .int .i64 (z1+sumL (fun c=>1+c.length) (x.keys.take j):Nat)/\Hid (Below W0.heap.size W0 wq)) (fun _ u _=>kn-(intOf u).toNat)
         case atStart=>exact ⟨0,Nat.zero_le _,rfl,by rw[sumL_zero,Nat.add_zero],HW2.out⟩
         case round=>
          clear q2 q3 q4 q5 HW2;obtain ⟨j,hj,rfl,rfl,HWQ⟩:=hrel;obtain ⟨q2,q3,q4,q5⟩:=HCE.out _ HWQ.out;by_cases hjl:j<kn
          ·have hjli:(j:Int)<(kn:Int):=by omega
           have hk6:kn<=1048576:=by have:=HLK.out;omega
           obtain ⟨c,hc⟩:∃c,x.keys[j]?=some c:=⟨_,List.getElem?_eq_getElem (by have:=HLK.out.1;omega)⟩;obtain ⟨kb,ko,cp,cn,cc,hkp,hkb,y6,hy6⟩:=CsRow.elG (HKR.out.below keepCs (HB0.out.trans (HWQ.out.mono HB0.out.size))) hc;obtain ⟨zz,hzz⟩:∃zz,zz=z1+sumL (fun c=>1+c.length) (x.keys.take j):=⟨_,rfl⟩;have HY:Hid (zz+1+cn=z1+sumL (fun c=>1+c.length) (x.keys.take (j+1))):=by show _=_;rw[hzz,sumL_take hc,hy6.ln.1];omega
           have HYB:Hid (zz+1+cn<=5000000000000000000):=by
            show _<=_;rw[HY.out];have h1:=HZB.out;have h2:=sumL_takele (f:=fun c:List Nod=>1+c.length) (l:=x.keys) (k:=j+1);have h3:=HZK.out;unfold codesN at h3;omega
           rw[<- hzz];rw[hkp] at q4;clear hc hy6 hzz hkp;go_wp2_with fail;go_roundw
           case rel=>exact ⟨j+1,by omega,by go_num,by rw[<- HY.out];exact congrArg _ (wrap2 (a:=zz+1) (by omega) rfl HYB.out),HWQ.out⟩
           case measure=>simp[intOf];omega
          ·obtain rfl:j=kn:=by omega
           have hjli:¬(j:Int)<(j:Int):=by omega
           have hr:z1+sumL (fun c=>1+c.length) (x.keys.take j)=T3+sumL tabN (p.tabs.take (k+1)):=by rw[<- HZ.out,HZK.out,sumL_full (by have:=HLK.out.1;omega)];rfl
           rw[hr];clear hr;go_wp2_with fail;go_roundw
           case rel=>exact ⟨k+1,by omega,by go_num,rfl,HWQ.out⟩
           case measure=>simp[intOf];omega
        ·obtain rfl:k=s.tn:=by omega
         have hki:¬(s.tn:Int)<(s.tn:Int):=by omega
         obtain ⟨q0,q1,q2,q3,q4,q5,q6,q7,q8,q9,q10,q11⟩:=(HPB.out.below HW.out).cells;have hr:T3+sumL tabN (p.tabs.take s.tn)=R:=by rw[sumL_full (by have:=HN.out.2.2.2;omega),HR.out, <-HST.out,HT3.out,HT2.out,HT1.out,HT0.out]
         rw[hr];have hbw:=HB0.out.trans (HW.out.mono HB0.out.size);clear hr;have hG:decide ((6000:Int)<(R:Int))=G:=by rw[HGR.out];exact decide_eq_decide.2 (by omega)
         go_wp2_with fail;go_ret;exact ⟨by first|rfl|(rw[<- hG])|(rw[<- hG];rfl),hbw⟩
open Go.RowKit
theorem great21_any (s:PgS) (p:Prg) (l:List Ent) (lp:Option Addr) (ln lc:Nat) (w:World) (hp:PgOk w s p) (hL:Lm p) (hl:ERow w (.slice lp ln lc) l):
 Calls Tryz.prog 14 #[pgV s, .slice lp ln lc] w fun e w'=>AnsB (fun b=>b=false->greatN p<=6000/\l.length<=40) e/\Below w.heap.size w w':=by
 obtain ⟨G,hG⟩:∃G,G=decide (6000<greatN p):=⟨_,rfl⟩;have HG:=hD hG;have HGR:Hid (∀ W,Below w.heap.size w W->Calls Tryz.prog 30 #[pgV s] W fun e w'=>e= .returned (.bool G)/\Below W.heap.size W w'):=fun W h=>by rw[hG];exact great10_any s p W (hp.below h) hL
 have HP:=hD hp;have HN:Hid (s.an=p.acts.length/\ln=l.length):=⟨hp.acts.ln.1,hl.ln.1⟩;have han:s.an<=1048576:=by have:=hp.acts.ln.1;have:=hL.acts;omega
 clear hp hL hl hG;unfold pgV at HGR⊢;go_enter Tryz.func14,Tryz.ntmps14;go_upto_region 1 with fail
 obtain ⟨W0,hW0⟩:∃W0,W0=w.alloc (.cells #[.slice s.hp s.hn s.hc, .slice s.mp s.mn s.mc, .slice s.sp s.sn s.sc, .slice s.ap s.an s.ac, .slice s.tp s.tn s.tc, .slice s.cp s.cn s.cc, .slice s.ep s.en s.ec, .slice s.v1 s.n1 s.c1, .slice s.v2 s.n2 s.c2, .slice s.v3 s.n3 s.c3, .slice s.v4 s.n4 s.c4, .slice s.v5 s.n5 s.c5] 33):=⟨_,rfl⟩;have HB0:Hid (Below w.heap.size w W0):=by show Below _ _ _;rw[hW0];exact (by repeat (first|exact Below.refl _ _|assumption|refine Below.drew ?_|refine blA ?_|refine blS ?_|refine blT ?_ (by assumption)))
 have HPB:Hid (PBox W0 w.heap.size s):=by show _=_;rw[hW0];exact heap_new _ _
 rw[<- hW0];clear hW0;obtain ⟨q0,q1,q2,q3,q4,q5,q6,q7,q8,q9,q10,q11⟩:=HPB.out.cells;go_wp2_with fail;clear q0 q1 q2 q3 q4 q5 q6 q7 q8 q9 q10 q11;go_loopw [5,7,14] (fun z u i wr=>∃(k:Nat) (n:Int),k<=s.an/\i= .int .i64 k/\z= .int .i64 n/\Hid (Below W0.heap.size W0 wr)) (fun _ _ i _=>s.an-(intOf i).toNat)
 case atStart=>exact ⟨0,_,Nat.zero_le _,rfl,rfl,Below.refl _ _⟩
 case round=>
  obtain ⟨k,n,hk,rfl,rfl,HW⟩:=hrel;by_cases hlt:k<s.an
  ·have hki:(k:Int)<(s.an:Int):=by omega
   have hbw:=HB0.out.trans (HW.out.mono HB0.out.size);obtain ⟨a,ha⟩:∃a,p.acts[k]?=some a:=⟨_,List.getElem?_eq_getElem (by have:=HN.out.1;omega)⟩;obtain ⟨b,o,hps,hb,⟨p1,n1,c1,y1,hy1⟩,⟨p2,n2,c2,y2,hy2⟩⟩:=(HP.out.acts.below keepActn hbw).get ha;have HB1:Hid (Below W0.heap.size W0 (wr.alloc (.cells #[.slice p1 n1 c1, .slice p2 n2 c2] 49))):=HW.out.alloc HW.out.size _;rw[hps];clear hbw ha hps hy1 hy2;go_wp2_with fail;go_roundw
   case rel=>exact ⟨k+1,_,by omega,by go_num,rfl,HB1.out⟩
   case measure=>simp[intOf];omega
  ·obtain rfl:k=s.an:=by omega
   have hki:¬(s.an:Int)<(s.an:Int):=by omega
   obtain ⟨q0,q1,q2,q3,q4,q5,q6,q7,q8,q9,q10,q11⟩:=(HPB.out.below HW.out).cells;have HBW:=hD (HB0.out.trans (HW.out.mono HB0.out.size));have hcase:(G=true)\/(G=false/\(200<n\/(¬ 200<n/\40<(ln:Int))\/(¬ 200<n/\¬40<(ln:Int)))):=by
    cases G
    ·exact .inr ⟨rfl,by omega⟩
    ·exact .inl rfl
   rcases hcase with rfl|⟨rfl,g1|⟨g1,g2⟩|⟨g1,g2⟩⟩
   all_goals
    go_wp2_with (go_at_call 30;(with_reducible refine (HGR.out _ HBW.out).mono ?_);rintro e w1 ⟨rfl,hb1⟩;have HB1:=hD hb1;clear hb1);go_ret;exact ⟨⟨_,rfl,fun h=>by first|cases h|(have h1:=HG.out;have h2:=HN.out.2;exact ⟨Nat.le_of_not_lt (of_decide_eq_false h1.symm),by omega⟩)|(exfalso;simp at h;omega)⟩,HBW.out.trans (HB1.out.mono HBW.out.size)⟩
structure Seen (p:Prg) (l:List Ent) (x:Pkt) (po:Int):Prop where
 great:greatN p<=6000
 many:l.length<=40
 may:mayP p=true
 ents:∀y∈l,EntOk p y
 fits:pktP p x=true
 p0:0<=po
 p1:po<=511
 rest:x.rest.length<=400
theorem may21_any (s:PgS) (p:Prg) (l:List Ent) (lp:Option Addr) (ln lc:Nat) (q:KS) (x:Pkt) (po eg:Int) (dr se ac:Bool) (w:World) (hp:PgOk w s p) (hL:Lm p) (hl:ERow w (.slice lp ln lc) l) (hla:∀x∈l,x.args.length<=1000000) (hq:KOk w q x):
 Calls Tryz.prog 5 #[pgV s, .slice lp ln lc,kV q po dr se eg ac] w fun e w'=>AnsB (fun b=>b=true->Seen p l x po) e/\Below w.heap.size w w':=by
 have HGR:=hD (fun W (h:Below w.heap.size w W)=>great21_any s p l lp ln lc W (hp.below h) hL (hl.below keepE h));have HM19:=hD (fun W (h:Below w.heap.size w W) (hg:greatN p<=6000)=>may19_any s p W (hp.below h) (Sm.of hg));obtain ⟨rm,hrm⟩:∃r,r=mayP p:=⟨_,rfl⟩;have HM10:Hid (∀ W,Below w.heap.size w W->greatN p<=6000->Calls Tryz.prog 16 #[pgV s] W fun e w'=>e= .returned (.bool rm)/\Below W.heap.size W w'):=fun W h hg=>by rw[hrm];exact may10_any s p W (hp.below h) (Sm.of hg)
 have HM12:=hD (fun W (h:Below w.heap.size w W) (hg:greatN p<=6000) (hm:mayP p=true)=>may12_any s p l lp ln lc W (hp.below h) (Sm.of hg) hm (hl.below keepE h) hla);obtain ⟨rf,hrf⟩:∃r,r=pktP p x:=⟨_,rfl⟩;have HFI:Hid (∀ W,Below w.heap.size w W->greatN p<=6000->Calls Tryz.prog 13 #[pgV s,kV q po dr se eg ac] W fun e w'=>e= .returned (.bool rf)/\Below W.heap.size W w'):=fun W h hg=>by rw[hrf];exact fits19_any s p q x po eg dr se ac W (hp.below h) (Sm.of hg) (hq.below h)
 have HRM:=hD hrm;have HRF:=hD hrf;have HN:Hid (q.rn=x.rest.length):=hq.r.ln.1;clear hp hL hl hla hq hrm hrf;unfold pgV at HGR HM19 HM10 HM12 HFI⊢;unfold kV at HFI⊢;go_enter Tryz.func5,Tryz.ntmps5;go_upto_region 1 with fail
 obtain ⟨W0,hW0⟩:∃W0,W0=(w.alloc (.cells #[.slice s.hp s.hn s.hc, .slice s.mp s.mn s.mc, .slice s.sp s.sn s.sc, .slice s.ap s.an s.ac, .slice s.tp s.tn s.tc, .slice s.cp s.cn s.cc, .slice s.ep s.en s.ec, .slice s.v1 s.n1 s.c1, .slice s.v2 s.n2 s.c2, .slice s.v3 s.n3 s.c3, .slice s.v4 s.n4 s.c4, .slice s.v5 s.n5 s.c5] 33)).alloc (.cells #[.int .i64 po, .slice q.rp q.rn q.rc, .slice q.vp q.vn q.vc, .slice q.fp q.fn q.fc, .slice q.mp q.mn q.mc, .bool dr, .bool se, .int .i64 eg, .bool ac] 40):=⟨_,rfl⟩;have HB0:Hid (Below w.heap.size w W0):=by show Below _ _ _;rw[hW0];exact (by repeat (first|exact Below.refl _ _|assumption|refine Below.drew ?_|refine blA ?_|refine blS ?_|refine blT ?_ (by assumption)))
 have HPB:Hid (PBox W0 w.heap.size s):=by show _=_;rw[hW0,Below.heap_alloc _ _ _ (by simp)];exact heap_new _ _
 have HKB:Hid (KBox W0 (w.heap.size+1) q po dr se eg ac):=by
  show _=_;rw[hW0];have:=heap_new (w.alloc (.cells #[.slice s.hp s.hn s.hc, .slice s.mp s.mn s.mc, .slice s.sp s.sn s.sc, .slice s.ap s.an s.ac, .slice s.tp s.tn s.tc, .slice s.cp s.cn s.cc, .slice s.ep s.en s.ec, .slice s.v1 s.n1 s.c1, .slice s.v2 s.n2 s.c2, .slice s.v3 s.n3 s.c3, .slice s.v4 s.n4 s.c4, .slice s.v5 s.n5 s.c5] 33)) (.cells #[.int .i64 po, .slice q.rp q.rn q.rc, .slice q.vp q.vn q.vc, .slice q.fp q.fn q.fc, .slice q.mp q.mn q.mc, .bool dr, .bool se, .int .i64 eg, .bool ac] 40);simp only[World.size_alloc] at this;exact this
 rw[<- hW0];clear hW0;have HCE:Hid (∀ W,Below W0.heap.size W0 W->(W.cell? ⟨w.heap.size,0,none⟩=some (.slice s.hp s.hn s.hc)/\W.cell? ⟨w.heap.size,1,none⟩=some (.slice s.mp s.mn s.mc)/\W.cell? ⟨w.heap.size,2,none⟩=some (.slice s.sp s.sn s.sc)/\W.cell? ⟨w.heap.size,3,none⟩=some (.slice s.ap s.an s.ac)/\W.cell? ⟨w.heap.size,4,none⟩=some (.slice s.tp s.tn s.tc)/\W.cell? ⟨w.heap.size,5,none⟩=some (.slice s.cp s.cn s.cc)/\W.cell? ⟨w.heap.size,6,none⟩=some (.slice s.ep s.en s.ec)/\W.cell? ⟨w.heap.size,7,none⟩=some (.slice s.v1 s.n1 s.c1)/\W.cell? ⟨w.heap.size,8,none⟩=some (.slice s.v2 s.n2 s.c2)/\W.cell? ⟨w.heap.size,9,none⟩=some (.slice s.v3 s.n3 s.c3)/\W.cell? ⟨w.heap.size,10,none⟩=some (.slice s.v4 s.n4 s.c4)/\W.cell? ⟨w.heap.size,11,none⟩=some (.slice s.v5 s.n5 s.c5))/\(W.cell? ⟨w.heap.size+1,0,none⟩=some (.int .i64 po)/\W.cell? ⟨w.heap.size+1,1,none⟩=some (.slice q.rp q.rn q.rc)/\W.cell? ⟨w.heap.size+1,2,none⟩=some (.slice q.vp q.vn q.vc)/\W.cell? ⟨w.heap.size+1,3,none⟩=some (.slice q.fp q.fn q.fc)/\W.cell? ⟨w.heap.size+1,4,none⟩=some (.slice q.mp q.mn q.mc)/\W.cell? ⟨w.heap.size+1,5,none⟩=some (.bool dr)/\W.cell? ⟨w.heap.size+1,6,none⟩=some (.bool se)/\W.cell? ⟨w.heap.size+1,7,none⟩=some (.int .i64 eg)/\W.cell? ⟨w.heap.size+1,8,none⟩=some (.bool ac))):=fun W h=>⟨(HPB.out.below h).cells,(HKB.out.below h).cells⟩
 obtain ⟨⟨q0,q1,q2,q3,q4,q5,q6,q7,q8,q9,q10,q11⟩,k0,k1,k2,k3,k4,k5,k6,k7,k8⟩:=HCE.out W0 (Below.refl _ _);have HC0:Hid (Below W0.heap.size W0 W0):=Below.refl _ _;go_wp2_with (first
  |(go_at_call 14;(with_reducible refine (HGR.out _ HB0.out).mono ?_);rintro e w1 ⟨⟨b1,rfl,ha1⟩,hb1⟩;have HB1:=hD (HB0.out.trans (hb1.mono HB0.out.size));have HC1:=hD hb1;have HA1:=hD ha1;clear hb1 ha1;obtain ⟨⟨q0,q1,q2,q3,q4,q5,q6,q7,q8,q9,q10,q11⟩,k0,k1,k2,k3,k4,k5,k6,k7,k8⟩:=HCE.out w1 HC1.out;cases b1)
  |(go_at_call 15;(with_reducible refine (HM19.out _ HB1.out (HA1.out (by trivial)).1).mono ?_);rintro e w2 ⟨⟨b2,rfl,-⟩,hb2⟩;have HB2:=hD (HB1.out.trans (hb2.mono HB1.out.size));have HC2:=hD (HC1.out.trans (hb2.mono HC1.out.size));clear hb2;obtain ⟨⟨q0,q1,q2,q3,q4,q5,q6,q7,q8,q9,q10,q11⟩,k0,k1,k2,k3,k4,k5,k6,k7,k8⟩:=HCE.out w2 HC2.out;cases b2)
  |(go_at_call 16;(with_reducible refine (HM10.out _ HB2.out (HA1.out (by trivial)).1).mono ?_);rintro e w3 ⟨rfl,hb3⟩;have HB3:=hD (HB2.out.trans (hb3.mono HB2.out.size));have HC3:=hD (HC2.out.trans (hb3.mono HC2.out.size));clear hb3;obtain ⟨⟨q0,q1,q2,q3,q4,q5,q6,q7,q8,q9,q10,q11⟩,k0,k1,k2,k3,k4,k5,k6,k7,k8⟩:=HCE.out w3 HC3.out;cases rm)
  |(go_at_call 17;(with_reducible refine (HM12.out _ HB3.out (HA1.out (by trivial)).1 HRM.out.symm).mono ?_);rintro e w4 ⟨⟨b4,rfl,ha4⟩,hb4⟩;have HB4:=hD (HB3.out.trans (hb4.mono HB3.out.size));have HC4:=hD (HC3.out.trans (hb4.mono HC3.out.size));have HA4:=hD ha4;clear hb4 ha4;obtain ⟨⟨q0,q1,q2,q3,q4,q5,q6,q7,q8,q9,q10,q11⟩,k0,k1,k2,k3,k4,k5,k6,k7,k8⟩:=HCE.out w4 HC4.out;cases b4)
  |(go_at_call 13;(with_reducible refine (HFI.out _ HB4.out (HA1.out (by trivial)).1).mono ?_);rintro e w5 ⟨rfl,hb5⟩;have HB5:=hD (HB4.out.trans (hb5.mono HB4.out.size));have HC5:=hD (HC4.out.trans (hb5.mono HC4.out.size));clear hb5;obtain ⟨⟨q0,q1,q2,q3,q4,q5,q6,q7,q8,q9,q10,q11⟩,k0,k1,k2,k3,k4,k5,k6,k7,k8⟩:=HCE.out w5 HC5.out;cases rf))
 all_goals
  go_ret;refine ⟨⟨_,rfl,fun h=>?_⟩,by first|exact HB5.out|exact HB4.out|exact HB3.out|exact HB2.out|exact HB1.out⟩
  first
   |(cases h;done)
   |(simp only[Bool.and_eq_true,decide_eq_true_eq] at h;have:=HN.out;exact ⟨(HA1.out (by trivial)).1,(HA1.out (by trivial)).2,HRM.out.symm,HA4.out (by trivial),HRF.out.symm,by omega,by omega,by omega⟩)
   |trace_state
end Go.Proofs.YtjfhfaodbjecdaaGreat
