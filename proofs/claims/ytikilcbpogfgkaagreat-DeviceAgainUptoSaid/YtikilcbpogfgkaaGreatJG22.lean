/- Lemmas. -/
import Derived.Test.YtikilcbpogfgkaaGreatJG17
import Derived.Test.YtikilcbpogfgkaaGreatJG21
set_option maxHeartbeats 12800000
set_option maxRecDepth 100000
namespace Go.Proofs.YtikilcbpogfgkaaGreat
open Go.RowKit
variable {w:World} {k n c i:Nat} {x:Pkt}
structure KS where
 rp:Option Addr
 rn:Nat
 rc:Nat
 vp:Option Addr
 vn:Nat
 vc:Nat
 fp:Option Addr
 fn:Nat
 fc:Nat
 mp:Option Addr
 mn:Nat
 mc:Nat
@[simp] abbrev kA (k:KS) (po:Int) (dr se:Bool) (eg:Int) (ac:Bool):Array Value:=#[.int .i64 po, .slice k.rp k.rn k.rc, .slice k.vp k.vn k.vc, .slice k.fp k.fn k.fc, .slice k.mp k.mn k.mc, .bool dr, .bool se, .int .i64 eg, .bool ac]
@[simp] abbrev kL (k:KS) (po:Int) (dr se:Bool) (eg:Int) (ac:Bool):List Value:=[.int .i64 po, .slice k.rp k.rn k.rc, .slice k.vp k.vn k.vc, .slice k.fp k.fn k.fc, .slice k.mp k.mn k.mc, .bool dr, .bool se, .int .i64 eg, .bool ac]
def kV (k:KS) (po:Int) (dr se:Bool) (eg:Int) (ac:Bool):Value:= .agg #[.int .i64 po, .slice k.rp k.rn k.rc, .slice k.vp k.vn k.vc, .slice k.fp k.fn k.fc, .slice k.mp k.mn k.mc, .bool dr, .bool se, .int .i64 eg, .bool ac]
structure KOk (w:World) (k:KS) (x:Pkt):Prop where
 r:URow w (.slice k.rp k.rn k.rc) x.rest
 v:BRow w (.slice k.vp k.vn k.vc) x.valid
 f:NsRow w (.slice k.fp k.fn k.fc) x.fields
 m:NRow w (.slice k.mp k.mn k.mc) x.metas
theorem KOk.below {w':World} {k:KS} (h:KOk w k x) (hb:Bl w w'):KOk w' k x:=⟨h.r.below keepU hb,h.v.below keepB hb,h.f.below keepNs hb,h.m.below keepN hb⟩
def KBox (w:World) (g:Nat) (k:KS) (po:Int) (dr se:Bool) (eg:Int) (ac:Bool):Prop:=w.heap[g]?=some (.cells #[.int .i64 po, .slice k.rp k.rn k.rc, .slice k.vp k.vn k.vc, .slice k.fp k.fn k.fc, .slice k.mp k.mn k.mc, .bool dr, .bool se, .int .i64 eg, .bool ac] 45 (0,0))
section
variable {w w':World} {g:Nat} {k:KS} {po eg:Int} {dr se ac:Bool}
theorem KBox.cells (h:KBox w g k po dr se eg ac):w.cell? ⟨g,0,none⟩=some (.int .i64 po)/\w.cell? ⟨g,1,none⟩=some (.slice k.rp k.rn k.rc)/\w.cell? ⟨g,2,none⟩=some (.slice k.vp k.vn k.vc)/\w.cell? ⟨g,3,none⟩=some (.slice k.fp k.fn k.fc)/\w.cell? ⟨g,4,none⟩=some (.slice k.mp k.mn k.mc)/\w.cell? ⟨g,5,none⟩=some (.bool dr)/\w.cell? ⟨g,6,none⟩=some (.bool se)/\w.cell? ⟨g,7,none⟩=some (.int .i64 eg)/\w.cell? ⟨g,8,none⟩=some (.bool ac):=by
 unfold KBox at h;refine ⟨?_,?_,?_,?_,?_,?_,?_,?_,?_⟩<;>simp[World.cell?,h]
theorem KBox.below (h:KBox w g k po dr se eg ac) (hb:Bl w w'):KBox w' g k po dr se eg ac:=(hb.block g (gA_ h).1).trans h
end
theorem BRow.el {p:Option Addr} {l:List Bool} (h:BRow w (.slice p n c) l) {j:Nat} {x:Bool} (hj:l[j]?=some x):∃b o,p=some ⟨b,o,none⟩/\b<w.heap.size/\w.cell? ⟨b,o+j,none⟩=some (.bool x):=by
 obtain ⟨b,o,e,h1,h2⟩:=h.get hj;rw[Nat.mul_one] at h2;exact ⟨b,o,e,h1,h2⟩
theorem NsRow.el {p:Option Addr} {l:List (List Nat)} (h:NsRow w (.slice p n c) l) {j:Nat} {x:List Nat} (hj:l[j]?=some x):∃b o p1 n1 c1,p=some ⟨b,o,none⟩/\b<w.heap.size/\w.cell? ⟨b,o+j,none⟩=some (.slice p1 n1 c1)/\NRow w (.slice p1 n1 c1) x:=by
 obtain ⟨b,o,e,h1,p1,n1,c1,h2,h3⟩:=h.get hj;rw[Nat.mul_one] at h2;exact ⟨b,o,p1,n1,c1,e,h1,h2,h3⟩
theorem pktP_nums {p:Prg} {l:List Nat} (hl:x.fields[i]?=some l) (h:numsP l (p.heads.getD i [])=false):pktP p x=false:=by
 rw[Bool.eq_false_iff];intro hc;have hF:=pktP_iff.1 hc;rw[Bool.eq_false_iff] at h;exact h (numsP_iff.2 ⟨hF.fl i l hl,hF.ff i l hl⟩)
theorem pktP_z {p:Prg} {l:List Nat} (hl:x.fields[i]?=some l) (hv:x.valid.getD i false=false) (hn:l[k]?=some n) (h:n≠0):pktP p x=false:=by
 rw[Bool.eq_false_iff];intro hc;exact h ((pktP_iff.1 hc).z i l hl hv n (gM_ hn))
theorem pktP_lens {p:Prg} (h:¬(x.valid.length=p.heads.length/\x.fields.length=p.heads.length/\numsP x.metas p.metas=true)):pktP p x=false:=by
 rw[Bool.eq_false_iff];intro hc;have hF:=pktP_iff.1 hc;exact h ⟨hF.v,hF.f,numsP_iff.2 ⟨hF.m,hF.mf⟩⟩
theorem pktP_true {p:Prg} (h1:x.valid.length=p.heads.length) (h2:x.fields.length=p.heads.length) (h3:numsP x.metas p.metas=true) (h4:∀(i:Nat) (l:List Nat),x.fields[i]?=some l->numsP l (p.heads.getD i [])=true/\(x.valid.getD i false=false->∀a∈l,a=0)):pktP p x=true:=
 pktP_iff.2 ⟨h1,h2,(numsP_iff.1 h3).1,(numsP_iff.1 h3).2,fun i l hl=>(numsP_iff.1 (h4 i l hl).1).1,fun i l hl=>(numsP_iff.1 (h4 i l hl).1).2,fun i l hl=>(h4 i l hl).2⟩
theorem cmp01_zero (n:Nat) (hn:n<B*B) (W:World):Calls Tryz.prog 29 #[.agg #[.int .u64 ((n/B:Nat):Int), .int .u64 ((n%B:Nat):Int)], .agg #[.int .u64 0, .int .u64 0]] W fun e w'=>e= .returned (.int .i64 (if n=0 then 0 else 1))/\Bl W w':=by
 have h:=refCmp_any n 0 hn dq W;have e0:numV 0= .agg #[.int .u64 0, .int .u64 0]:=by kernel_rfl
 have e1:cmpN n 0=if n=0 then 0 else 1:=by unfold cmpN;split<;>split<;>first|rfl|omega
 obtain ⟨v1,v2,ev,ev1,ev2⟩:=numV_parts n;rw[ev,e0,e1] at h;rw[<- ev1, <-ev2];exact h
theorem fits19_any (s:PgS) (p:Prg) (q:KS) (x:Pkt) (po eg:Int) (dr se ac:Bool) (w:World) (hp:PgOk w s p) (hS:Sm p) (hq:KOk w q x):
 Calls Tryz.prog 10 #[pgV s,kV q po dr se eg ac] w fun e w'=>e= .returned (.bool (pktP p x))/\Bl w w':=by
 obtain ⟨R,hR⟩:=nm (pktP p x);rw[<- hR];have HR:=hD hR;have HP:=hD hp;have HSM:=hD hS;have HQ:=hD hq;have HN:Hd (s.hn=p.heads.length/\q.vn=x.valid.length/\q.fn=x.fields.length):=⟨hp.heads.ln.1,hq.v.ln.1,hq.f.ln.1⟩;have hh6:s.hn<=6000:=by have:=hp.heads.ln.1;have:=hS.heads;omega
 obtain ⟨rm,hrm⟩:=nm (numsP x.metas p.metas);have HNM:Hd (∀ W,Bl w W->CR 28 #[.slice q.mp q.mn q.mc, .slice s.mp s.mn s.mc] W (.bool rm)):=fun W h=>by rw[hrm];exact numbers19_any _ _ _ _ _ _ _ _ W (hq.m.below keepN h) (hp.metas.below keepI h) (by have:=hp.metas.ln.1;have:=hS.metas;omega)
 have HRM:=hD hrm;clear hR hp hS hq hrm;unfold pgV kV;go_enter Tryz.func10,Tryz.ntmps10;go_upto_region 1 with fail
 obtain ⟨W0,hW0⟩:=nm ((w.alloc (.cells (pA s) 33)).alloc (.cells (kA q po dr se eg ac) 45));have HB0:Hd (Bl w W0):=by show Below _ _ _;rw[hW0];exact bL
 have HPB:Hd (PBox W0 w.heap.size s):=by show _=_;rw[hW0,Below.heap_alloc _ _ _ sm];exact heap_new _ _
 have HKB:Hd (KBox W0 (w.heap.size+1) q po dr se eg ac):=by
  show _=_;rw[hW0];exact hq2 _ _ _
 rw[<- hW0];clear hW0;obtain ⟨q0,q1,q2,q3,q4,q5,q6,q7,q8,q9,q10,q11⟩:=HPB.o.cells;obtain ⟨k0,k1,k2,k3,k4,k5,k6,k7,k8⟩:=HKB.o.cells;have hcase:(¬ (q.vn:Int)=(s.hn:Int))\/((q.vn:Int)=(s.hn:Int)/\¬(q.fn:Int)=(s.hn:Int))\/((q.vn:Int)=(s.hn:Int)/\(q.fn:Int)=(s.hn:Int)):=om
 rcases hcase with g1|⟨g1,g2⟩|⟨g1,g2⟩
 ·have g3:((q.vn:Int)!=(s.hn:Int))=true:=bne_iff_ne.2 g1;have hr:R=false:=by rw[HR.o];exact pktP_lens fun h=>by have:=HN.o;omega
  go_wp2_with fail;go_ret;exact ⟨by first|rfl|(rw[hr];rfl),HB0.o⟩
 ·have g3:((q.fn:Int)!=(s.hn:Int))=true:=bne_iff_ne.2 g2;have hr:R=false:=by rw[HR.o];exact pktP_lens fun h=>by have:=HN.o;omega
  go_wp2_with fail;go_ret;exact ⟨by first|rfl|(rw[hr];rfl),HB0.o⟩
 ·have HG:=hD (And.intro g1 g2);cases rm
  ·have hr:R=false:=by rw[HR.o];exact pktP_lens fun h=>by have:=HRM.o;rw[h.2.2] at this;cases this
   go_wp2_with (go_at_call 28;(with_reducible refine (HNM.o _ HB0.o).mono ?_);rintro e w1 ⟨rfl,hb1⟩;have HB1:=hD hb1;clear hb1);go_ret;exact ⟨by first|rfl|(rw[hr];rfl),HB0.o.trans (HB1.o.mono HB0.o.size)⟩
  ·go_wp2_with (go_at_call 28;(with_reducible refine (HNM.o _ HB0.o).mono ?_);rintro e w1 ⟨rfl,hb1⟩;have HB1:=hD hb1;clear hb1);clear g1 g2 q0 q1 q2 q3 q4 q5 q6 q7 q8 q9 q10 q11 k0 k1 k2 k3 k4 k5 k6 k7 k8;go_loopw [6,7] (fun i u wr=>∃k:Nat,k<=s.hn/\i= .int .i64 k/\Hd (∀ (j:Nat) (l:List Nat),j<k->x.fields[j]?=some l->numsP l (p.heads.getD j [])=true/\(x.valid.getD j false=false->∀a∈l,a=0))/\Hd (Bl W0 wr)) (fun i u _=>s.hn-(intOf i).toNat)
   case atStart=>exact ⟨0,zl,rfl,fun j l hj=>absurd hj om,HB1.o⟩
   case round=>
    clear HB1;obtain ⟨k,hk,rfl,HJ,HW⟩:=hrel;by_cases hlt:k<s.hn
    ·have hki:(k:Int)<(s.hn:Int):=om
     have hkf:(k:Int)<(q.fn:Int):=by have:=HG.o;omega
     have hkv:(k:Int)<(q.vn:Int):=by have:=HG.o;omega
     obtain ⟨fl,hfl⟩:∃l,x.fields[k]?=some l:=⟨_,gE_ (by have:=HN.o;have:=HG.o;omega)⟩;obtain ⟨vb,hvb⟩:∃l,x.valid[k]?=some l:=⟨_,gE_ (by have:=HN.o;have:=HG.o;omega)⟩;have hbw:=HB0.o.trans (HW.o.mono HB0.o.size);obtain ⟨hb,ho,hp1,hnr,hc1,hps,hhb,y0,hy0⟩:=IsRow.el (HP.o.heads.below keepIs hbw) (j:=k) (by have:=HN.o;omega);obtain ⟨fb,fo,fp1,fnr,fc1,fps,hfb,y1,hy1⟩:=NsRow.el (HQ.o.f.below keepNs hbw) hfl;obtain ⟨bb,bo,bps,hbb,y2⟩:=BRow.el (HQ.o.v.below keepB hbw) hvb;obtain ⟨rn,hrn⟩:=nm (numsP fl (p.heads.getD k []));have hhn:hnr<=6000:=by
      have h1:=hy0.ln.1;have h2:=HSM.o.head _ (gM_ (some_getD (l:=p.heads) (j:=k) [] (by have:=HN.o;omega)));omega
     have HNU:Hd (∀ W,Bl wr W->CR 28 #[.slice fp1 fnr fc1, .slice hp1 hnr hc1] W (.bool rn)):=fun W h=>by rw[hrn];exact numbers19_any _ _ _ _ _ _ _ _ W (hy1.below keepN h) (hy0.below keepI h) om
     have HCE:Hd (∀ W,Bl wr W->Cl W w.heap.size 0 (.slice s.hp s.hn s.hc)/\Cl W (w.heap.size+1) 3 (.slice q.fp q.fn q.fc)/\Cl W (w.heap.size+1) 2 (.slice q.vp q.vn q.vc)/\Cl W hb (ho+k) (.slice hp1 hnr hc1)/\Cl W fb (fo+k) (.slice fp1 fnr fc1)/\Cl W bb (bo+k) (.bool vb)):=fun W h=>
      ⟨(HPB.o.below (HW.o.trans (h.mono HW.o.size))).cells.1,(HKB.o.below (HW.o.trans (h.mono HW.o.size))).cells.2.2.2.1,(HKB.o.below (HW.o.trans (h.mono HW.o.size))).cells.2.2.1,(h.cell (p:=⟨hb,ho+k,none⟩) hhb).trans y0,(h.cell (p:=⟨fb,fo+k,none⟩) hfb).trans y1,(h.cell (p:=⟨bb,bo+k,none⟩) hbb).trans y2⟩
     rw[hps,fps,bps] at HCE;have HFL:Hd (x.fields[k]?=some fl/\x.valid.getD k false=vb):=⟨hfl,getD_some hvb⟩;have HRN:=hD hrn;have HFR:Hd (NRow wr (.slice fp1 fnr fc1) fl):=hy1;have HFN:Hd (fnr=fl.length):=hy1.ln.1;clear hfl hvb hbw hps fps bps hhb hfb hbb y0 y1 y2 hy0 hy1 hrn hhn;obtain ⟨q0,k3,k2,y0,y1,y2⟩:=HCE.o wr br;cases rn
     ·have hr:R=false:=by rw[HR.o];exact pktP_nums HFL.o.1 HRN.o.symm
      go_upto_region 7 with fail
      refine roB wr ?_;refine sq (fun aa ww ll hh=>by have:=hh.oL 3;exact ov gX) ?_;refine sq (fun aa ww ll hh=>by have:=hh.gt 0 0;exact ov (fC (HCE.o ww hh.inv))) ?_;refine sq (fun aa ww ll hh=>by exact ov (xmv (hh.oL 6))) ?_;refine sq (fun aa ww ll hh=>by have:=hh.gt 1 1;have:=hh.gt 2 0;exact ov gX) ?_;refine sq (fun aa ww ll hh=>by have:=hh.gt 3 0;exact ov (fC (HCE.o ww hh.inv))) ?_;refine sq (fun aa ww ll hh=>by have:=hh.oL 2;exact ov gX) ?_;refine sq (fun aa ww ll hh=>by have:=hh.gt 5 0;exact ov (fC (HCE.o ww hh.inv))) ?_;refine sq (fun aa ww ll hh=>by exact ov (xmv (hh.oL 6))) ?_;refine sq (fun aa ww ll hh=>by have:=hh.gt 6 1;have:=hh.gt 7 0;exact ov gX) ?_;refine sq (fun aa ww ll hh=>by have:=hh.gt 8 0;exact ov (fC (HCE.o ww hh.inv))) ?_;refine ⟨.eq (.bool false),trivial,rfl,fun aa ww ll hh=>?_,?_⟩
      ·have e40:=hh.gt 4 5;have e45:=hh.gt 9 0;have ef:=evf aa;refine out_call_eq (wanted_none rfl) ?_ (HNU.o ww hh.inv);exact gX
      refine sq (fun aa ww ll hh=>by have:=hh.gt 10 0;exact ov gX) ?_;intro ll w2 hS hok;clear hok;simp only[ly];have HW2:=hD (HB0.o.trans ((HW.o.trans (hS.mono HW.o.size)).mono HB0.o.size));clear hS;go_wp2_with fail;go_ret;exact ⟨by first|rfl|(rw[hr];rfl),HW2.o⟩
     ·have hfn:fnr<=6000:=by
       have h1:=(numsP_iff.1 HRN.o.symm).1;have h2:=HSM.o.head _ (gM_ (some_getD (l:=p.heads) (j:=k) [] (by have:=HN.o;omega)));have h3:=HFN.o;omega
      go_upto_region 7 with fail
      refine roB wr ?_;refine sq (fun aa ww ll hh=>by have:=hh.oL 3;exact ov gX) ?_;refine sq (fun aa ww ll hh=>by have:=hh.gt 0 0;exact ov (fC (HCE.o ww hh.inv))) ?_;refine sq (fun aa ww ll hh=>by exact ov (xmv (hh.oL 6))) ?_;refine sq (fun aa ww ll hh=>by have:=hh.gt 1 1;have:=hh.gt 2 0;exact ov gX) ?_;refine sq (fun aa ww ll hh=>by have:=hh.gt 3 0;exact ov (fC (HCE.o ww hh.inv))) ?_;refine sq (fun aa ww ll hh=>by have:=hh.oL 2;exact ov gX) ?_;refine sq (fun aa ww ll hh=>by have:=hh.gt 5 0;exact ov (fC (HCE.o ww hh.inv))) ?_;refine sq (fun aa ww ll hh=>by exact ov (xmv (hh.oL 6))) ?_;refine sq (fun aa ww ll hh=>by have:=hh.gt 6 1;have:=hh.gt 7 0;exact ov gX) ?_;refine sq (fun aa ww ll hh=>by have:=hh.gt 8 0;exact ov (fC (HCE.o ww hh.inv))) ?_;refine ⟨.eq (.bool true),trivial,rfl,fun aa ww ll hh=>?_,?_⟩
      ·have e40:=hh.gt 4 5;have e45:=hh.gt 9 0;have ef:=evf aa;refine out_call_eq (wanted_none rfl) ?_ (HNU.o ww hh.inv);exact gX
      refine sq (fun aa ww ll hh=>by have:=hh.gt 10 0;exact ov gX) ?_;intro ll w2 hS hok;clear hok;simp only[ly];clear q0 k3 k2 y0 y1 y2;have HB2:=hD hS;clear hS;obtain ⟨q0,k3,k2,y0,y1,y2⟩:=HCE.o w2 HB2.o;go_wp2_with fail;clear q0 k3 k2 y0 y1 y2;go_loopw [7] (fun u wq=>∃z:Nat,z<=fnr/\u= .int .i64 z/\Hd (∀ (j:Nat) (n:Nat),j<z->fl[j]?=some n->vb=false->n=0)/\Hd (Bl wr wq)) (fun u _=>fnr-(intOf u).toNat)
      case atStart=>exact ⟨0,zl,rfl,fun j n hj=>absurd hj om,HB2.o⟩
      case round=>
       obtain ⟨z,hz,rfl,HZ,HQB⟩:=hrel;obtain ⟨q0,k3,k2,y0,y1,y2⟩:=HCE.o _ HQB.o;by_cases hzl:z<fnr
       ·have hzi:(z:Int)<(fnr:Int):=om
        obtain ⟨n,hn⟩:∃n,fl[z]?=some n:=⟨_,gE_ (by have:=HFN.o;omega)⟩;obtain ⟨nb,no,nps,hnb,hnv,c0,c1⟩:=(HFR.o.below keepN HQB.o).get hn;have HCM:=hD (cmp01_zero n hnv);generalize ((n/B:Nat):Int)=n0 at*;generalize ((n%B:Nat):Int)=n1 at*;have HNN:=hD hn;rw[nps] at y1;clear hn nps hnb hnv;cases vb
        ·by_cases hn0:n=0
         ·subst hn0;rw[if_pos rfl] at HCM;go_wp2_with (go_at_call 29;(with_reducible refine (HCM.o _).mono ?_);rintro e w3 ⟨rfl,hb3⟩;have HB3:=hD (HQB.o.trans (hb3.mono HQB.o.size));clear hb3);go_roundw
          case rel=>exact ⟨z+1,om,by go_num,fun j m hj hm hv=>by
           rcases Nat.lt_or_ge j z with h|h
           ·exact HZ.o j m h hm hv
           ·obtain rfl:j=z:=om
            have:=HNN.o;rw[hm] at this;cases this;rfl,HB3.o⟩
          case measure=>exact mz
         ·rw[if_neg hn0] at HCM;have hr:R=false:=by rw[HR.o];exact pktP_z HFL.o.1 HFL.o.2 HNN.o hn0
          have HBZ:=hD (HB0.o.trans (HW.o.mono HB0.o.size));go_wp2_with (go_at_call 29;(with_reducible refine (HCM.o _).mono ?_);rintro e w3 ⟨rfl,hb3⟩;have HB3:=hD (HQB.o.trans (hb3.mono HQB.o.size));clear hb3);go_ret;exact ⟨by first|rfl|(rw[hr];rfl),HBZ.o.trans (HB3.o.mono HBZ.o.size)⟩
        ·go_wp2_with fail;go_roundw
         case rel=>exact ⟨z+1,om,by go_num,fun j m hj hm hv=>by first|cases hv|exact absurd hv sm,HQB.o⟩
         case measure=>exact mz
       ·obtain rfl:z=fnr:=om
        have hzi:¬(z:Int)<(z:Int):=om
        have HWB:=hD (HW.o.trans (HQB.o.mono HW.o.size));go_wp2_with fail;go_roundw
        case rel=>exact ⟨k+1,om,by go_num,fun j l hj hl=>by
         rcases Nat.lt_or_ge j k with h|h
         ·exact HJ.o j l h hl
         ·obtain rfl:j=k:=om
          have:=HFL.o.1;rw[hl] at this;cases this
          refine ⟨HRN.o.symm,fun hv a ha=>?_⟩;obtain ⟨i,hi⟩:=List.getElem?_of_mem ha;exact HZ.o i a (by have:=(gL_ hi).1;have:=HFN.o;omega) hi (HFL.o.2.symm.trans hv),HWB.o⟩
        case measure=>exact mz
    ·obtain rfl:k=s.hn:=om
     have hki:¬(s.hn:Int)<(s.hn:Int):=om
     have hr:R=true:=by
      rw[HR.o];exact pktP_true (by have:=HN.o;have:=HG.o;omega) (by have:=HN.o;have:=HG.o;omega) HRM.o.symm fun i l hl=>HJ.o i l (by have:=(gL_ hl).1;have:=HN.o;have:=HG.o;omega) hl
     have hbw:=HB0.o.trans (HW.o.mono HB0.o.size);go_wp2_with fail;go_ret;exact ⟨by first|rfl|(rw[hr];rfl),hbw⟩
open Go.RowKit
def sumL {α:Type} (f:α->Nat) (l:List α):Nat:=(l.map f).sum
section
variable {α:Type} {f:α->Nat}
theorem sumL_cons (x:α) (l:List α):sumL f (x::l)=f x+sumL f l:=by simp[sumL]
theorem sumL_append (l r:List α):sumL f (l++r)=sumL f l+sumL f r:=by simp[sumL]
theorem sumL_take {l:List α} {x:α} (h:l[k]?=some x):sumL f (l.take (k+1))=sumL f (l.take k)+f x:=by
 rw[List.take_add_one,h,sumL_append];simp[sumL]
theorem sumL_full {l:List α} (h:l.length<=k):sumL f (l.take k)=sumL f l:=by rw[List.take_of_length_le h]
theorem sumL_zero {l:List α}:sumL f (l.take 0)=0:=by simp[sumL]
theorem sumL_le {B:Nat}:∀{l:List α},(∀ x∈l,f x<=B)->sumL f l<=l.length*B
 |[],_=>by simp[sumL]
 |x::l,h=>by
  rw[sumL_cons,List.length_cons,Nat.add_mul,Nat.one_mul];have h1:=h x sm;have h2:=sumL_le (l:=l) (fun y hy=>h y (List.mem_cons_of_mem _ hy));omega
theorem le_sumL:∀{l:List α} {x:α},x∈l->f x<=sumL f l
 |y::l,x,h=>by
  rw[sumL_cons];rcases List.mem_cons.1 h with rfl|h
  ·omega
  ·have:=le_sumL h;omega
theorem ln_sumL (h:∀x,1<=f x):∀{l:List α},l.length<=sumL f l
 |[]=>by simp
 |y::l=>by
  rw[sumL_cons,List.length_cons];have:=h y;have:=ln_sumL h (l:=l);omega
theorem sumL_takele {l:List α} :sumL f (l.take k)<=sumL f l:=by
 have h:=sumL_append (f:=f) (l.take k) (l.drop k);rw[List.take_append_drop] at h;omega
end
def weighN (l:List Ist):Nat:=l.length+sumL (fun i=>i.e.length) l
def codesN (l:List (List Nod)):Nat:=sumL (fun c=>1+c.length) l
def patsN (l:List Brn):Nat:=sumL (fun b=>b.pats.length) l
def stepN (x:Stp):Nat:=1+x.takes.length+x.brs.length+codesN x.keys+patsN x.brs
def actN (a:Actn):Nat:=1+a.params.length+weighN a.body
def tabN (t:Tbl):Nat:=1+t.acts.length+t.dargs.length+codesN t.keys
def greatN (p:Prg):Nat:=p.heads.length+p.metas.length+p.emit.length+weighN p.ctl+sumL List.length p.heads+sumL stepN p.steps+sumL actN p.acts+sumL tabN p.tabs
theorem Sm.of {p:Prg} (h:greatN p<=6000):Sm p:=by
 unfold greatN weighN at h;have a1:p.steps.length<=sumL stepN p.steps:=ln_sumL fun x=>by unfold stepN;omega
 have a2:p.acts.length<=sumL actN p.acts:=ln_sumL fun x=>by unfold actN;omega
 have a3:p.tabs.length<=sumL tabN p.tabs:=ln_sumL fun x=>by unfold tabN;omega
 have st:∀x∈p.steps,stepN x<=6000:=fun x hx=>by have:=le_sumL (f:=stepN) hx;omega
 have ac:∀x∈p.acts,actN x<=6000:=fun x hx=>by have:=le_sumL (f:=actN) hx;omega
 have tb:∀x∈p.tabs,tabN x<=6000:=fun x hx=>by have:=le_sumL (f:=tabN) hx;omega
 have kl:∀l:List (List Nod),l.length<=codesN l:=fun l=>ln_sumL fun x=>by omega
 have kc:∀(l:List (List Nod)),∀c∈l,c.length<=codesN l:=fun l c hc=>by have:=le_sumL (f:=fun c:List Nod=>1+c.length) hc;unfold codesN;omega
 refine ⟨om,fun l hl=>?_,om,om,om,fun x hx=>?_,fun x hx=>?_,fun x hx c hc=>?_,fun x hx=>?_,fun x hx b hb=>?_,om,fun a ha=>?_,fun a ha=>?_,fun a ha i hi=>?_,om,fun i hi=>?_,om,fun x hx=>?_,fun x hx c hc=>?_,fun x hx=>?_,fun x hx=>?_⟩
 ·have:=le_sumL (f:=List.length) hl;omega
 ·have:=st x hx;unfold stepN at this;omega
 ·have:=st x hx;have:=kl x.keys;unfold stepN at *;omega
 ·have:=st x hx;have:=kc x.keys c hc;unfold stepN at *;omega
 ·have:=st x hx;unfold stepN at this;omega
 ·have:=st x hx;have:=le_sumL (f:=fun b:Brn=>b.pats.length) hb;unfold stepN patsN at *;omega
 ·have:=ac a ha;unfold actN at this;omega
 ·have:=ac a ha;unfold actN weighN at this;omega
 ·have:=ac a ha;have:=le_sumL (f:=fun i:Ist=>i.e.length) hi;unfold actN weighN at *;omega
 ·have:=le_sumL (f:=fun i:Ist=>i.e.length) hi;omega
 ·have:=tb x hx;have:=kl x.keys;unfold tabN at *;omega
 ·have:=tb x hx;have:=kc x.keys c hc;unfold tabN at *;omega
 ·have:=tb x hx;unfold tabN at this;omega
 ·have:=tb x hx;unfold tabN at this;omega
structure Lm (p:Prg):Prop where
 heads:p.heads.length<=1048576
 head:∀l∈p.heads,l.length<=1048576
 metas:p.metas.length<=1048576
 emit:p.emit.length<=1048576
 steps:p.steps.length<=1048576
 takes:∀x∈p.steps,x.takes.length<=1048576
 skeys:∀x∈p.steps,x.keys.length<=1048576
 scode:∀x∈p.steps,∀c∈x.keys,c.length<=1048576
 brs:∀x∈p.steps,x.brs.length<=1048576
 pats:∀x∈p.steps,∀b∈x.brs,b.pats.length<=1048576
 acts:p.acts.length<=1048576
 params:∀a∈p.acts,a.params.length<=1048576
 body:∀a∈p.acts,a.body.length<=1048576
 bcode:∀a∈p.acts,∀i∈a.body,i.e.length<=1048576
 ctl:p.ctl.length<=1048576
 ccode:∀i∈p.ctl,i.e.length<=1048576
 tabs:p.tabs.length<=1048576
 tkeys:∀x∈p.tabs,x.keys.length<=1048576
 tcode:∀x∈p.tabs,∀c∈x.keys,c.length<=1048576
 tacts:∀x∈p.tabs,x.acts.length<=1048576
 dargs:∀x∈p.tabs,x.dargs.length<=1048576
theorem mulM {B:Nat} (h:n<=k*B) (hk:k<=1048576):n<=1048576*B:=Nat.le_trans h (Nat.mul_le_mul_right _ hk)
theorem weigh_le {l:List Ist} (h1:l.length<=1048576) (h2:∀i∈l,i.e.length<=1048576):weighN l<=1099512676352:=by
 have:=mulM (sumL_le (f:=fun i:Ist=>i.e.length) h2) h1;unfold weighN;omega
theorem codes_le {l:List (List Nod)} (h1:l.length<=1048576) (h2:∀i∈l,i.length<=1048576):codesN l<=1099512676352:=by
 have:=mulM (sumL_le (f:=fun i:List Nod=>1+i.length) (B:=1048577) (fun i hi=>by have:=h2 i hi;omega)) h1;unfold codesN;omega
theorem pats_le {l:List Brn} (h1:l.length<=1048576) (h2:∀i∈l,i.pats.length<=1048576):patsN l<=1099511627776:=by
 have:=mulM (sumL_le (f:=fun b:Brn=>b.pats.length) h2) h1;unfold patsN;omega
theorem Lm.step {p:Prg} (h:Lm p):∀x∈p.steps,stepN x<=2199026401281:=fun x hx=>by
 have a1:=h.takes x hx;have a2:=h.brs x hx;have a3:=codes_le (h.skeys x hx) (h.scode x hx);have a4:=pats_le (h.brs x hx) (h.pats x hx);unfold stepN;omega
theorem Lm.act {p:Prg} (h:Lm p):∀x∈p.acts,actN x<=1099513724929:=fun x hx=>by
 have a1:=h.params x hx;have a2:=weigh_le (h.body x hx) (h.bcode x hx);unfold actN;omega
theorem Lm.tab {p:Prg} (h:Lm p):∀x∈p.tabs,tabN x<=1099514773505:=fun x hx=>by
 have a1:=h.tacts x hx;have a2:=h.dargs x hx;have a3:=codes_le (h.tkeys x hx) (h.tcode x hx);unfold tabN;omega
theorem Lm.great {p:Prg} (h:Lm p):greatN p<=5000000000000000000:=by
 have a1:=mulM (sumL_le (f:=stepN) h.step) h.steps;have a2:=mulM (sumL_le (f:=actN) h.act) h.acts;have a3:=mulM (sumL_le (f:=tabN) h.tab) h.tabs;have a4:=mulM (sumL_le (f:=List.length) h.head) h.heads;have a5:=weigh_le h.ctl h.ccode;have a6:=h.heads;have a7:=h.metas;have a8:=h.emit;unfold greatN;omega
theorem wrapL {x:Int} (h:x=(n:Int)) (h2:n<=5000000000000000000):wrap64 x=(n:Int):=by
 subst h;unfold wrap64;omega
end Go.Proofs.YtikilcbpogfgkaaGreat
