/-
  Lemmas, joined: FitB, GrtP.
-/
import Derived.Test.YtjfhfaodbjecdaaGreatJC17
import Derived.Test.YtjfhfaodbjecdaaGreatJC21
import Derived.Test.YtjfhfaodbjecdaaGreatJC03
set_option maxHeartbeats 12800000
set_option maxRecDepth 100000
namespace Go.Proofs.YtjfhfaodbjecdaaGreat
open Go.RowKit
structure KS where
 rp:Option Addr
 rn:Nat
 rc:Nat
 vp:Option Addr
 vn:Nat
 vc:Nat
 fp:Option Addr
 fn:Nat
 fc:Nat
 mp:Option Addr
 mn:Nat
 mc:Nat
@[simp] abbrev kA (k:KS) (po:Int) (dr se:Bool) (eg:Int) (ac:Bool):Array Value:=#[.int .i64 po, .slice k.rp k.rn k.rc, .slice k.vp k.vn k.vc, .slice k.fp k.fn k.fc, .slice k.mp k.mn k.mc, .bool dr, .bool se, .int .i64 eg, .bool ac]
@[simp] abbrev kL (k:KS) (po:Int) (dr se:Bool) (eg:Int) (ac:Bool):List Value:=[.int .i64 po, .slice k.rp k.rn k.rc, .slice k.vp k.vn k.vc, .slice k.fp k.fn k.fc, .slice k.mp k.mn k.mc, .bool dr, .bool se, .int .i64 eg, .bool ac]
def kV (k:KS) (po:Int) (dr se:Bool) (eg:Int) (ac:Bool):Value:= .agg #[.int .i64 po, .slice k.rp k.rn k.rc, .slice k.vp k.vn k.vc, .slice k.fp k.fn k.fc, .slice k.mp k.mn k.mc, .bool dr, .bool se, .int .i64 eg, .bool ac]
structure KOk (w:World) (k:KS) (x:Pkt):Prop where
 r:URow w (.slice k.rp k.rn k.rc) x.rest
 v:BRow w (.slice k.vp k.vn k.vc) x.valid
 f:NsRow w (.slice k.fp k.fn k.fc) x.fields
 m:NRow w (.slice k.mp k.mn k.mc) x.metas
theorem KOk.below {w w':World} {k:KS} {x:Pkt} (h:KOk w k x) (hb:Below w.heap.size w w'):KOk w' k x:=⟨h.r.below keepU hb,h.v.below keepB hb,h.f.below keepNs hb,h.m.below keepN hb⟩
theorem PktV.ks {w:World} {v:Value} {x:Pkt} (h:PktV w v x):∃k,v=kV k x.port x.dropped x.sent x.egress x.access/\KOk w k x:=by
 obtain ⟨p1,n1,c1,p2,n2,c2,p3,n3,c3,p4,n4,c4,e,h1,h2,h3,h4⟩:=h;exact ⟨⟨p1,n1,c1,p2,n2,c2,p3,n3,c3,p4,n4,c4⟩,e,h1,h2,h3,h4⟩
def KBox (w:World) (g:Nat) (k:KS) (po:Int) (dr se:Bool) (eg:Int) (ac:Bool):Prop:=w.heap[g]?=some (.cells #[.int .i64 po, .slice k.rp k.rn k.rc, .slice k.vp k.vn k.vc, .slice k.fp k.fn k.fc, .slice k.mp k.mn k.mc, .bool dr, .bool se, .int .i64 eg, .bool ac] 40 (0,0))
section
variable {w w':World} {g:Nat} {k:KS} {po eg:Int} {dr se ac:Bool}
theorem KBox.cells (h:KBox w g k po dr se eg ac):w.cell? ⟨g,0,none⟩=some (.int .i64 po)/\w.cell? ⟨g,1,none⟩=some (.slice k.rp k.rn k.rc)/\w.cell? ⟨g,2,none⟩=some (.slice k.vp k.vn k.vc)/\w.cell? ⟨g,3,none⟩=some (.slice k.fp k.fn k.fc)/\w.cell? ⟨g,4,none⟩=some (.slice k.mp k.mn k.mc)/\w.cell? ⟨g,5,none⟩=some (.bool dr)/\w.cell? ⟨g,6,none⟩=some (.bool se)/\w.cell? ⟨g,7,none⟩=some (.int .i64 eg)/\w.cell? ⟨g,8,none⟩=some (.bool ac):=by
 unfold KBox at h;refine ⟨?_,?_,?_,?_,?_,?_,?_,?_,?_⟩<;>simp[World.cell?,h]
theorem KBox.below (h:KBox w g k po dr se eg ac) (hb:Below w.heap.size w w'):KBox w' g k po dr se eg ac:=(hb.block g (Array.getElem?_eq_some_iff.1 h).1).trans h
end
theorem BRow.el {w:World} {p:Option Addr} {n c:Nat} {l:List Bool} (h:BRow w (.slice p n c) l) {j:Nat} {x:Bool} (hj:l[j]?=some x):∃b o,p=some ⟨b,o,none⟩/\b<w.heap.size/\w.cell? ⟨b,o+j,none⟩=some (.bool x):=by
 obtain ⟨b,o,e,h1,h2⟩:=h.get hj;rw[Nat.mul_one] at h2;exact ⟨b,o,e,h1,h2⟩
theorem NsRow.el {w:World} {p:Option Addr} {n c:Nat} {l:List (List Nat)} (h:NsRow w (.slice p n c) l) {j:Nat} {x:List Nat} (hj:l[j]?=some x):∃b o p1 n1 c1,p=some ⟨b,o,none⟩/\b<w.heap.size/\w.cell? ⟨b,o+j,none⟩=some (.slice p1 n1 c1)/\NRow w (.slice p1 n1 c1) x:=by
 obtain ⟨b,o,e,h1,p1,n1,c1,h2,h3⟩:=h.get hj;rw[Nat.mul_one] at h2;exact ⟨b,o,p1,n1,c1,e,h1,h2,h3⟩
theorem pktP_nums {p:Prg} {x:Pkt} {i:Nat} {l:List Nat} (hl:x.fields[i]?=some l) (h:numsP l (p.heads.getD i [])=false):pktP p x=false:=by
 rw[Bool.eq_false_iff];intro hc;have hF:=pktP_iff.1 hc;rw[Bool.eq_false_iff] at h;exact h (numsP_iff.2 ⟨hF.fl i l hl,hF.ff i l hl⟩)
theorem pktP_z {p:Prg} {x:Pkt} {i k n:Nat} {l:List Nat} (hl:x.fields[i]?=some l) (hv:x.valid.getD i false=false) (hn:l[k]?=some n) (h:n≠0):pktP p x=false:=by
 rw[Bool.eq_false_iff];intro hc;exact h ((pktP_iff.1 hc).z i l hl hv n (List.mem_of_getElem? hn))
theorem pktP_lens {p:Prg} {x:Pkt} (h:¬(x.valid.length=p.heads.length/\x.fields.length=p.heads.length/\numsP x.metas p.metas=true)):pktP p x=false:=by
 rw[Bool.eq_false_iff];intro hc;have hF:=pktP_iff.1 hc;exact h ⟨hF.v,hF.f,numsP_iff.2 ⟨hF.m,hF.mf⟩⟩
theorem pktP_true {p:Prg} {x:Pkt} (h1:x.valid.length=p.heads.length) (h2:x.fields.length=p.heads.length) (h3:numsP x.metas p.metas=true) (h4:∀(i:Nat) (l:List Nat),x.fields[i]?=some l->numsP l (p.heads.getD i [])=true/\(x.valid.getD i false=false->∀a∈l,a=0)):pktP p x=true:=
 pktP_iff.2 ⟨h1,h2,(numsP_iff.1 h3).1,(numsP_iff.1 h3).2,fun i l hl=>(numsP_iff.1 (h4 i l hl).1).1,fun i l hl=>(numsP_iff.1 (h4 i l hl).1).2,fun i l hl=>(h4 i l hl).2⟩
theorem cmp01_zero (n:Nat) (hn:n<B*B) (W:World):Calls Tryz.prog 29 #[.agg #[.int .u64 ((n/B:Nat):Int), .int .u64 ((n%B:Nat):Int)], .agg #[.int .u64 0, .int .u64 0]] W fun e w'=>e= .returned (.int .i64 (if n=0 then 0 else 1))/\Below W.heap.size W w':=by
 have h:=refCmp_any n 0 hn (by decide) W;have e0:numV 0= .agg #[.int .u64 0, .int .u64 0]:=by kernel_rfl
 have e1:cmpN n 0=if n=0 then 0 else 1:=by unfold cmpN;split<;>split<;>first|rfl|omega
 obtain ⟨v1,v2,ev,ev1,ev2⟩:=numV_parts n;rw[ev,e0,e1] at h;rw[<- ev1, <-ev2];exact h
theorem fits19_any (s:PgS) (p:Prg) (q:KS) (x:Pkt) (po eg:Int) (dr se ac:Bool) (w:World) (hp:PgOk w s p) (hS:Sm p) (hq:KOk w q x):
 Calls Tryz.prog 13 #[pgV s,kV q po dr se eg ac] w fun e w'=>e= .returned (.bool (pktP p x))/\Below w.heap.size w w':=by
 obtain ⟨R,hR⟩:∃R,R=pktP p x:=⟨_,rfl⟩;rw[<- hR];have HR:=hD hR;have HP:=hD hp;have HSM:=hD hS;have HQ:=hD hq;have HN:Hid (s.hn=p.heads.length/\q.vn=x.valid.length/\q.fn=x.fields.length):=⟨hp.heads.ln.1,hq.v.ln.1,hq.f.ln.1⟩;have hh6:s.hn<=6000:=by have:=hp.heads.ln.1;have:=hS.heads;omega
 obtain ⟨rm,hrm⟩:∃r,r=numsP x.metas p.metas:=⟨_,rfl⟩;have HNM:Hid (∀ W,Below w.heap.size w W->Calls Tryz.prog 28 #[.slice q.mp q.mn q.mc, .slice s.mp s.mn s.mc] W fun e w'=>e= .returned (.bool rm)/\Below W.heap.size W w'):=fun W h=>by rw[hrm];exact numbers19_any _ _ _ _ _ _ _ _ W (hq.m.below keepN h) (hp.metas.below keepI h) (by have:=hp.metas.ln.1;have:=hS.metas;omega)
 have HRM:=hD hrm;clear hR hp hS hq hrm;unfold pgV kV;go_enter Tryz.func13,Tryz.ntmps13;go_upto_region 1 with fail
 obtain ⟨W0,hW0⟩:∃W0,W0=(w.alloc (.cells #[.slice s.hp s.hn s.hc, .slice s.mp s.mn s.mc, .slice s.sp s.sn s.sc, .slice s.ap s.an s.ac, .slice s.tp s.tn s.tc, .slice s.cp s.cn s.cc, .slice s.ep s.en s.ec, .slice s.v1 s.n1 s.c1, .slice s.v2 s.n2 s.c2, .slice s.v3 s.n3 s.c3, .slice s.v4 s.n4 s.c4, .slice s.v5 s.n5 s.c5] 33)).alloc (.cells #[.int .i64 po, .slice q.rp q.rn q.rc, .slice q.vp q.vn q.vc, .slice q.fp q.fn q.fc, .slice q.mp q.mn q.mc, .bool dr, .bool se, .int .i64 eg, .bool ac] 40):=⟨_,rfl⟩;have HB0:Hid (Below w.heap.size w W0):=by show Below _ _ _;rw[hW0];exact (by repeat (first|exact Below.refl _ _|assumption|refine Below.drew ?_|refine blA ?_|refine blS ?_|refine blT ?_ (by assumption)))
 have HPB:Hid (PBox W0 w.heap.size s):=by show _=_;rw[hW0,Below.heap_alloc _ _ _ (by simp)];exact heap_new _ _
 have HKB:Hid (KBox W0 (w.heap.size+1) q po dr se eg ac):=by
  show _=_;rw[hW0];have:=heap_new (w.alloc (.cells #[.slice s.hp s.hn s.hc, .slice s.mp s.mn s.mc, .slice s.sp s.sn s.sc, .slice s.ap s.an s.ac, .slice s.tp s.tn s.tc, .slice s.cp s.cn s.cc, .slice s.ep s.en s.ec, .slice s.v1 s.n1 s.c1, .slice s.v2 s.n2 s.c2, .slice s.v3 s.n3 s.c3, .slice s.v4 s.n4 s.c4, .slice s.v5 s.n5 s.c5] 33)) (.cells #[.int .i64 po, .slice q.rp q.rn q.rc, .slice q.vp q.vn q.vc, .slice q.fp q.fn q.fc, .slice q.mp q.mn q.mc, .bool dr, .bool se, .int .i64 eg, .bool ac] 40);simp only[World.size_alloc] at this;exact this
 rw[<- hW0];clear hW0;obtain ⟨q0,q1,q2,q3,q4,q5,q6,q7,q8,q9,q10,q11⟩:=HPB.out.cells;obtain ⟨k0,k1,k2,k3,k4,k5,k6,k7,k8⟩:=HKB.out.cells;have hcase:(¬ (q.vn:Int)=(s.hn:Int))\/((q.vn:Int)=(s.hn:Int)/\¬(q.fn:Int)=(s.hn:Int))\/((q.vn:Int)=(s.hn:Int)/\(q.fn:Int)=(s.hn:Int)):=by omega
 rcases hcase with g1|⟨g1,g2⟩|⟨g1,g2⟩
 ·have g3:((q.vn:Int)!=(s.hn:Int))=true:=bne_iff_ne.2 g1;have hr:R=false:=by rw[HR.out];exact pktP_lens fun h=>by have:=HN.out;omega
  go_wp2_with fail;go_ret;exact ⟨by first|rfl|(rw[hr];rfl),HB0.out⟩
 ·have g3:((q.fn:Int)!=(s.hn:Int))=true:=bne_iff_ne.2 g2;have hr:R=false:=by rw[HR.out];exact pktP_lens fun h=>by have:=HN.out;omega
  go_wp2_with fail;go_ret;exact ⟨by first|rfl|(rw[hr];rfl),HB0.out⟩
 ·have HG:=hD (And.intro g1 g2);cases rm
  ·have hr:R=false:=by rw[HR.out];exact pktP_lens fun h=>by have:=HRM.out;rw[h.2.2] at this;cases this
   go_wp2_with (go_at_call 28;(with_reducible refine (HNM.out _ HB0.out).mono ?_);rintro e w1 ⟨rfl,hb1⟩;have HB1:=hD hb1;clear hb1);go_ret;exact ⟨by first|rfl|(rw[hr];rfl),HB0.out.trans (HB1.out.mono HB0.out.size)⟩
  ·go_wp2_with (go_at_call 28;(with_reducible refine (HNM.out _ HB0.out).mono ?_);rintro e w1 ⟨rfl,hb1⟩;have HB1:=hD hb1;clear hb1);clear g1 g2 q0 q1 q2 q3 q4 q5 q6 q7 q8 q9 q10 q11 k0 k1 k2 k3 k4 k5 k6 k7 k8;go_loopw [6,7] (fun i u wr=>∃k:Nat,k<=s.hn/\i= .int .i64 k/\Hid (∀ (j:Nat) (l:List Nat),j<k->x.fields[j]?=some l->numsP l (p.heads.getD j [])=true/\(x.valid.getD j false=false->∀a∈l,a=0))/\Hid (Below W0.heap.size W0 wr)) (fun i u _=>s.hn-(intOf i).toNat)
   case atStart=>exact ⟨0,Nat.zero_le _,rfl,fun j l hj=>absurd hj (by omega),HB1.out⟩
   case round=>
    clear HB1;obtain ⟨k,hk,rfl,HJ,HW⟩:=hrel;by_cases hlt:k<s.hn
    ·have hki:(k:Int)<(s.hn:Int):=by omega
     have hkf:(k:Int)<(q.fn:Int):=by have:=HG.out;omega
     have hkv:(k:Int)<(q.vn:Int):=by have:=HG.out;omega
     obtain ⟨fl,hfl⟩:∃l,x.fields[k]?=some l:=⟨_,List.getElem?_eq_getElem (by have:=HN.out;have:=HG.out;omega)⟩;obtain ⟨vb,hvb⟩:∃l,x.valid[k]?=some l:=⟨_,List.getElem?_eq_getElem (by have:=HN.out;have:=HG.out;omega)⟩;have hbw:=HB0.out.trans (HW.out.mono HB0.out.size);obtain ⟨hb,ho,hp1,hnr,hc1,hps,hhb,y0,hy0⟩:=IsRow.el (HP.out.heads.below keepIs hbw) (j:=k) (by have:=HN.out;omega);obtain ⟨fb,fo,fp1,fnr,fc1,fps,hfb,y1,hy1⟩:=NsRow.el (HQ.out.f.below keepNs hbw) hfl;obtain ⟨bb,bo,bps,hbb,y2⟩:=BRow.el (HQ.out.v.below keepB hbw) hvb;obtain ⟨rn,hrn⟩:∃r,r=numsP fl (p.heads.getD k []):=⟨_,rfl⟩;have hhn:hnr<=6000:=by
      have h1:=hy0.ln.1;have h2:=HSM.out.head _ (List.mem_of_getElem? (some_getD (l:=p.heads) (j:=k) [] (by have:=HN.out;omega)));omega
     have HNU:Hid (∀ W,Below wr.heap.size wr W->Calls Tryz.prog 28 #[.slice fp1 fnr fc1, .slice hp1 hnr hc1] W fun e w'=>e= .returned (.bool rn)/\Below W.heap.size W w'):=fun W h=>by rw[hrn];exact numbers19_any _ _ _ _ _ _ _ _ W (hy1.below keepN h) (hy0.below keepI h) (by omega)
     have HCE:Hid (∀ W,Below wr.heap.size wr W->W.cell? ⟨w.heap.size,0,none⟩=some (.slice s.hp s.hn s.hc)/\W.cell? ⟨w.heap.size+1,3,none⟩=some (.slice q.fp q.fn q.fc)/\W.cell? ⟨w.heap.size+1,2,none⟩=some (.slice q.vp q.vn q.vc)/\W.cell? ⟨hb,ho+k,none⟩=some (.slice hp1 hnr hc1)/\W.cell? ⟨fb,fo+k,none⟩=some (.slice fp1 fnr fc1)/\W.cell? ⟨bb,bo+k,none⟩=some (.bool vb)):=fun W h=>
      ⟨(HPB.out.below (HW.out.trans (h.mono HW.out.size))).cells.1,(HKB.out.below (HW.out.trans (h.mono HW.out.size))).cells.2.2.2.1,(HKB.out.below (HW.out.trans (h.mono HW.out.size))).cells.2.2.1,(h.cell (p:=⟨hb,ho+k,none⟩) hhb).trans y0,(h.cell (p:=⟨fb,fo+k,none⟩) hfb).trans y1,(h.cell (p:=⟨bb,bo+k,none⟩) hbb).trans y2⟩
     rw[hps,fps,bps] at HCE;have HFL:Hid (x.fields[k]?=some fl/\x.valid.getD k false=vb):=⟨hfl,getD_some hvb⟩;have HRN:=hD hrn;have HFR:Hid (NRow wr (.slice fp1 fnr fc1) fl):=hy1;have HFN:Hid (fnr=fl.length):=hy1.ln.1;clear hfl hvb hbw hps fps bps hhb hfb hbb y0 y1 y2 hy0 hy1 hrn hhn;obtain ⟨q0,k3,k2,y0,y1,y2⟩:=HCE.out wr (Below.refl _ _);cases rn
     ·have hr:R=false:=by rw[HR.out];exact pktP_nums HFL.out.1 HRN.out.symm
      go_upto_region 7 with fail
      refine roB wr ?_;refine stq ?_ (fun aa ww ll hh=>?_) ?_;rotate_left
      ·have e3:=hh.oL 3;exact ov gX
      refine stq ?_ (fun aa ww ll hh=>?_) ?_;rotate_left
      ·have e36:=hh.gt 0 0;obtain ⟨q0,k3,k2,y0,y1,y2⟩:=HCE.out ww hh.inv;exact ov gX
      refine stq ?_ (fun aa ww ll hh=>?_) ?_;rotate_left
      ·have e6:=hh.oL 6;refine ov ?_;rw[xmv e6]
      refine stq ?_ (fun aa ww ll hh=>?_) ?_;rotate_left
      ·have e37:=hh.gt 1 1;have e38:=hh.gt 2 0;exact ov gX
      refine stq ?_ (fun aa ww ll hh=>?_) ?_;rotate_left
      ·have e39:=hh.gt 3 0;obtain ⟨q0,k3,k2,y0,y1,y2⟩:=HCE.out ww hh.inv;exact ov gX
      refine stq ?_ (fun aa ww ll hh=>?_) ?_;rotate_left
      ·have e2:=hh.oL 2;exact ov gX
      refine stq ?_ (fun aa ww ll hh=>?_) ?_;rotate_left
      ·have e41:=hh.gt 5 0;obtain ⟨q0,k3,k2,y0,y1,y2⟩:=HCE.out ww hh.inv;exact ov gX
      refine stq ?_ (fun aa ww ll hh=>?_) ?_;rotate_left
      ·have e6:=hh.oL 6;refine ov ?_;rw[xmv e6]
      refine stq ?_ (fun aa ww ll hh=>?_) ?_;rotate_left
      ·have e42:=hh.gt 6 1;have e43:=hh.gt 7 0;exact ov gX
      refine stq ?_ (fun aa ww ll hh=>?_) ?_;rotate_left
      ·have e44:=hh.gt 8 0;obtain ⟨q0,k3,k2,y0,y1,y2⟩:=HCE.out ww hh.inv;exact ov gX
      refine ⟨.eq (.bool false),trivial,rfl,fun aa ww ll hh=>?_,?_⟩
      ·have e40:=hh.gt 4 5;have e45:=hh.gt 9 0;have ef:=evf aa;refine out_call_eq (wanted_none rfl) ?_ (HNU.out ww hh.inv);exact gX
      refine stq ?_ (fun aa ww ll hh=>?_) ?_;rotate_left
      ·have e46:=hh.gt 10 0;exact ov gX
      intro ll w2 hS hok;clear hok;simp only[List.reverse_cons,List.reverse_nil,List.nil_append,List.cons_append,layO,Out.val,Act.put,List.setIfInBounds_toArray,List.set_cons_zero,List.set_cons_succ];have HW2:Hid (Below w.heap.size w w2):=HB0.out.trans ((HW.out.trans (hS.mono HW.out.size)).mono HB0.out.size);clear hS;go_wp2_with fail;go_ret;exact ⟨by first|rfl|(rw[hr];rfl),HW2.out⟩
     ·have hfn:fnr<=6000:=by
       have h1:=(numsP_iff.1 HRN.out.symm).1;have h2:=HSM.out.head _ (List.mem_of_getElem? (some_getD (l:=p.heads) (j:=k) [] (by have:=HN.out;omega)));have h3:=HFN.out;omega
      go_upto_region 7 with fail
      refine roB wr ?_;refine stq ?_ (fun aa ww ll hh=>?_) ?_;rotate_left
      ·have e3:=hh.oL 3;exact ov gX
      refine stq ?_ (fun aa ww ll hh=>?_) ?_;rotate_left
      ·have e36:=hh.gt 0 0;obtain ⟨q0,k3,k2,y0,y1,y2⟩:=HCE.out ww hh.inv;exact ov gX
      refine stq ?_ (fun aa ww ll hh=>?_) ?_;rotate_left
      ·have e6:=hh.oL 6;refine ov ?_;rw[xmv e6]
      refine stq ?_ (fun aa ww ll hh=>?_) ?_;rotate_left
      ·have e37:=hh.gt 1 1;have e38:=hh.gt 2 0;exact ov gX
      refine stq ?_ (fun aa ww ll hh=>?_) ?_;rotate_left
      ·have e39:=hh.gt 3 0;obtain ⟨q0,k3,k2,y0,y1,y2⟩:=HCE.out ww hh.inv;exact ov gX
      refine stq ?_ (fun aa ww ll hh=>?_) ?_;rotate_left
      ·have e2:=hh.oL 2;exact ov gX
      refine stq ?_ (fun aa ww ll hh=>?_) ?_;rotate_left
      ·have e41:=hh.gt 5 0;obtain ⟨q0,k3,k2,y0,y1,y2⟩:=HCE.out ww hh.inv;exact ov gX
      refine stq ?_ (fun aa ww ll hh=>?_) ?_;rotate_left
      ·have e6:=hh.oL 6;refine ov ?_;rw[xmv e6]
      refine stq ?_ (fun aa ww ll hh=>?_) ?_;rotate_left
      ·have e42:=hh.gt 6 1;have e43:=hh.gt 7 0;exact ov gX
      refine stq ?_ (fun aa ww ll hh=>?_) ?_;rotate_left
      ·have e44:=hh.gt 8 0;obtain ⟨q0,k3,k2,y0,y1,y2⟩:=HCE.out ww hh.inv;exact ov gX
      refine ⟨.eq (.bool true),trivial,rfl,fun aa ww ll hh=>?_,?_⟩
      ·have e40:=hh.gt 4 5;have e45:=hh.gt 9 0;have ef:=evf aa;refine out_call_eq (wanted_none rfl) ?_ (HNU.out ww hh.inv);exact gX
      refine stq ?_ (fun aa ww ll hh=>?_) ?_;rotate_left
      ·have e46:=hh.gt 10 0;exact ov gX
      intro ll w2 hS hok;clear hok;simp only[List.reverse_cons,List.reverse_nil,List.nil_append,List.cons_append,layO,Out.val,Act.put,List.setIfInBounds_toArray,List.set_cons_zero,List.set_cons_succ];clear q0 k3 k2 y0 y1 y2;have HB2:=hD hS;clear hS;obtain ⟨q0,k3,k2,y0,y1,y2⟩:=HCE.out w2 HB2.out;go_wp2_with fail;clear q0 k3 k2 y0 y1 y2;go_loopw [7] (fun u wq=>∃z:Nat,z<=fnr/\u= .int .i64 z/\Hid (∀ (j:Nat) (n:Nat),j<z->fl[j]?=some n->vb=false->n=0)/\Hid (Below wr.heap.size wr wq)) (fun u _=>fnr-(intOf u).toNat)
      case atStart=>exact ⟨0,Nat.zero_le _,rfl,fun j n hj=>absurd hj (by omega),HB2.out⟩
      case round=>
       obtain ⟨z,hz,rfl,HZ,HQB⟩:=hrel;obtain ⟨q0,k3,k2,y0,y1,y2⟩:=HCE.out _ HQB.out;by_cases hzl:z<fnr
       ·have hzi:(z:Int)<(fnr:Int):=by omega
        obtain ⟨n,hn⟩:∃n,fl[z]?=some n:=⟨_,List.getElem?_eq_getElem (by have:=HFN.out;omega)⟩;obtain ⟨nb,no,nps,hnb,hnv,c0,c1⟩:=(HFR.out.below keepN HQB.out).get hn;have HCM:=hD (cmp01_zero n hnv);generalize ((n/B:Nat):Int)=n0 at*;generalize ((n%B:Nat):Int)=n1 at*;have HNN:=hD hn;rw[nps] at y1;clear hn nps hnb hnv;cases vb
        ·by_cases hn0:n=0
         ·subst hn0;rw[if_pos rfl] at HCM;go_wp2_with (go_at_call 29;(with_reducible refine (HCM.out _).mono ?_);rintro e w3 ⟨rfl,hb3⟩;have HB3:=hD (HQB.out.trans (hb3.mono HQB.out.size));clear hb3);go_roundw
          case rel=>exact ⟨z+1,by omega,by go_num,fun j m hj hm hv=>by
           rcases Nat.lt_or_ge j z with h|h
           ·exact HZ.out j m h hm hv
           ·obtain rfl:j=z:=by omega
            have:=HNN.out;rw[hm] at this;cases this;rfl,HB3.out⟩
          case measure=>simp[intOf];omega
         ·rw[if_neg hn0] at HCM;have hr:R=false:=by rw[HR.out];exact pktP_z HFL.out.1 HFL.out.2 HNN.out hn0
          have HBZ:Hid (Below w.heap.size w _):=HB0.out.trans (HW.out.mono HB0.out.size);go_wp2_with (go_at_call 29;(with_reducible refine (HCM.out _).mono ?_);rintro e w3 ⟨rfl,hb3⟩;have HB3:=hD (HQB.out.trans (hb3.mono HQB.out.size));clear hb3);go_ret;exact ⟨by first|rfl|(rw[hr];rfl),HBZ.out.trans (HB3.out.mono HBZ.out.size)⟩
        ·go_wp2_with fail;go_roundw
         case rel=>exact ⟨z+1,by omega,by go_num,fun j m hj hm hv=>by first|cases hv|exact absurd hv (by simp),HQB.out⟩
         case measure=>simp[intOf];omega
       ·obtain rfl:z=fnr:=by omega
        have hzi:¬(z:Int)<(z:Int):=by omega
        have HWB:Hid (Below W0.heap.size W0 _):=HW.out.trans (HQB.out.mono HW.out.size);go_wp2_with fail;go_roundw
        case rel=>exact ⟨k+1,by omega,by go_num,fun j l hj hl=>by
         rcases Nat.lt_or_ge j k with h|h
         ·exact HJ.out j l h hl
         ·obtain rfl:j=k:=by omega
          have:=HFL.out.1;rw[hl] at this;cases this
          refine ⟨HRN.out.symm,fun hv a ha=>?_⟩;obtain ⟨i,hi⟩:=List.getElem?_of_mem ha;exact HZ.out i a (by have:=(List.getElem?_eq_some_iff.1 hi).1;have:=HFN.out;omega) hi (HFL.out.2.symm.trans hv),HWB.out⟩
        case measure=>simp[intOf];omega
    ·obtain rfl:k=s.hn:=by omega
     have hki:¬(s.hn:Int)<(s.hn:Int):=by omega
     have hr:R=true:=by
      rw[HR.out];exact pktP_true (by have:=HN.out;have:=HG.out;omega) (by have:=HN.out;have:=HG.out;omega) HRM.out.symm fun i l hl=>HJ.out i l (by have:=(List.getElem?_eq_some_iff.1 hl).1;have:=HN.out;have:=HG.out;omega) hl
     have hbw:=HB0.out.trans (HW.out.mono HB0.out.size);go_wp2_with fail;go_ret;exact ⟨by first|rfl|(rw[hr];rfl),hbw⟩
open Go.RowKit
def sumL {α:Type} (f:α->Nat) (l:List α):Nat:=(l.map f).sum
section
variable {α:Type} {f:α->Nat}
theorem sumL_cons (x:α) (l:List α):sumL f (x::l)=f x+sumL f l:=by simp[sumL]
theorem sumL_append (l r:List α):sumL f (l++r)=sumL f l+sumL f r:=by simp[sumL]
theorem sumL_take {l:List α} {k:Nat} {x:α} (h:l[k]?=some x):sumL f (l.take (k+1))=sumL f (l.take k)+f x:=by
 rw[List.take_add_one,h,sumL_append];simp[sumL]
theorem sumL_full {l:List α} {k:Nat} (h:l.length<=k):sumL f (l.take k)=sumL f l:=by rw[List.take_of_length_le h]
theorem sumL_zero {l:List α}:sumL f (l.take 0)=0:=by simp[sumL]
theorem sumL_le {B:Nat}:∀{l:List α},(∀ x∈l,f x<=B)->sumL f l<=l.length*B
 |[],_=>by simp[sumL]
 |x::l,h=>by
  rw[sumL_cons,List.length_cons,Nat.add_mul,Nat.one_mul];have h1:=h x (by simp);have h2:=sumL_le (l:=l) (fun y hy=>h y (List.mem_cons_of_mem _ hy));omega
theorem le_sumL:∀{l:List α} {x:α},x∈l->f x<=sumL f l
 |y::l,x,h=>by
  rw[sumL_cons];rcases List.mem_cons.1 h with rfl|h
  ·omega
  ·have:=le_sumL h;omega
theorem ln_sumL (h:∀x,1<=f x):∀{l:List α},l.length<=sumL f l
 |[]=>by simp
 |y::l=>by
  rw[sumL_cons,List.length_cons];have:=h y;have:=ln_sumL h (l:=l);omega
theorem sumL_takele {l:List α} {k:Nat}:sumL f (l.take k)<=sumL f l:=by
 have h:=sumL_append (f:=f) (l.take k) (l.drop k);rw[List.take_append_drop] at h;omega
end
def weighN (l:List Ist):Nat:=l.length+sumL (fun i=>i.e.length) l
def codesN (l:List (List Nod)):Nat:=sumL (fun c=>1+c.length) l
def patsN (l:List Brn):Nat:=sumL (fun b=>b.pats.length) l
def stepN (x:Stp):Nat:=1+x.takes.length+x.brs.length+codesN x.keys+patsN x.brs
def actN (a:Actn):Nat:=1+a.params.length+weighN a.body
def tabN (t:Tbl):Nat:=1+t.acts.length+t.dargs.length+codesN t.keys
def greatN (p:Prg):Nat:=p.heads.length+p.metas.length+p.emit.length+weighN p.ctl+sumL List.length p.heads+sumL stepN p.steps+sumL actN p.acts+sumL tabN p.tabs
theorem Sm.of {p:Prg} (h:greatN p<=6000):Sm p:=by
 unfold greatN weighN at h;have a1:p.steps.length<=sumL stepN p.steps:=ln_sumL fun x=>by unfold stepN;omega
 have a2:p.acts.length<=sumL actN p.acts:=ln_sumL fun x=>by unfold actN;omega
 have a3:p.tabs.length<=sumL tabN p.tabs:=ln_sumL fun x=>by unfold tabN;omega
 have st:∀x∈p.steps,stepN x<=6000:=fun x hx=>by have:=le_sumL (f:=stepN) hx;omega
 have ac:∀x∈p.acts,actN x<=6000:=fun x hx=>by have:=le_sumL (f:=actN) hx;omega
 have tb:∀x∈p.tabs,tabN x<=6000:=fun x hx=>by have:=le_sumL (f:=tabN) hx;omega
 have kl:∀l:List (List Nod),l.length<=codesN l:=fun l=>ln_sumL fun x=>by omega
 have kc:∀(l:List (List Nod)),∀c∈l,c.length<=codesN l:=fun l c hc=>by have:=le_sumL (f:=fun c:List Nod=>1+c.length) hc;unfold codesN;omega
 refine ⟨by omega,fun l hl=>?_,by omega,by omega,by omega,fun x hx=>?_,fun x hx=>?_,fun x hx c hc=>?_,fun x hx=>?_,fun x hx b hb=>?_,by omega,fun a ha=>?_,fun a ha=>?_,fun a ha i hi=>?_,by omega,fun i hi=>?_,by omega,fun x hx=>?_,fun x hx c hc=>?_,fun x hx=>?_,fun x hx=>?_⟩
 ·have:=le_sumL (f:=List.length) hl;omega
 ·have:=st x hx;unfold stepN at this;omega
 ·have:=st x hx;have:=kl x.keys;unfold stepN at *;omega
 ·have:=st x hx;have:=kc x.keys c hc;unfold stepN at *;omega
 ·have:=st x hx;unfold stepN at this;omega
 ·have:=st x hx;have:=le_sumL (f:=fun b:Brn=>b.pats.length) hb;unfold stepN patsN at *;omega
 ·have:=ac a ha;unfold actN at this;omega
 ·have:=ac a ha;unfold actN weighN at this;omega
 ·have:=ac a ha;have:=le_sumL (f:=fun i:Ist=>i.e.length) hi;unfold actN weighN at *;omega
 ·have:=le_sumL (f:=fun i:Ist=>i.e.length) hi;omega
 ·have:=tb x hx;have:=kl x.keys;unfold tabN at *;omega
 ·have:=tb x hx;have:=kc x.keys c hc;unfold tabN at *;omega
 ·have:=tb x hx;unfold tabN at this;omega
 ·have:=tb x hx;unfold tabN at this;omega
structure Lm (p:Prg):Prop where
 heads:p.heads.length<=1048576
 head:∀l∈p.heads,l.length<=1048576
 metas:p.metas.length<=1048576
 emit:p.emit.length<=1048576
 steps:p.steps.length<=1048576
 takes:∀x∈p.steps,x.takes.length<=1048576
 skeys:∀x∈p.steps,x.keys.length<=1048576
 scode:∀x∈p.steps,∀c∈x.keys,c.length<=1048576
 brs:∀x∈p.steps,x.brs.length<=1048576
 pats:∀x∈p.steps,∀b∈x.brs,b.pats.length<=1048576
 acts:p.acts.length<=1048576
 params:∀a∈p.acts,a.params.length<=1048576
 body:∀a∈p.acts,a.body.length<=1048576
 bcode:∀a∈p.acts,∀i∈a.body,i.e.length<=1048576
 ctl:p.ctl.length<=1048576
 ccode:∀i∈p.ctl,i.e.length<=1048576
 tabs:p.tabs.length<=1048576
 tkeys:∀x∈p.tabs,x.keys.length<=1048576
 tcode:∀x∈p.tabs,∀c∈x.keys,c.length<=1048576
 tacts:∀x∈p.tabs,x.acts.length<=1048576
 dargs:∀x∈p.tabs,x.dargs.length<=1048576
theorem mulM {n k B:Nat} (h:n<=k*B) (hk:k<=1048576):n<=1048576*B:=Nat.le_trans h (Nat.mul_le_mul_right _ hk)
theorem weigh_le {l:List Ist} (h1:l.length<=1048576) (h2:∀i∈l,i.e.length<=1048576):weighN l<=1099512676352:=by
 have:=mulM (sumL_le (f:=fun i:Ist=>i.e.length) h2) h1;unfold weighN;omega
theorem codes_le {l:List (List Nod)} (h1:l.length<=1048576) (h2:∀i∈l,i.length<=1048576):codesN l<=1099512676352:=by
 have:=mulM (sumL_le (f:=fun i:List Nod=>1+i.length) (B:=1048577) (fun i hi=>by have:=h2 i hi;omega)) h1;unfold codesN;omega
theorem pats_le {l:List Brn} (h1:l.length<=1048576) (h2:∀i∈l,i.pats.length<=1048576):patsN l<=1099511627776:=by
 have:=mulM (sumL_le (f:=fun b:Brn=>b.pats.length) h2) h1;unfold patsN;omega
theorem Lm.step {p:Prg} (h:Lm p):∀x∈p.steps,stepN x<=2199026401281:=fun x hx=>by
 have a1:=h.takes x hx;have a2:=h.brs x hx;have a3:=codes_le (h.skeys x hx) (h.scode x hx);have a4:=pats_le (h.brs x hx) (h.pats x hx);unfold stepN;omega
theorem Lm.act {p:Prg} (h:Lm p):∀x∈p.acts,actN x<=1099513724929:=fun x hx=>by
 have a1:=h.params x hx;have a2:=weigh_le (h.body x hx) (h.bcode x hx);unfold actN;omega
theorem Lm.tab {p:Prg} (h:Lm p):∀x∈p.tabs,tabN x<=1099514773505:=fun x hx=>by
 have a1:=h.tacts x hx;have a2:=h.dargs x hx;have a3:=codes_le (h.tkeys x hx) (h.tcode x hx);unfold tabN;omega
theorem Lm.great {p:Prg} (h:Lm p):greatN p<=5000000000000000000:=by
 have a1:=mulM (sumL_le (f:=stepN) h.step) h.steps;have a2:=mulM (sumL_le (f:=actN) h.act) h.acts;have a3:=mulM (sumL_le (f:=tabN) h.tab) h.tabs;have a4:=mulM (sumL_le (f:=List.length) h.head) h.heads;have a5:=weigh_le h.ctl h.ccode;have a6:=h.heads;have a7:=h.metas;have a8:=h.emit;unfold greatN;omega
theorem wrapL {x:Int} {n:Nat} (h:x=(n:Int)) (h2:n<=5000000000000000000):wrap64 x=(n:Int):=by
 subst h;unfold wrap64;omega
end Go.Proofs.YtjfhfaodbjecdaaGreat
