/-
  Lemmas, joined: MayH, MayI, MayJ.
-/
import Derived.Test.YtjfhfaodbjecdaaGreatJC09
set_option maxHeartbeats 12800000
set_option maxRecDepth 100000
namespace Go.Proofs.YtjfhfaodbjecdaaGreat
open Go.RowKit
theorem IstRow.el {w:World} {p:Option Addr} {n c:Nat} {l:List Ist} (h:IstRow w (.slice p n c) l) {j:Nat} {x:Ist} (hj:l[j]?=some x):∃b o ep en ec,p=some ⟨b,o,none⟩/\b<w.heap.size/\w.cell? ⟨b,o+j*5,none⟩=some (.int .u8 x.k)/\w.cell? ⟨b,o+j*5+1,none⟩=some (.int .i64 x.a)/\w.cell? ⟨b,o+j*5+2,none⟩=some (.int .i64 x.b)/\w.cell? ⟨b,o+j*5+3,none⟩=some (.slice ep en ec)/\w.cell? ⟨b,o+j*5+4,none⟩=some (.int .i64 x.to)/\CRow w (.slice ep en ec) x.e:=by
 obtain ⟨b,o,e,h1,c0,c1,c2,⟨ep,en,ec,c3,hr⟩,c4⟩:=h.get hj;exact ⟨b,o,ep,en,ec,e,h1,c0,c1,c2,c3,c4,hr⟩
theorem mayInsts_any (s:PgS) (p:Prg) (act:Int) (l:List Ist) (lp:Option Addr) (n lc:Nat) (w:World) (hp:PgOk w s p) (hS:Sm p) (hl:IstRow w (.slice lp n lc) l) (hn:n<=6000) (hcs:∀x∈l,x.e.length<=6000):
 Calls Tryz.prog 36 #[pgV s, .int .i64 act, .slice lp n lc] w fun e w'=>e= .returned (.bool (mayInstsP p act l))/\Below w.heap.size w w':=by
 obtain ⟨R,hR⟩:∃R,R=mayInstsP p act l:=⟨_,rfl⟩;rw[<- hR];obtain ⟨hl1,hl2,hl3,-⟩:=hl.ln;have hR2:R=allIdx (fun i x=>mayInstP p act x i n) 0 l:=by
  rw[hR];unfold mayInstsP;rw[decide_eq_true (by omega),Bool.true_and,hl1]
 have HR:=hD hR2;have HL:=hD hl;have HN:=hD hl1;have HCS:=hD hcs;have HMI:Hid (∀ W k x ep en ec,Below w.heap.size w W->CRow W (.slice ep en ec) x.e->en<=6000->Calls Tryz.prog 59 #[pgV s, .int .i64 act,isV x.k x.a x.b ep en ec x.to, .int .i64 ((k:Nat):Int), .int .i64 (n:Int)] W fun e w'=>e= .returned (.bool (mayInstP p act x k n))/\Below W.heap.size W w'):=fun W k x ep en ec h hc he=>mayInst_any s p act x ep en ec k n W (hp.below h) hS hc he
 have hbig:¬(65536:Int)<(n:Int):=by omega
 clear hR hR2 hp hS hl hl1 hcs;unfold pgV isV at HMI;unfold pgV;go_enter Tryz.func36,Tryz.ntmps36;go_wp2_with fail;obtain ⟨W0,hW0⟩:∃W0,W0=w.alloc (.cells (pA s) 33):=⟨_,rfl⟩;have HB0:Hid (Below w.heap.size w W0):=by show Below _ _ _;rw[hW0];exact (by repeat (first|exact Below.refl _ _|assumption|refine Below.drew ?_|refine blA ?_|refine blS ?_|refine blT ?_ (by assumption)))
 have HPB:Hid (PBox W0 w.heap.size s):=by show _=_;rw[hW0];exact heap_new _ _
 rw[<- hW0];clear hW0;go_loopw [7] (fun i wr=>∃k:Nat,k<=n/\i= .int .i64 k/\Hid (Below W0.heap.size W0 wr)/\Hid (∀ j x,j<k->l[j]?=some x->mayInstP p act x j n=true)) (fun i _=>n-(intOf i).toNat)
 case atStart=>exact ⟨0,Nat.zero_le _,rfl,Below.refl _ _,fun j _ hj=>absurd hj (by omega)⟩
 case round=>
  obtain ⟨k,hk,rfl,HW,HQ⟩:=hrel;by_cases hlt:k<n
  ·obtain ⟨x,hx⟩:∃x,l[k]?=some x:=⟨_,List.getElem?_eq_getElem (by have:=HN.out;omega)⟩;have hbw:=HB0.out.trans (HW.out.mono HB0.out.size);obtain ⟨b,o,ep,en,ec,rfl,hb,c0,c1,c2,c3,c4,hcr⟩:=IstRow.el (HL.out.below keepIst hbw) hx;have hen:en<=6000:=by have:=HCS.out x (List.mem_of_getElem? hx);have:=hcr.ln.1;omega
   obtain ⟨r,hr⟩:∃r,r=mayInstP p act x k n:=⟨_,rfl⟩;have HC:Hid (∀ W,Below wr.heap.size wr W->Calls Tryz.prog 59 #[.agg (pA s), .int .i64 act, .agg #[.int .u8 x.k, .int .i64 x.a, .int .i64 x.b, .slice ep en ec, .int .i64 x.to], .int .i64 (k:Int), .int .i64 (n:Int)] W fun e w'=>e= .returned (.bool r)/\Below W.heap.size W w'):=fun W h=>by rw[hr];exact HMI.out W k x ep en ec (hbw.trans (h.mono hbw.size)) (hcr.below keepNd h) hen
   have HRX:=hD (And.intro hx hr);obtain ⟨x0,e0⟩:∃z,z=x.k:=⟨_,rfl⟩;obtain ⟨x1,e1⟩:∃z,z=x.a:=⟨_,rfl⟩;obtain ⟨x2,e2⟩:∃z,z=x.b:=⟨_,rfl⟩;obtain ⟨x4,e4⟩:∃z,z=x.to:=⟨_,rfl⟩;rw[<- e0, <-e1, <-e2, <-e4] at HC;rw[<- e0] at c0;rw[<- e1] at c1;rw[<- e2] at c2;rw[<- e4] at c4;have HCE:Hid (∀ W,Below wr.heap.size wr W->(W.cell? ⟨w.heap.size,0,none⟩=some (.slice s.hp s.hn s.hc)/\W.cell? ⟨w.heap.size,1,none⟩=some (.slice s.mp s.mn s.mc)/\W.cell? ⟨w.heap.size,2,none⟩=some (.slice s.sp s.sn s.sc)/\W.cell? ⟨w.heap.size,3,none⟩=some (.slice s.ap s.an s.ac)/\W.cell? ⟨w.heap.size,4,none⟩=some (.slice s.tp s.tn s.tc)/\W.cell? ⟨w.heap.size,5,none⟩=some (.slice s.cp s.cn s.cc)/\W.cell? ⟨w.heap.size,6,none⟩=some (.slice s.ep s.en s.ec)/\W.cell? ⟨w.heap.size,7,none⟩=some (.slice s.v1 s.n1 s.c1)/\W.cell? ⟨w.heap.size,8,none⟩=some (.slice s.v2 s.n2 s.c2)/\W.cell? ⟨w.heap.size,9,none⟩=some (.slice s.v3 s.n3 s.c3)/\W.cell? ⟨w.heap.size,10,none⟩=some (.slice s.v4 s.n4 s.c4)/\W.cell? ⟨w.heap.size,11,none⟩=some (.slice s.v5 s.n5 s.c5))/\W.cell? ⟨b,o+k*5,none⟩=some (.int .u8 x0)/\W.cell? ⟨b,o+k*5+1,none⟩=some (.int .i64 x1)/\W.cell? ⟨b,o+k*5+2,none⟩=some (.int .i64 x2)/\W.cell? ⟨b,o+k*5+3,none⟩=some (.slice ep en ec)/\W.cell? ⟨b,o+k*5+4,none⟩=some (.int .i64 x4)):=fun W h=>
    ⟨(HPB.out.below (HW.out.trans (h.mono HW.out.size))).cells,(h.cell (p:=⟨b,o+k*5,none⟩) hb).trans c0,(h.cell (p:=⟨b,o+k*5+1,none⟩) hb).trans c1,(h.cell (p:=⟨b,o+k*5+2,none⟩) hb).trans c2,(h.cell (p:=⟨b,o+k*5+3,none⟩) hb).trans c3,(h.cell (p:=⟨b,o+k*5+4,none⟩) hb).trans c4⟩
   have hki:(k:Int)<(n:Int):=by omega
   clear e0 e1 e2 e4 hx hr hcr c0 c1 c2 c3 c4 hbw;go_upto_region 6 with fail
   cases r
   ·skip;refine roB wr ?_;refine stq ?_ (fun aa ww ll hh=>?_) ?_;rotate_left
    ·have e3:=hh.oL 3;obtain ⟨⟨q0,q1,q2,q3,q4,q5,q6,q7,q8,q9,q10,q11⟩,c0,c1,c2,c3,c4⟩:=HCE.out ww hh.inv;exact ov gX
    refine stq ?_ (fun aa ww ll hh=>?_) ?_;rotate_left
    ·have e1:=hh.oL 1;refine ov ?_;rw[xmv e1]
    refine stq ?_ (fun aa ww ll hh=>?_) ?_;rotate_left
    ·have e2:=hh.oL 2;refine ov ?_;rw[xmv e2]
    refine stq ?_ (fun aa ww ll hh=>?_) ?_;rotate_left
    ·have e7:=hh.oL 7;refine ov ?_;rw[xmv e7]
    refine stq ?_ (fun aa ww ll hh=>?_) ?_;rotate_left
    ·have e19:=hh.gt 2 1;have e20:=hh.gt 3 0;exact ov gX
    refine stq ?_ (fun aa ww ll hh=>?_) ?_;rotate_left
    ·have e21:=hh.gt 4 0;obtain ⟨⟨q0,q1,q2,q3,q4,q5,q6,q7,q8,q9,q10,q11⟩,c0,c1,c2,c3,c4⟩:=HCE.out ww hh.inv;exact ov gX
    refine stq ?_ (fun aa ww ll hh=>?_) ?_;rotate_left
    ·have e7:=hh.oL 7;refine ov ?_;rw[xmv e7]
    refine stq ?_ (fun aa ww ll hh=>?_) ?_;rotate_left
    ·have e2:=hh.oL 2;refine ov ?_;rw[xmv e2]
    refine stq ?_ (fun aa ww ll hh=>?_) ?_;rotate_left
    ·have e24:=hh.gt 7 0;obtain ⟨⟨q0,q1,q2,q3,q4,q5,q6,q7,q8,q9,q10,q11⟩,c0,c1,c2,c3,c4⟩:=HCE.out ww hh.inv;exact ov gX
    refine ⟨.eq (.bool false),trivial,rfl,fun aa ww ll hh=>?_,?_⟩
    ·have e17:=hh.gt 0 8;have e18:=hh.gt 1 7;have e22:=hh.gt 5 3;have e23:=hh.gt 6 2;have e25:=hh.gt 8 0;have ef:=evf aa;refine out_call_eq (wanted_none rfl) ?_ (HC.out ww hh.inv);exact gX
    refine stq ?_ (fun aa ww ll hh=>?_) ?_;rotate_left
    ·have e26:=hh.gt 9 0;exact ov gX
    intro ll w3 hS hok;clear hok;simp only[List.reverse_cons,List.reverse_nil,List.nil_append,List.cons_append,layO,Out.val,Act.put,List.setIfInBounds_toArray,List.set_cons_zero,List.set_cons_succ];go_wp2_with fail;go_ret;refine ⟨?_,HB0.out.trans ((HW.out.trans (hS.mono HW.out.size)).mono HB0.out.size)⟩;have e:R=false:=by
     rw[HR.out,Bool.eq_false_iff];intro hc;have:=(allIdx_iff.1 hc) k x HRX.out.1;rw[Nat.zero_add, <-HRX.out.2] at this;cases this
    rw[e];rfl
   ·skip;refine roB wr ?_;refine stq ?_ (fun aa ww ll hh=>?_) ?_;rotate_left
    ·have e3:=hh.oL 3;obtain ⟨⟨q0,q1,q2,q3,q4,q5,q6,q7,q8,q9,q10,q11⟩,c0,c1,c2,c3,c4⟩:=HCE.out ww hh.inv;exact ov gX
    refine stq ?_ (fun aa ww ll hh=>?_) ?_;rotate_left
    ·have e1:=hh.oL 1;refine ov ?_;rw[xmv e1]
    refine stq ?_ (fun aa ww ll hh=>?_) ?_;rotate_left
    ·have e2:=hh.oL 2;refine ov ?_;rw[xmv e2]
    refine stq ?_ (fun aa ww ll hh=>?_) ?_;rotate_left
    ·have e7:=hh.oL 7;refine ov ?_;rw[xmv e7]
    refine stq ?_ (fun aa ww ll hh=>?_) ?_;rotate_left
    ·have e19:=hh.gt 2 1;have e20:=hh.gt 3 0;exact ov gX
    refine stq ?_ (fun aa ww ll hh=>?_) ?_;rotate_left
    ·have e21:=hh.gt 4 0;obtain ⟨⟨q0,q1,q2,q3,q4,q5,q6,q7,q8,q9,q10,q11⟩,c0,c1,c2,c3,c4⟩:=HCE.out ww hh.inv;exact ov gX
    refine stq ?_ (fun aa ww ll hh=>?_) ?_;rotate_left
    ·have e7:=hh.oL 7;refine ov ?_;rw[xmv e7]
    refine stq ?_ (fun aa ww ll hh=>?_) ?_;rotate_left
    ·have e2:=hh.oL 2;refine ov ?_;rw[xmv e2]
    refine stq ?_ (fun aa ww ll hh=>?_) ?_;rotate_left
    ·have e24:=hh.gt 7 0;obtain ⟨⟨q0,q1,q2,q3,q4,q5,q6,q7,q8,q9,q10,q11⟩,c0,c1,c2,c3,c4⟩:=HCE.out ww hh.inv;exact ov gX
    refine ⟨.eq (.bool true),trivial,rfl,fun aa ww ll hh=>?_,?_⟩
    ·have e17:=hh.gt 0 8;have e18:=hh.gt 1 7;have e22:=hh.gt 5 3;have e23:=hh.gt 6 2;have e25:=hh.gt 8 0;have ef:=evf aa;refine out_call_eq (wanted_none rfl) ?_ (HC.out ww hh.inv);exact gX
    refine stq ?_ (fun aa ww ll hh=>?_) ?_;rotate_left
    ·have e26:=hh.gt 9 0;exact ov gX
    intro ll w3 hS hok;clear hok;simp only[List.reverse_cons,List.reverse_nil,List.nil_append,List.cons_append,layO,Out.val,Act.put,List.setIfInBounds_toArray,List.set_cons_zero,List.set_cons_succ];go_wp2_with fail;go_roundw
    case rel=>exact ⟨k+1,by omega,by go_num,HW.out.trans (hS.mono HW.out.size),fun j y hj hy=>by
     rcases Nat.lt_or_ge j k with h|h
     ·exact HQ.out j y h hy
     ·obtain rfl:j=k:=by omega
      rw[HRX.out.1] at hy;cases hy
      exact HRX.out.2.symm⟩
    case measure=>simp[intOf];omega
  ·obtain rfl:k=n:=by omega
   go_wp2_with fail;go_ret;refine ⟨?_,HB0.out.trans (HW.out.mono HB0.out.size)⟩;have e:R=true:=by
    rw[HR.out];exact allIdx_iff.2 fun j x hj=>by
     rw[Nat.zero_add];exact HQ.out j x (by have:=(List.getElem?_eq_some_iff.1 hj).1;have:=HN.out;omega) hj
   rw[e];rfl
open Go.RowKit
def headOk (p:Prg) (i:Nat) (l:List Int):Bool:=decide (1<=l.length/\l.length<=16)&&l.all okP&&decide (sumI l%8=0/\sumI l<=256/\(p.nf.getD i []).length=l.length)
theorem foldl_add (a:Int):∀l:List Int,l.foldl (·+·) a=a+l.foldl (·+·) 0
 |[]=>by simp
 |x::l=>by
  rw[List.foldl_cons,List.foldl_cons,foldl_add (a+x) l,foldl_add (0+x) l];omega
theorem sumI_snoc {l:List Int} {k:Nat} (hk:k<l.length):sumI (l.take (k+1))=sumI (l.take k)+l.getD k 0:=by
 rw[List.take_add_one,List.getElem?_eq_getElem hk];unfold sumI;rw[List.foldl_append,List.getD_eq_getElem?_getD,List.getElem?_eq_getElem hk];rfl
theorem sumI_ok:∀{l:List Int},l.all okP=true->0<=sumI l/\sumI l<=128*(l.length:Int)
 |[],_=>by simp[sumI]
 |x::l,h=>by
  rw[List.all_cons,Bool.and_eq_true] at h;obtain ⟨h1,h2⟩:=h;have h3:0<x/\x<129:=by unfold okP at h1;simpa using h1
  have h4:=sumI_ok h2;have e:sumI (x::l)=x+sumI l:=by unfold sumI;rw[List.foldl_cons,foldl_add (0+x)];omega
  rw[e,List.length_cons];omega
theorem wrap_add (a b:Int):wrap64 (wrap64 a+b)=wrap64 (a+b):=by unfold wrap64;omega
theorem StsRow.el {w:World} {p:Option Addr} {n c:Nat} {l:List (List ByteArray)} (h:StsRow w (.slice p n c) l) {j:Nat} (hj:j<l.length):∃b o p1 n1 c1,p=some ⟨b,o,none⟩/\b<w.heap.size/\w.cell? ⟨b,o+j,none⟩=some (.slice p1 n1 c1)/\n1=(l.getD j []).length:=by
 obtain ⟨b,o,e,h1,p1,n1,c1,h2,h3⟩:=h.get (some_getD [] hj);rw[Nat.mul_one] at h2;exact ⟨b,o,p1,n1,c1,e,h1,h2,h3.ln.1⟩
theorem heads_any (s:PgS) (p:Prg) (w:World) (hp:PgOk w s p) (hS:Sm p):
 Calls Tryz.prog 33 #[pgV s] w fun e w'=>e= .returned (.bool (headsP p))/\Below w.heap.size w w':=by
 obtain ⟨R,hR⟩:∃R,R=headsP p:=⟨_,rfl⟩;rw[<- hR];have HP:=hD hp;have HS:=hD hS;have HR:=hD hR;obtain ⟨hd1,hd2,hd3,-⟩:=hp.heads.ln;obtain ⟨hh1,hh2,hh3,-⟩:=hp.nh.ln;obtain ⟨hf1,hf2,hf3,-⟩:=hp.nf.ln;have hds:=hS.heads;rw[<- hd1] at hds;have HL:=hD (And.intro hd1 (And.intro hh1 hf1));clear hR hp hS hd1 hh1 hf1;unfold pgV;go_enter Tryz.func33,Tryz.ntmps33;go_upto_region 1 with fail
 obtain ⟨W0,hW0⟩:∃W0,W0=w.alloc (.cells (pA s) 33):=⟨_,rfl⟩;have HB0:Hid (Below w.heap.size w W0):=by show Below _ _ _;rw[hW0];exact (by repeat (first|exact Below.refl _ _|assumption|refine Below.drew ?_|refine blA ?_|refine blS ?_|refine blT ?_ (by assumption)))
 have HPB:Hid (PBox W0 w.heap.size s):=by show _=_;rw[hW0];exact heap_new _ _
 rw[<- hW0];clear hW0;obtain ⟨q0,-,-,-,-,-,-,q7,q8,-,-,-⟩:=HPB.out.cells;by_cases hbig:s.hn<=8/\s.n1=s.hn/\s.n2=s.hn
 ·obtain ⟨hb1,hb2,hb3⟩:=hbig;have hbi:¬(8:Int)<(s.hn:Int):=by omega
  have hR2:R=allIdx (headOk p) 0 p.heads:=by
   obtain ⟨l1,l2,l3⟩:=HL.out;rw[HR.out];unfold headsP;rw[decide_eq_true (by omega),Bool.true_and];rfl
  have HR2:=hD hR2;have hb2i:(s.n1:Int)=(s.hn:Int):=by omega
  have hb3i:(s.n2:Int)=(s.hn:Int):=by omega
  clear hR2 hb2 hb3;go_wp2_with fail;go_loopw [3] (fun i wr=>∃k:Nat,k<=s.hn/\i= .int .i64 k/\Hid (Below W0.heap.size W0 wr)/\Hid (∀ j l,j<k->p.heads[j]?=some l->headOk p j l=true)) (fun i _=>s.hn-(intOf i).toNat)
  case atStart=>exact ⟨0,Nat.zero_le _,rfl,Below.refl _ _,fun j _ hj=>absurd hj (by omega)⟩
  case round=>
   obtain ⟨k,hk,rfl,HW,HQ⟩:=hrel;clear q0 q7 q8;obtain ⟨q0,-,-,-,-,-,-,q7,q8,-,-,-⟩:=(HPB.out.below HW.out).cells;by_cases hlt:k<s.hn
   ·obtain ⟨hd,hdq⟩:∃l,p.heads[k]?=some l:=⟨_,List.getElem?_eq_getElem (by have:=HL.out.1;omega)⟩;have hbw:=HB0.out.trans (HW.out.mono HB0.out.size);obtain ⟨b,o,p1,nr,c1,hps,hbl,hcell,hrow⟩:=IsRow.el (HP.out.heads.below keepIs hbw) (j:=k) (by have:=HL.out.1;omega);rw[getD_some hdq] at hrow;obtain ⟨fb,fo,fp,fn,fc,hfs,hfb,hfc,hfn⟩:=StsRow.el (HP.out.nf.below keepSts hbw) (j:=k) (by have:=HL.out;omega);obtain ⟨hnr,hn2,hn3,-⟩:=hrow.ln;have hnl:nr<=6000:=by rw[hnr];exact HS.out.head _ (List.mem_of_getElem? hdq)
    have HROW:=hD hrow;have HNR:=hD hnr;have HFN:=hD hfn;have HDQ:=hD hdq;obtain ⟨ra,hra⟩:∃ra,ra=hd.all okP:=⟨_,rfl⟩;have HWD:Hid (∀ W,Below wr.heap.size wr W->Calls Tryz.prog 34 #[.slice p1 nr c1] W fun e w'=>e= .returned (.bool ra)/\Below W.heap.size W w'):=fun W h=>by rw[hra];exact widths10_any hd _ _ _ W (hrow.below keepI h) (by omega)
    have HRA:=hD hra;rw[hps] at q0;rw[hfs] at q8;have HFS:=hD hfs;have hkn:(k:Int)<(s.n2:Int):=by omega
    have hki:(k:Int)<(s.hn:Int):=by omega
    clear hrow hnr hfn hdq hra hps hfs hbw;go_wp2_with fail;go_loopw [5,6] (fun u i wq=>∃z:Nat,z<=nr/\i= .int .i64 z/\u= .int .i64 (wrap64 (sumI (hd.take z)))/\wq=wr) (fun _ i _=>nr-(intOf i).toNat)
    case atStart=>exact ⟨0,Nat.zero_le _,rfl,by simp[sumI,wrap64],rfl⟩
    case round=>
     obtain ⟨z,hz,rfl,rfl,rfl⟩:=hrel;by_cases hzl:z<nr
     ·obtain ⟨rb,ro,rfl,-,hrc⟩:=IRow.el HROW.out (j:=z) (by have:=HNR.out;omega);have hsn:=sumI_snoc (l:=hd) (k:=z) (by have:=HNR.out;omega);obtain ⟨v,hv⟩:∃v,v=hd.getD z 0:=⟨_,rfl⟩;rw[<- hv] at hrc hsn;have HSN:=hD hsn;obtain ⟨S,hSq⟩:∃S,S=sumI (hd.take z):=⟨_,rfl⟩;rw[<- hSq];have HSQ:=hD hSq;have hwa:=wrap_add S v;clear hsn hSq hv;go_wp2_with fail;go_roundw
      case rel=>exact ⟨z+1,by omega,by go_num,by rw[HSN.out, <-HSQ.out];first|rfl|simp[hwa],(by first|trivial|rfl)⟩
      case measure=>simp[intOf];omega
     ·obtain rfl:z=nr:=by omega
      have hall:hd.take z=hd:=List.take_of_length_le (by have:=HNR.out;omega);rw[hall];clear hall;have hbel:=HB0.out.trans (HW.out.mono HB0.out.size);have HBE:=hD hbel;clear hbel;by_cases h1:1<=z/\z<=16
      ·have h1a:¬(z:Int)<1:=by omega
       have h1b:¬(16:Int)<(z:Int):=by omega
       cases ra
       ·have hr:R=false:=by
         rw[HR2.out,Bool.eq_false_iff];intro hc;have:=(allIdx_iff.1 hc) k hd HDQ.out;unfold headOk at this;rw[<- HRA.out] at this;simp at this
        go_wp2_with (go_at_call 34;refine (HWD.out _ (Below.refl _ _)).mono ?_;rintro e w1 ⟨rfl,hb1⟩;have HB1:=hD hb1;clear hb1);go_ret;exact ⟨by first|rfl|(rw[hr];rfl),HBE.out.trans (HB1.out.mono HBE.out.size)⟩
       ·obtain ⟨S,hSq⟩:∃S,S=sumI hd:=⟨_,rfl⟩;have hso:=sumI_ok HRA.out.symm;rw[<- hSq] at hso;have hsz:0<=S/\S<=2048:=by have:=HNR.out;omega
        have hws:wrap64 S=S:=wrapS (by omega) (by omega);rw[<- hSq,hws];have HSQ:=hD hSq;have hsm:S.tmod 8=S%8:=Int.tmod_eq_emod_of_nonneg (by omega);have hok:headOk p k hd=decide (S%8=0/\S<=256/\fn=z):=by
         unfold headOk;rw[decide_eq_true (by have:=HNR.out;omega), <-HRA.out, <-hSq,HFN.out,HNR.out];rfl
        have HOK:=hD hok;have HSZ:=hD hsz;clear hso hSq hok;by_cases hg:S%8=0/\S<=256/\fn=z
        ·obtain ⟨g1,g2,g3⟩:=hg;have g2b:¬256<S:=by omega
         have g3i:(fn:Int)=(z:Int):=by omega
         have HG:=hD (And.intro g1 (And.intro g2 g3));clear g3;have hm8:S.tmod 8=0:=hsm.trans g1;go_wp2_with (go_at_call 34;refine (HWD.out _ (Below.refl _ _)).mono ?_;rintro e w1 ⟨rfl,hb1⟩;have HB1:=hD hb1;have hpc:=(HPB.out.below (HW.out.trans (hb1.mono HW.out.size))).cells;obtain ⟨q0,-,-,-,-,-,-,q7,q8,-,-,-⟩:=hpc;have hfc1:=(hb1.cell (p:=⟨fb,fo+k,none⟩) (Nat.lt_of_lt_of_le hfb (Nat.le_refl _))).trans hfc;rw[HFS.out] at q8;clear hb1);go_roundw
         case rel=>exact ⟨k+1,by omega,by go_num,HW.out.trans (HB1.out.mono HW.out.size),fun j l hj hl=>by
          rcases Nat.lt_or_ge j k with h|h
          ·exact HQ.out j l h hl
          ·obtain rfl:j=k:=by omega
           rw[HDQ.out] at hl;cases hl
           rw[HOK.out];exact decide_eq_true HG.out⟩
         case measure=>simp[intOf];omega
        ·have hr:R=false:=by
          rw[HR2.out,Bool.eq_false_iff];intro hc;have:=(allIdx_iff.1 hc) k hd HDQ.out;rw[Nat.zero_add,HOK.out] at this;exact hg (of_decide_eq_true this)
         have hbad:(¬ S%8=0/\¬S.tmod 8=0)\/(S%8=0/\S.tmod 8=0/\256<S)\/(S%8=0/\S.tmod 8=0/\¬256<S/\¬(fn:Int)=(z:Int)):=by rw[hsm];omega
         clear hsm;rcases hbad with ⟨g1,g2⟩|⟨g1,g2,g3⟩|⟨g1,g2,g3,g4⟩
         all_goals
          try have g9:((fn:Int)!=(z:Int))=true:=bne_iff_ne.2 g4
          go_wp2_with (go_at_call 34;refine (HWD.out _ (Below.refl _ _)).mono ?_;rintro e w1 ⟨rfl,hb1⟩;have HB1:=hD hb1;have hpc:=(HPB.out.below (HW.out.trans (hb1.mono HW.out.size))).cells;obtain ⟨q0,-,-,-,-,-,-,q7,q8,-,-,-⟩:=hpc;have hfc1:=(hb1.cell (p:=⟨fb,fo+k,none⟩) (Nat.lt_of_lt_of_le hfb (Nat.le_refl _))).trans hfc;rw[HFS.out] at q8;clear hb1);go_ret;exact ⟨by first|rfl|(rw[hr];rfl),HBE.out.trans (HB1.out.mono HBE.out.size)⟩
      ·have hr:R=false:=by
        rw[HR2.out,Bool.eq_false_iff];intro hc;have:=(allIdx_iff.1 hc) k hd HDQ.out;unfold headOk at this;rw[decide_eq_false (by have:=HNR.out;omega)] at this;simp at this
       rcases (show (z:Int)<1\/(¬ (z:Int)<1/\16<(z:Int)) by omega) with g1|⟨g1,g2⟩
       all_goals
        go_wp2_with fail;go_ret;exact ⟨by first|rfl|(rw[hr];rfl),HBE.out⟩
   ·obtain rfl:k=s.hn:=by omega
    go_wp2_with fail;go_ret;refine ⟨?_,HB0.out.trans (HW.out.mono HB0.out.size)⟩;have e:R=true:=by
     rw[HR2.out];exact allIdx_iff.2 fun j l hj=>by
      rw[Nat.zero_add];exact HQ.out j l (by have:=(List.getElem?_eq_some_iff.1 hj).1;have:=HL.out.1;omega) hj
    rw[e];rfl
 ·have hr:R=false:=by
   obtain ⟨l1,l2,l3⟩:=HL.out;rw[HR.out];unfold headsP;rw[decide_eq_false (by omega)];rfl
  rcases (show 8<(s.hn:Int)\/(¬ 8<(s.hn:Int)/\¬(s.n1:Int)=(s.hn:Int))\/(¬ 8<(s.hn:Int)/\(s.n1:Int)=(s.hn:Int)/\¬(s.n2:Int)=(s.hn:Int)) by omega) with g1|⟨g1,g2⟩|⟨g1,g2,g3⟩
  all_goals
   go_wp2_with fail;go_ret;exact ⟨by first|rfl|(rw[hr];rfl),HB0.out⟩
open Go.RowKit
def TBox (w:World) (g:Nat) (kp:Option Addr) (kn kc:Nat) (up:Option Addr) (un uc:Nat) (lp:Option Addr) (ln lc:Nat) (da:Int) (gp:Option Addr) (gn gc:Nat):Prop:=w.heap[g]?=some (.cells #[.slice kp kn kc, .slice up un uc, .slice lp ln lc, .int .i64 da, .slice gp gn gc] 54 (0,0))
section
variable {w w':World} {g:Nat} {kp up lp gp:Option Addr} {kn kc un uc ln lc gn gc:Nat} {da:Int}
theorem TBox.cells (h:TBox w g kp kn kc up un uc lp ln lc da gp gn gc):w.cell? ⟨g,0,none⟩=some (.slice kp kn kc)/\w.cell? ⟨g,1,none⟩=some (.slice up un uc)/\w.cell? ⟨g,2,none⟩=some (.slice lp ln lc)/\w.cell? ⟨g,3,none⟩=some (.int .i64 da)/\w.cell? ⟨g,4,none⟩=some (.slice gp gn gc):=by
 unfold TBox at h;refine ⟨?_,?_,?_,?_,?_⟩<;>simp[World.cell?,h]
theorem TBox.below (h:TBox w g kp kn kc up un uc lp ln lc da gp gn gc) (hb:Below w.heap.size w w'):TBox w' g kp kn kc up un uc lp ln lc da gp gn gc:=(hb.block g (Array.getElem?_eq_some_iff.1 h).1).trans h
end
theorem filter_snoc {l:List Int} {k:Nat} (hk:k<l.length):((l.take (k+1)).filter fun z=>decide (z=2)).length=((l.take k).filter fun z=>decide (z=2)).length+(if l.getD k 0=2 then 1 else 0):=by
 rw[List.take_add_one,List.getElem?_eq_getElem hk,List.filter_append,List.length_append,List.getD_eq_getElem?_getD,List.getElem?_eq_getElem hk];congr 1;simp only[Option.toList,Option.getD,List.filter_cons,List.filter_nil];by_cases h:l[k]=2<;>simp[h]
theorem CsRow.el {w:World} {p:Option Addr} {n c:Nat} {l:List (List Nod)} (h:CsRow w (.slice p n c) l) {j:Nat} {x:List Nod} (hj:l[j]?=some x):∃b o p1 n1 c1,p=some ⟨b,o,none⟩/\b<w.heap.size/\w.cell? ⟨b,o+j,none⟩=some (.slice p1 n1 c1)/\CRow w (.slice p1 n1 c1) x:=by
 obtain ⟨b,o,e,h1,p1,n1,c1,h2,h3⟩:=h.get hj;rw[Nat.mul_one] at h2;exact ⟨b,o,p1,n1,c1,e,h1,h2,h3⟩
theorem URow.el {w:World} {p:Option Addr} {n c:Nat} {l:List Int} (h:URow w (.slice p n c) l) {j:Nat} (hj:j<l.length):∃b o,p=some ⟨b,o,none⟩/\b<w.heap.size/\w.cell? ⟨b,o+j,none⟩=some (.int .u8 (l.getD j 0)):=by
 obtain ⟨b,o,e,h1,h2⟩:=h.get (some_getD 0 hj);rw[Nat.mul_one] at h2;exact ⟨b,o,e,h1,h2⟩
def keyOk (p:Prg) (kinds:List Int) (i:Nat) (c:List Nod):Bool:=(widthP p (-1) c).isSome&&decide (1<=kinds.getD i 0/\kinds.getD i 0<=3)
theorem mayTab_any (s:PgS) (p:Prg) (t:Tbl) (kp:Option Addr) (kn kc:Nat) (up:Option Addr) (un uc:Nat) (lp:Option Addr) (ln lc:Nat) (gp:Option Addr) (gn gc:Nat) (w:World) (hp:PgOk w s p) (hS:Sm p)
 (hk:CsRow w (.slice kp kn kc) t.keys) (hu:URow w (.slice up un uc) t.kinds) (hl:IRow w (.slice lp ln lc) t.acts) (hg:NRow w (.slice gp gn gc) t.dargs) (hkn:kn<=6000) (hcs:∀c∈t.keys,c.length<=6000) (hln:ln<=6000) (hgn:gn<=6000):
 Calls Tryz.prog 39 #[pgV s, .agg #[.slice kp kn kc, .slice up un uc, .slice lp ln lc, .int .i64 t.dact, .slice gp gn gc]] w fun e w'=>e= .returned (.bool (mayTabP p t))/\Below w.heap.size w w':=by
 obtain ⟨R,hR⟩:∃R,R=mayTabP p t:=⟨_,rfl⟩;rw[<- hR];obtain ⟨hk1,hk2,hk3,-⟩:=hk.ln;obtain ⟨hu1,hu2,hu3,-⟩:=hu.ln;obtain ⟨hl1,hl2,hl3,-⟩:=hl.ln;obtain ⟨ha1,-,-,-⟩:=hp.acts.ln;obtain ⟨rl,hrl⟩:∃r,r=listsP (p.acts.length:Int) [] t.acts:=⟨_,rfl⟩;obtain ⟨rm,hrm⟩:∃r,r=mayRunP p t.acts t.dact t.dargs:=⟨_,rfl⟩;have hR2:R=(decide (1<=kn/\kn<=4/\un=kn/\1<=ln/\ln<=16)&&rl&&allIdx (keyOk p t.kinds) 0 t.keys&&decide ((t.kinds.filter fun z=>decide (z=2)).length<2)&&rm):=by
  rw[hR,hrl,hrm,hk1,hu1,hl1];rfl
 have HR:=hD hR2;have HP:=hD hp;have HK:=hD hk;have HU:=hD hu;have HE:=hD (And.intro hk1 hu1);have HCS:=hD hcs;obtain ⟨da,hda⟩:∃da,da=t.dact:=⟨_,rfl⟩;have HLI:Hid (∀ W,Below w.heap.size w W->Calls Tryz.prog 35 #[.slice lp ln lc, .int .i64 (s.an:Int)] W fun e w'=>e= .returned (.bool rl)/\Below W.heap.size W w'):=fun W h=>by rw[hrl,ha1];exact lists_any t.acts lp ln lc _ W (hl.below keepI h) hln
 have HMR:Hid (∀ W,Below w.heap.size w W->Calls Tryz.prog 62 #[pgV s, .slice lp ln lc, .agg #[.int .i64 da, .slice gp gn gc]] W fun e w'=>e= .returned (.bool rm)/\Below W.heap.size W w'):=fun W h=>by rw[hrm,hda];exact mayRun_any s p t.acts lp ln lc _ t.dargs gp gn gc W (hp.below h) hS (hl.below keepI h) hln (hg.below keepN h) (by omega)
 have HWD:Hid (∀ W c cp cn cc,Below w.heap.size w W->CRow W (.slice cp cn cc) c->cn<=6000->Calls Tryz.prog 60 #[pgV s, .int .i64 (-1), .slice cp cn cc] W fun e w'=>e= .returned (wRes (widthP p (-1) c))/\Below W.heap.size W w'):=fun W c cp cn cc h hc hn=>width_any s p (-1) c cp cn cc W (hp.below h) hS hc hn
 rw[<- hda];clear hR hR2 hrl hrm hp hS hk hu hl hg hcs hda hk1 hu1 hl1 ha1;unfold pgV at HMR HWD⊢;go_enter Tryz.func39,Tryz.ntmps39;go_upto_region 1 with fail
 obtain ⟨W0,hW0⟩:∃W0,W0=(w.alloc (.cells (pA s) 33)).alloc (.cells #[.slice kp kn kc, .slice up un uc, .slice lp ln lc, .int .i64 da, .slice gp gn gc] 54):=⟨_,rfl⟩;have HB0:Hid (Below w.heap.size w W0):=by show Below _ _ _;rw[hW0];exact (by repeat (first|exact Below.refl _ _|assumption|refine Below.drew ?_|refine blA ?_|refine blS ?_|refine blT ?_ (by assumption)))
 have HPB:Hid (PBox W0 w.heap.size s):=by show _=_;rw[hW0,Below.heap_alloc _ _ _ (by simp)];exact heap_new _ _
 have HTB:Hid (TBox W0 (w.heap.size+1) kp kn kc up un uc lp ln lc da gp gn gc):=by
  show _=_;rw[hW0];have:=heap_new (w.alloc (.cells (pA s) 33)) (.cells #[.slice kp kn kc, .slice up un uc, .slice lp ln lc, .int .i64 da, .slice gp gn gc] 54);simp only[World.size_alloc] at this;exact this
 rw[<- hW0];clear hW0;obtain ⟨q0,q1,q2,q3,q4,q5,q6,q7,q8,q9,q10,q11⟩:=HPB.out.cells;obtain ⟨t0,t1,t2,t3,t4⟩:=HTB.out.cells;by_cases hA:1<=kn/\kn<=4/\un=kn/\1<=ln/\ln<=16
 ·obtain ⟨a1,a2,a3,a4,a5⟩:=hA;have HA:=hD (And.intro a1 (And.intro a2 (And.intro a3 (And.intro a4 a5))));have b1:¬(kn:Int)<1:=by omega
  have b2:¬(4:Int)<(kn:Int):=by omega
  have b3:(un:Int)=(kn:Int):=by omega
  have b4:¬(ln:Int)<1:=by omega
  have b5:¬(16:Int)<(ln:Int):=by omega
  have HUN:=hD a3;clear a3;cases rl
  ·have hr:R=false:=by rw[HR.out];simp
   go_wp2_with (go_at_call 35;refine (HLI.out _ HB0.out).mono ?_;rintro e w1 ⟨rfl,hb1⟩;have HB1:=hD hb1;clear hb1);go_ret;exact ⟨by first|rfl|(rw[hr];rfl),HB0.out.trans (HB1.out.mono HB0.out.size)⟩
  ·have hR3:R=(allIdx (keyOk p t.kinds) 0 t.keys&&decide ((t.kinds.filter fun z=>decide (z=2)).length<2)&&rm):=by
    rw[HR.out,decide_eq_true HA.out];rfl
   have HR3:=hD hR3;clear hR3;go_upto_region 3 with (go_at_call 35;refine (HLI.out _ HB0.out).mono ?_;rintro e w1 ⟨rfl,hb1⟩;have HB1:=hD hb1;clear hb1)
   clear q0 q1 q2 q3 q4 q5 q6 q7 q8 q9 q10 q11 t0 t1 t2 t3 t4;go_wp2_with fail;go_loopw [5,6] (fun u i wr=>∃k:Nat,k<=kn/\i= .int .i64 k/\u= .int .i64 (((t.kinds.take k).filter fun z=>decide (z=2)).length:Int)/\Hid (Below W0.heap.size W0 wr)/\Hid (∀ j c,j<k->t.keys[j]?=some c->keyOk p t.kinds j c=true)) (fun _ i _=>kn-(intOf i).toNat)
   case atStart=>exact ⟨0,Nat.zero_le _,rfl,by simp,HB1.out,fun j _ hj=>absurd hj (by omega)⟩
   case round=>
    obtain ⟨k,hkk,rfl,rfl,HW,HQ⟩:=hrel;have hbw:=HB0.out.trans (HW.out.mono HB0.out.size);obtain ⟨q0,q1,q2,q3,q4,q5,q6,q7,q8,q9,q10,q11⟩:=(HPB.out.below HW.out).cells;obtain ⟨t0,t1,t2,t3,t4⟩:=(HTB.out.below HW.out).cells;obtain ⟨F,hF⟩:∃F,F=((t.kinds.take k).filter fun z=>decide (z=2)).length:=⟨_,rfl⟩;have hFk:F<=k:=by rw[hF];exact Nat.le_trans (List.length_filter_le _ _) (by rw[List.length_take];omega)
    rw[<- hF];have HF:=hD hF;clear hF;by_cases hlt:k<kn
    ·obtain ⟨c,hc⟩:∃c,t.keys[k]?=some c:=⟨_,List.getElem?_eq_getElem (by have:=HE.out.1;omega)⟩;obtain ⟨kb,ko,cp,cn,cc,hkp,hkb,hkc,hcr⟩:=CsRow.el (HK.out.below keepCs hbw) hc;obtain ⟨ub,uo,hup,hub,huc⟩:=URow.el (HU.out.below keepU hbw) (j:=k) (by have:=HE.out.2;have:=HUN.out;omega);have hcn:cn<=6000:=by have:=HCS.out c (List.mem_of_getElem? hc);have:=hcr.ln.1;omega
     obtain ⟨u,hu⟩:∃u,u=t.kinds.getD k 0:=⟨_,rfl⟩;rw[<- hu] at huc;obtain ⟨o,ho⟩:∃o,o=widthP p (-1) c:=⟨_,rfl⟩;have hko:keyOk p t.kinds k c=(o.isSome&&decide (1<=u/\u<=3)):=by rw[ho,hu];rfl
     have hfs:=filter_snoc (l:=t.kinds) (k:=k) (by have:=HE.out.2;have:=HUN.out;omega);rw[<- HF.out, <-hu] at hfs;have HFS:=hD hfs;have HKO:=hD (And.intro hc hko);have HC:Hid (∀ W,Below wr.heap.size wr W->Calls Tryz.prog 60 #[.agg (pA s), .int .i64 (-1), .slice cp cn cc] W fun e w'=>e= .returned (wRes o)/\Below W.heap.size W w'):=fun W h=>by rw[ho];exact HWD.out W c cp cn cc (hbw.trans (h.mono hbw.size)) (hcr.below keepNd h) hcn
     have HCE:Hid (∀ W,Below wr.heap.size wr W->(W.cell? ⟨w.heap.size,0,none⟩=some (.slice s.hp s.hn s.hc)/\W.cell? ⟨w.heap.size,1,none⟩=some (.slice s.mp s.mn s.mc)/\W.cell? ⟨w.heap.size,2,none⟩=some (.slice s.sp s.sn s.sc)/\W.cell? ⟨w.heap.size,3,none⟩=some (.slice s.ap s.an s.ac)/\W.cell? ⟨w.heap.size,4,none⟩=some (.slice s.tp s.tn s.tc)/\W.cell? ⟨w.heap.size,5,none⟩=some (.slice s.cp s.cn s.cc)/\W.cell? ⟨w.heap.size,6,none⟩=some (.slice s.ep s.en s.ec)/\W.cell? ⟨w.heap.size,7,none⟩=some (.slice s.v1 s.n1 s.c1)/\W.cell? ⟨w.heap.size,8,none⟩=some (.slice s.v2 s.n2 s.c2)/\W.cell? ⟨w.heap.size,9,none⟩=some (.slice s.v3 s.n3 s.c3)/\W.cell? ⟨w.heap.size,10,none⟩=some (.slice s.v4 s.n4 s.c4)/\W.cell? ⟨w.heap.size,11,none⟩=some (.slice s.v5 s.n5 s.c5))/\W.cell? ⟨w.heap.size+1,0,none⟩=some (.slice (some ⟨kb,ko,none⟩) kn kc)/\W.cell? ⟨w.heap.size+1,1,none⟩=some (.slice (some ⟨ub,uo,none⟩) un uc)/\W.cell? ⟨kb,ko+k,none⟩=some (.slice cp cn cc)/\W.cell? ⟨ub,uo+k,none⟩=some (.int .u8 u)):=fun W h=>by
      obtain ⟨x0,x1,-,-,-⟩:=(HTB.out.below (HW.out.trans (h.mono HW.out.size))).cells;rw[hkp] at x0;rw[hup] at x1;exact ⟨(HPB.out.below (HW.out.trans (h.mono HW.out.size))).cells,x0,x1,(h.cell (p:=⟨kb,ko+k,none⟩) hkb).trans hkc,(h.cell (p:=⟨ub,uo+k,none⟩) hub).trans huc⟩
     have hki:(k:Int)<(kn:Int):=by omega
     have hku:(k:Int)<(un:Int):=by omega
     have hwF:wrap64 ((F:Int)+1)=(F:Int)+1:=wrapS (by omega) (by omega);rw[hkp] at t0;clear hc hcr hkc huc hu ho hko hfs hbw hkp hup;go_upto_region 7 with fail
     clear q0 q1 q2 q3 q4 q5 q6 q7 q8 q9 q10 q11 t0 t1 t2 t3 t4;cases o with
     |none=>
      have hr:R=false:=by
       rw[HR3.out];have:allIdx (keyOk p t.kinds) 0 t.keys=false:=by
        rw[Bool.eq_false_iff];intro hc;have:=(allIdx_iff.1 hc) k c HKO.out.1;rw[Nat.zero_add,HKO.out.2] at this;cases this
       rw[this];rfl
      refine roB wr ?_;refine stq ?_ (fun aa ww ll hh=>?_) ?_;rotate_left
      ·have e2:=hh.oL 2;obtain ⟨⟨q0,q1,q2,q3,q4,q5,q6,q7,q8,q9,q10,q11⟩,t0,t1,c0,c1⟩:=HCE.out ww hh.inv;exact ov gX
      refine stq ?_ (fun aa ww ll hh=>?_) ?_;rotate_left
      ·have e3:=hh.oL 3;exact ov gX
      refine stq ?_ (fun aa ww ll hh=>?_) ?_;rotate_left
      ·have e58:=hh.gt 1 0;obtain ⟨⟨q0,q1,q2,q3,q4,q5,q6,q7,q8,q9,q10,q11⟩,t0,t1,c0,c1⟩:=HCE.out ww hh.inv;exact ov gX
      refine stq ?_ (fun aa ww ll hh=>?_) ?_;rotate_left
      ·have e6:=hh.oL 6;refine ov ?_;rw[xmv e6]
      refine stq ?_ (fun aa ww ll hh=>?_) ?_;rotate_left
      ·have e59:=hh.gt 2 1;have e60:=hh.gt 3 0;exact ov gX
      refine stq ?_ (fun aa ww ll hh=>?_) ?_;rotate_left
      ·have e61:=hh.gt 4 0;obtain ⟨⟨q0,q1,q2,q3,q4,q5,q6,q7,q8,q9,q10,q11⟩,t0,t1,c0,c1⟩:=HCE.out ww hh.inv;exact ov gX
      refine ⟨.eq (.tuple #[.int .i64 0, .bool false]),trivial,rfl,fun aa ww ll hh=>?_,?_⟩
      ·have e57:=hh.gt 0 5;have e62:=hh.gt 5 0;have ef:=evf aa;have ec:=evc aa;refine out_call_eq (wanted_none rfl) ?_ (HC.out ww hh.inv);exact gX
      refine stm 6 0 ?_;refine stq ?_ (fun aa ww ll hh=>?_) ?_;rotate_left
      ·have e56:=hh.gt 7 0;exact ov gX
      refine stq ?_ (fun aa ww ll hh=>?_) ?_;rotate_left
      ·have e56:=hh.gt 7 1;exact ov gX
      refine stm 8 1 ?_;refine stm 9 1 ?_;intro ll w3 hS hok;clear hok;simp only[List.reverse_cons,List.reverse_nil,List.nil_append,List.cons_append,layO,Out.val,Act.put,List.setIfInBounds_toArray,List.set_cons_zero,List.set_cons_succ];go_wp2_with fail;go_ret;exact ⟨by first|rfl|(rw[hr];rfl),HB0.out.trans ((HW.out.trans (hS.mono HW.out.size)).mono HB0.out.size)⟩
     |some v=>
      refine roB wr ?_;refine stq ?_ (fun aa ww ll hh=>?_) ?_;rotate_left
      ·have e2:=hh.oL 2;obtain ⟨⟨q0,q1,q2,q3,q4,q5,q6,q7,q8,q9,q10,q11⟩,t0,t1,c0,c1⟩:=HCE.out ww hh.inv;exact ov gX
      refine stq ?_ (fun aa ww ll hh=>?_) ?_;rotate_left
      ·have e3:=hh.oL 3;exact ov gX
      refine stq ?_ (fun aa ww ll hh=>?_) ?_;rotate_left
      ·have e58:=hh.gt 1 0;obtain ⟨⟨q0,q1,q2,q3,q4,q5,q6,q7,q8,q9,q10,q11⟩,t0,t1,c0,c1⟩:=HCE.out ww hh.inv;exact ov gX
      refine stq ?_ (fun aa ww ll hh=>?_) ?_;rotate_left
      ·have e6:=hh.oL 6;refine ov ?_;rw[xmv e6]
      refine stq ?_ (fun aa ww ll hh=>?_) ?_;rotate_left
      ·have e59:=hh.gt 2 1;have e60:=hh.gt 3 0;exact ov gX
      refine stq ?_ (fun aa ww ll hh=>?_) ?_;rotate_left
      ·have e61:=hh.gt 4 0;obtain ⟨⟨q0,q1,q2,q3,q4,q5,q6,q7,q8,q9,q10,q11⟩,t0,t1,c0,c1⟩:=HCE.out ww hh.inv;exact ov gX
      refine ⟨.eq (.tuple #[.int .i64 v, .bool true]),trivial,rfl,fun aa ww ll hh=>?_,?_⟩
      ·have e57:=hh.gt 0 5;have e62:=hh.gt 5 0;have ef:=evf aa;have ec:=evc aa;refine out_call_eq (wanted_none rfl) ?_ (HC.out ww hh.inv);exact gX
      refine stm 6 0 ?_;refine stq ?_ (fun aa ww ll hh=>?_) ?_;rotate_left
      ·have e56:=hh.gt 7 0;exact ov gX
      refine stq ?_ (fun aa ww ll hh=>?_) ?_;rotate_left
      ·have e56:=hh.gt 7 1;exact ov gX
      refine stm 8 1 ?_;refine stm 9 1 ?_;intro ll w3 hS hok;clear hok;simp only[List.reverse_cons,List.reverse_nil,List.nil_append,List.cons_append,layO,Out.val,Act.put,List.setIfInBounds_toArray,List.set_cons_zero,List.set_cons_succ];have HS3:=hD hS;obtain ⟨-,t0,t1,t2,t3⟩:=HCE.out w3 hS;clear hS;by_cases hu13:1<=u/\u<=3
      ·obtain ⟨u1,u2⟩:=hu13;have u1n:¬u<1:=by omega
       have u2n:¬3<u:=by omega
       have HU13:=hD (And.intro u1 u2);clear u1 u2;by_cases u22:u=2
       ·subst u22;go_wp2_with fail;go_roundw
        case rel=>exact ⟨k+1,by omega,by go_num,by rw[HFS.out,if_pos rfl];first|rfl|(simp;done)|(simp[hwF];done)|(simp;exact wrapS (by omega) (by omega)),HW.out.trans (HS3.out.mono HW.out.size),fun j c' hj hc'=>by
         rcases Nat.lt_or_ge j k with h|h
         ·exact HQ.out j c' h hc'
         ·obtain rfl:j=k:=by omega
          rw[HKO.out.1] at hc';cases hc'
          rw[HKO.out.2];rfl⟩
        case measure=>simp[intOf];omega
       ·go_wp2_with fail;go_roundw
        case rel=>exact ⟨k+1,by omega,by go_num,by rw[HFS.out,if_neg u22];first|rfl|(simp;done)|(congr 1;omega),HW.out.trans (HS3.out.mono HW.out.size),fun j c' hj hc'=>by
         rcases Nat.lt_or_ge j k with h|h
         ·exact HQ.out j c' h hc'
         ·obtain rfl:j=k:=by omega
          rw[HKO.out.1] at hc';cases hc'
          rw[HKO.out.2,decide_eq_true HU13.out];rfl⟩
        case measure=>simp[intOf];omega
      ·have hr:R=false:=by
        rw[HR3.out];have:allIdx (keyOk p t.kinds) 0 t.keys=false:=by
         rw[Bool.eq_false_iff];intro hc;have:=(allIdx_iff.1 hc) k c HKO.out.1;rw[Nat.zero_add,HKO.out.2,decide_eq_false hu13] at this;cases this
        rw[this];rfl
       rcases (show u<1\/(¬ u<1/\3<u) by omega) with g1|⟨g1,g2⟩
       all_goals
        go_wp2_with fail;go_ret;exact ⟨by first|rfl|(rw[hr];rfl),HB0.out.trans ((HW.out.trans (HS3.out.mono HW.out.size)).mono HB0.out.size)⟩
    ·obtain rfl:k=kn:=by omega
     have hal:allIdx (keyOk p t.kinds) 0 t.keys=true:=allIdx_iff.2 fun j c hj=>by
      rw[Nat.zero_add];exact HQ.out j c (by have:=(List.getElem?_eq_some_iff.1 hj).1;have:=HE.out.1;omega) hj
     have hFF:F=(t.kinds.filter fun z=>decide (z=2)).length:=by rw[HF.out,List.take_of_length_le (by have:=HE.out.2;have:=HUN.out;omega)]
     have hR4:R=(decide (F<2)&&rm):=by rw[HR3.out,hal,hFF];rfl
     have HR4:=hD hR4;clear hR4 hFF hal;by_cases hF2:F<2
     ·have hF2i:(F:Int)<2:=by omega
      go_wp2_with (go_at_call 62;refine (HMR.out _ hbw).mono ?_;rintro e w5 ⟨rfl,hb5⟩;have HB5:=hD hb5;clear hb5);go_ret;refine ⟨?_,hbw.trans (HB5.out.mono hbw.size)⟩;rw[HR4.out,decide_eq_true hF2];cases rm<;>rfl
     ·have hF2i:¬(F:Int)<2:=by omega
      go_wp2_with fail;go_ret;refine ⟨?_,hbw⟩;rw[HR4.out,decide_eq_false hF2];rfl
 ·have hr:R=false:=by rw[HR.out,decide_eq_false hA];rfl
  rcases (show (kn:Int)<1\/(¬ (kn:Int)<1/\4<(kn:Int))\/(¬ (kn:Int)<1/\¬4<(kn:Int)/\¬(un:Int)=(kn:Int))\/(¬ (kn:Int)<1/\¬4<(kn:Int)/\(un:Int)=(kn:Int)/\(ln:Int)<1)\/(¬ (kn:Int)<1/\¬4<(kn:Int)/\(un:Int)=(kn:Int)/\¬(ln:Int)<1/\16<(ln:Int)) by omega) with g1|⟨g1,g2⟩|⟨g1,g2,g3⟩|⟨g1,g2,g3,g4⟩|⟨g1,g2,g3,g4,g5⟩
  all_goals
   try have g9:((un:Int)!=(kn:Int))=true:=bne_iff_ne.2 (by assumption)
   go_wp2_with fail;go_ret;exact ⟨by first|rfl|(rw[hr];rfl),HB0.out⟩
end Go.Proofs.YtjfhfaodbjecdaaGreat
