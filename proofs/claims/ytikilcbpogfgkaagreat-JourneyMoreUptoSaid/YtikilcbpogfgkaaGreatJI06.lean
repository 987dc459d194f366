/- Lemmas. -/
import Derived.Test.YtikilcbpogfgkaaGreatJI04
set_option maxHeartbeats 4000000
set_option maxRecDepth 100000
namespace Go.Proofs.YtikilcbpogfgkaaGreat
open Go.RowKit
theorem listsP_step {below:Int} {l:List Int} {k:Nat} (hk:k<l.length):listsP below (l.take k) (l.drop k)=(decide (0<=l.getD k 0/\l.getD k 0<below)&& !(l.take k).contains (l.getD k 0)&&listsP below (l.take (k+1)) (l.drop (k+1))):=by
 have e1:l.drop k=l.getD k 0::l.drop (k+1):=by
  rw[List.getD_eq_getElem?_getD,gE_ hk];exact List.drop_eq_getElem_cons hk
 have e2:l.take (k+1)=l.take k++[l.getD k 0]:=by
  rw[List.take_add_one,List.getD_eq_getElem?_getD,gE_ hk];rfl
 rw[e1,e2,listsP]
theorem lists_any (l:List Int) (p:Option Addr) (n c:Nat) (below:Int) (w:World) (h:IRow w (.slice p n c) l) (hn:n<=6000):
 Calls Tryz.prog 49 #[.slice p n c, .int .i64 below] w fun e w'=>e= .returned (.bool (listsP below [] l))/\Bl w w':=by
 obtain ⟨e1,e2,e3,-⟩:=h.ln;have HH:=hD h;have HE:=hD e1;clear h e1;go_enter Tryz.func49,Tryz.ntmps49;go_wp2_with fail;go_loopw [5] (fun i wr=>∃k:Nat,k<=n/\i= .int .i64 k/\Hd (Bl w wr)/\Hd (listsP below (l.take k) (l.drop k)=listsP below [] l)) (fun i _=>n-(intOf i).toNat)
 case atStart=>exact ⟨0,zl,rfl,Below.refl _ _,rfl⟩
 case round=>
  obtain ⟨k,hk,rfl,HB,HL⟩:=hrel;by_cases hlt:k<n
  ·have hkl:k<l.length:=by have:=HE.o;omega
   have hrow:=HH.o.below keepI HB.o;obtain ⟨b,o,rfl,hbl,hc⟩:=IRow.el hrow hkl;have hst:=HL.o.symm.trans (listsP_step (below:=below) hkl);obtain ⟨x,hx⟩:=nm (l.getD k 0);rw[<- hx] at hc hst;obtain ⟨r,hr⟩:=nm ((l.take k).contains x);have hrk:IRow wr (.slice (some ⟨b,o,none⟩) k c) (l.take k):=hrow.hi' om;have HIN:Hd (∀ W,Bl wr W->CR 80 #[.slice (some ⟨b,o,none⟩) k c, .int .i64 x] W (.bool r)):=fun W hW=>by rw[hr];exact in10_any (l.take k) _ k c x W (hrk.below keepI hW) om
   rw[<- hr] at hst;have HST:=hD hst;have HCE:Hd (∀ W,Bl wr W->Cl W b (o+k) (.int .i64 x)):=fun W hW=>(hW.cell (p:=⟨b,o+k,none⟩) hbl).trans hc
   have hki:(k:Int)<(n:Int):=om;have hkc:(k:Int)<=(c:Int):=om;clear hst hr hrk hx hrow hc hkl;go_upto_region 4 with fail;by_cases h0:x<0
   ·skip;refine roB wr ?_;refine sq (fun aa ww ll hh=>by exact ov (xmv (hh.oL 0))) ?_;refine sq (fun aa ww ll hh=>by exact ov (xmv (hh.oL 5))) ?_;refine sq (fun aa ww ll hh=>by have:=hh.gt 0 1;have:=hh.gt 1 0;exact ov gX) ?_;refine sq (fun aa ww ll hh=>by have:=hh.gt 2 0;have c0:=HCE.o ww hh.inv;exact ov gX) ?_;refine sq (fun aa ww ll hh=>by have:=hh.gt 3 0;have ec:=evc aa;exact ov gX) ?_;refine stm 4 0 ?_;refine stk 0 ?_;refine stk 1 ?_;refine stk 2 ?_;refine stk 3 ?_;refine stk 4 ?_;refine stk 5 ?_;exact gC1
   by_cases h1:below<=x
   ·skip;refine roB wr ?_;refine sq (fun aa ww ll hh=>by exact ov (xmv (hh.oL 0))) ?_;refine sq (fun aa ww ll hh=>by exact ov (xmv (hh.oL 5))) ?_;refine sq (fun aa ww ll hh=>by have:=hh.gt 0 1;have:=hh.gt 1 0;exact ov gX) ?_;refine sq (fun aa ww ll hh=>by have:=hh.gt 2 0;have c0:=HCE.o ww hh.inv;exact ov gX) ?_;refine sq (fun aa ww ll hh=>by have:=hh.gt 3 0;have ec:=evc aa;exact ov gX) ?_;refine stm 4 0 ?_;refine sq (fun aa ww ll hh=>by exact hh.og 0 (xmv (hh.oL 0))) ?_;refine sq (fun aa ww ll hh=>by exact hh.og 1 (xmv (hh.oL 5))) ?_;refine sq (fun aa ww ll hh=>by have:=hh.gt 6 1;have:=hh.gt 7 0;exact hh.og 2 gX) ?_;refine sq (fun aa ww ll hh=>by have:=hh.gt 8 0;have c0:=HCE.o ww hh.inv;exact hh.og 3 gX) ?_;refine sq (fun aa ww ll hh=>by exact hh.og 4 (xmv (hh.oL 1))) ?_;refine sq (fun aa ww ll hh=>by have:=hh.gt 9 1;have:=hh.gt 10 0;exact hh.og 5 gX) ?_;exact gC1
   cases r
   ·skip;refine roB wr ?_;refine sq (fun aa ww ll hh=>by exact ov (xmv (hh.oL 0))) ?_;refine sq (fun aa ww ll hh=>by exact ov (xmv (hh.oL 5))) ?_;refine sq (fun aa ww ll hh=>by have:=hh.gt 0 1;have:=hh.gt 1 0;exact ov gX) ?_;refine sq (fun aa ww ll hh=>by have:=hh.gt 2 0;have c0:=HCE.o ww hh.inv;exact ov gX) ?_;refine sq (fun aa ww ll hh=>by have:=hh.gt 3 0;have ec:=evc aa;exact ov gX) ?_;refine stm 4 0 ?_;refine sq (fun aa ww ll hh=>by exact hh.og 0 (xmv (hh.oL 0))) ?_;refine sq (fun aa ww ll hh=>by exact hh.og 1 (xmv (hh.oL 5))) ?_;refine sq (fun aa ww ll hh=>by have:=hh.gt 6 1;have:=hh.gt 7 0;exact hh.og 2 gX) ?_;refine sq (fun aa ww ll hh=>by have:=hh.gt 8 0;have c0:=HCE.o ww hh.inv;exact hh.og 3 gX) ?_;refine sq (fun aa ww ll hh=>by exact hh.og 4 (xmv (hh.oL 1))) ?_;refine sq (fun aa ww ll hh=>by have:=hh.gt 9 1;have:=hh.gt 10 0;exact hh.og 5 gX) ?_;refine sq (fun aa ww ll hh=>by have:=hh.gt 5 6;have:=hh.gt 11 0;have ec:=evc aa;exact ov gX) ?_;refine stm 12 0 ?_;refine sq (fun aa ww ll hh=>by exact hh.og 0 (xmv (hh.oL 0))) ?_;refine sq (fun aa ww ll hh=>by exact hh.og 1 (xmv (hh.oL 5))) ?_;refine sq (fun aa ww ll hh=>by have:=hh.gt 14 1;have:=hh.gt 15 0;exact hh.og 2 gX) ?_;refine sq (fun aa ww ll hh=>by exact hh.og 3 (xmv (hh.oL 0))) ?_;refine sq (fun aa ww ll hh=>by exact hh.og 4 (xmv (hh.oL 5))) ?_;refine sq (fun aa ww ll hh=>by have:=hh.gt 17 1;have:=hh.gt 18 0;exact hh.og 5 gX) ?_;refine sq (fun aa ww ll hh=>by have:=hh.gt 19 0;have c0:=HCE.o ww hh.inv;exact hh.og 6 gX) ?_;refine ⟨.eq (.bool false),trivial,rfl,fun aa ww ll hh=>?_,?_⟩
    ·exact gK3
    refine sq (fun aa ww ll hh=>by have:=hh.gt 13 8;have:=hh.gt 21 0;have ec:=evc aa;exact ov gX) ?_;intro ll w3 hS hok;clear hok;simp only[ly];go_wp2_with fail;go_roundw
    case rel=>exact ⟨k+1,om,by go_num,HB.o.trans (hS.mono HB.o.size),(HST.o.trans (by rw[decide_eq_true om];rfl)).symm⟩
    case measure=>exact mz
   ·skip;refine roB wr ?_;refine sq (fun aa ww ll hh=>by exact ov (xmv (hh.oL 0))) ?_;refine sq (fun aa ww ll hh=>by exact ov (xmv (hh.oL 5))) ?_;refine sq (fun aa ww ll hh=>by have:=hh.gt 0 1;have:=hh.gt 1 0;exact ov gX) ?_;refine sq (fun aa ww ll hh=>by have:=hh.gt 2 0;have c0:=HCE.o ww hh.inv;exact ov gX) ?_;refine sq (fun aa ww ll hh=>by have:=hh.gt 3 0;have ec:=evc aa;exact ov gX) ?_;refine stm 4 0 ?_;refine sq (fun aa ww ll hh=>by exact hh.og 0 (xmv (hh.oL 0))) ?_;refine sq (fun aa ww ll hh=>by exact hh.og 1 (xmv (hh.oL 5))) ?_;refine sq (fun aa ww ll hh=>by have:=hh.gt 6 1;have:=hh.gt 7 0;exact hh.og 2 gX) ?_;refine sq (fun aa ww ll hh=>by have:=hh.gt 8 0;have c0:=HCE.o ww hh.inv;exact hh.og 3 gX) ?_;refine sq (fun aa ww ll hh=>by exact hh.og 4 (xmv (hh.oL 1))) ?_;refine sq (fun aa ww ll hh=>by have:=hh.gt 9 1;have:=hh.gt 10 0;exact hh.og 5 gX) ?_;refine sq (fun aa ww ll hh=>by have:=hh.gt 5 6;have:=hh.gt 11 0;have ec:=evc aa;exact ov gX) ?_;refine stm 12 0 ?_;refine sq (fun aa ww ll hh=>by exact hh.og 0 (xmv (hh.oL 0))) ?_;refine sq (fun aa ww ll hh=>by exact hh.og 1 (xmv (hh.oL 5))) ?_;refine sq (fun aa ww ll hh=>by have:=hh.gt 14 1;have:=hh.gt 15 0;exact hh.og 2 gX) ?_;refine sq (fun aa ww ll hh=>by exact hh.og 3 (xmv (hh.oL 0))) ?_;refine sq (fun aa ww ll hh=>by exact hh.og 4 (xmv (hh.oL 5))) ?_;refine sq (fun aa ww ll hh=>by have:=hh.gt 17 1;have:=hh.gt 18 0;exact hh.og 5 gX) ?_;refine sq (fun aa ww ll hh=>by have:=hh.gt 19 0;have c0:=HCE.o ww hh.inv;exact hh.og 6 gX) ?_;refine ⟨.eq (.bool true),trivial,rfl,fun aa ww ll hh=>?_,?_⟩
    ·exact gK3
    refine sq (fun aa ww ll hh=>by have:=hh.gt 13 8;have:=hh.gt 21 0;have ec:=evc aa;exact ov gX) ?_;intro ll w3 hS hok;clear hok;simp only[ly];go_wp2_with fail;go_ret;refine ⟨?_,HB.o.trans (hS.mono HB.o.size)⟩;have e:listsP below [] l=false:=by rw[HST.o,decide_eq_true om];rfl
    rw[e];rfl
  obtain rfl:k=n:=om;go_wp2_with fail;go_ret;refine ⟨?_,HB.o⟩;have e:listsP below [] l=true:=by rw[<- HL.o,List.drop_of_length_le (by have:=HE.o;omega)];rfl
  rw[e];rfl
open Go.RowKit
theorem refAnd_any (a b:Nat) (ha:a<B*B) (hb:b<B*B) (w:World):
 Calls Tryz.prog 111 #[numV a,numV b] w (RetNum w (a &&& b)):=by
 obtain ⟨fa,hfa⟩:=nm a.testBit;obtain ⟨fb,hfb⟩:=nm b.testBit;have HA:Hd (∀ W,CR 71 #[numV a] W (.agg (rowA fa))):=fun W=>by rw[hfa];exact refBits_any a ha W
 have HB:Hd (∀ W,CR 71 #[numV b] W (.agg (rowA fb))):=fun W=>by rw[hfb];exact refBits_any b hb W
 have HFA:=hD hfa;have HFB:=hD hfb;obtain ⟨h1,l1,e1,-,-⟩:=numV_parts a;obtain ⟨h2,l2,e2,-,-⟩:=numV_parts b;rw[e1] at HA⊢;rw[e2] at HB⊢;clear e1 e2 hfa hfb;go_enter Tryz.func111,Tryz.ntmps111;go_wp2_with fail;obtain ⟨W0,hW0⟩:=nm (((w.alloc (.cells #[.int .u64 (h1:Int), .int .u64 (l1:Int)] 82)).alloc (.cells #[.int .u64 (h2:Int), .int .u64 (l2:Int)] 82)).alloc (.cells #[.int .u64 0, .int .u64 0] 82));have hbW:Bl w W0:=by rw[hW0];exact bL
 have z0:w.heap.size<W0.heap.size:=by rw[hW0];simp<;>omega
 have z1:w.heap.size+1<W0.heap.size:=by rw[hW0];simp
 have c0:W0.cell? ⟨w.heap.size,0,none⟩=some (.int .u64 (h1:Int)):=by rw[hW0];simp[go_sem]
 have c1:W0.cell? ⟨w.heap.size,1,none⟩=some (.int .u64 (l1:Int)):=by rw[hW0];simp[go_sem]
 have c2:W0.cell? ⟨w.heap.size+1,0,none⟩=some (.int .u64 (h2:Int)):=by rw[hW0];simp[go_sem]
 have c3:W0.cell? ⟨w.heap.size+1,1,none⟩=some (.int .u64 (l2:Int)):=by rw[hW0];simp[go_sem]
 have z2:w.heap.size+1+1<W0.heap.size:=by rw[hW0];simp
 have cr:W0.heap[w.heap.size+1+1]?=some (.cells #[.int .u64 0, .int .u64 0] 82 (0,0)):=by
  rw[hW0];exact hq3 _ _ _ _
 rw[<- hW0];have HBW0:=hD hbW;clear hW0 hbW;refine wp_region_inv kq (fun L a' w'=>∃v5 v6 v8 v9 v10 v11:Value,a'=⟨#[.agg #[.int .u64 (h1:Int), .int .u64 (l1:Int)], .agg #[.int .u64 (h2:Int), .int .u64 (l2:Int)], .pointer (some ⟨w.heap.size,0,none⟩), .pointer (some ⟨w.heap.size+1,0,none⟩), .pointer (some ⟨w.heap.size+1+1,0,none⟩),v5,v6,undef,v8,v9,v10,v11,undef,undef,undef,undef,undef,undef,undef,undef,undef,undef,undef,undef,undef,undef,undef,undef],[]⟩/\TwoI (.agg #[.int .u64 (h1:Int), .int .u64 (l1:Int)]) (.agg #[.int .u64 (h2:Int), .int .u64 (l2:Int)]) fa fb W0 L v5 v6 v8 v9 v10 v11 w') ?_ ?_ ?_ ?_
 ·exact ⟨_,_,_,_,_,_,rfl,TwoI.init (by funext i;unfold did;match i with|0=>rfl|1=>rfl|2=>rfl|3=>rfl|4=>rfl|5=>rfl|6=>rfl|7=>rfl|i+8=>rfl) (below_drewN br 1)⟩
 ·rintro L a' w' i hL hi hnd hdep ⟨v5,v6,v8,v9,v10,v11,rfl,hI⟩;have hL8:L.size=8:=hL;have HI:=hD hI;have d0:w'.cell? ⟨w.heap.size,0,none⟩=some (.int .u64 (h1:Int)):=(hI.below.cell (p:=⟨w.heap.size,0,none⟩) z0).trans c0;have d1:w'.cell? ⟨w.heap.size,1,none⟩=some (.int .u64 (l1:Int)):=(hI.below.cell (p:=⟨w.heap.size,1,none⟩) z0).trans c1;have d2:w'.cell? ⟨w.heap.size+1,0,none⟩=some (.int .u64 (h2:Int)):=(hI.below.cell (p:=⟨w.heap.size+1,0,none⟩) z1).trans c2;have d3:w'.cell? ⟨w.heap.size+1,1,none⟩=some (.int .u64 (l2:Int)):=(hI.below.cell (p:=⟨w.heap.size+1,1,none⟩) z1).trans c3;have hZ:Tryz.zeroCells146=rowA fun _=>false:=by kernel_rfl
  have HZ:=hD hZ;clear hZ hI;match i,hi with
  |0,_=>
   clear hdep hnd;refine wpOp_step rfl (fun K' hK=>?_);go_simp;exact hK _ _ ⟨_,_,_,_,_,_,rfl,HI.o.s0 hL8⟩
  |1,_=>
   have q:=HI.o.h0 (hdep _ rfl ⟨0, .data⟩ sm kq);subst q;clear hdep hnd;refine wpOp_step rfl (fun K' hK=>?_);go_simp;refine (HA.o _).mono ?_;rintro e w1 ⟨rfl,hb1⟩;exact hK _ _ ⟨_,_,_,_,_,_,rfl,(HI.o.below' hb1).s1 hL8⟩
  |2,_=>
   clear hdep hnd;refine wpOp_step rfl (fun K' hK=>?_);go_simp;exact hK _ _ ⟨_,_,_,_,_,_,rfl,HI.o.s2 hL8⟩
  |3,_=>
   have q:=HI.o.h2 (hdep _ rfl ⟨2, .data⟩ sm kq);subst q;clear hdep hnd;refine wpOp_step rfl (fun K' hK=>?_);go_simp;refine (HB.o _).mono ?_;rintro e w1 ⟨rfl,hb1⟩;exact hK _ _ ⟨_,_,_,_,_,_,rfl,(HI.o.below' hb1).s3 hL8⟩
  |4,_=>
   have hnd':=hD hnd;clear hdep hnd;refine wpOp_step rfl (fun K' hK=>?_);go_simp;rw[HZ.o];exact hK _ _ ⟨_,_,_,_,_,_,rfl,HI.o.s4 hL8 hnd'.o⟩
  |5,_=>
   have hnd':=hD hnd;clear hdep hnd;refine wpOp_step rfl (fun K' hK=>?_);go_simp;rw[HZ.o];exact hK _ _ ⟨_,_,_,_,_,_,rfl,HI.o.s5 hL8 hnd'.o⟩
  |6,_=>
   have q4:=hdep _ rfl ⟨4, .data⟩ sm kq;have q:=HI.o.h1 (hdep _ rfl ⟨1, .data⟩ sm kq);subst q;obtain ⟨g,e1,-,e3⟩:=HI.o.h4 q4;subst e1;clear hdep hnd;refine wpOp_step rfl (fun K' hK=>?_);refine store_wanted rfl ?_;exact wp_store_row 146 (.tmp 5) (.tmp 9) rfl g (rowA fa) rfl rfl 146 _ e3 (by rw[rowA_size];exact infoRow) (by rw[rowA_size,rowA_size]) (rowA_one _) (hK _ _ ⟨_,_,_,_,_,_,rfl,HI.o.s6 hL8 q4 rfl⟩)
  |7,_=>
   have q5:=hdep _ rfl ⟨5, .data⟩ sm kq;have q:=HI.o.h3 (hdep _ rfl ⟨3, .data⟩ sm kq);subst q;obtain ⟨g,e1,-,e3⟩:=HI.o.h5 q5;subst e1;clear hdep hnd;refine wpOp_step rfl (fun K' hK=>?_);refine store_wanted rfl ?_;exact wp_store_row 146 (.tmp 6) (.tmp 11) rfl g (rowA fb) rfl rfl 146 _ e3 (by rw[rowA_size];exact infoRow) (by rw[rowA_size,rowA_size]) (rowA_one _) (hK _ _ ⟨_,_,_,_,_,_,rfl,HI.o.s7 hL8 q5 rfl⟩)
 ·intro i o ho e he;match i,ho with
  |0,ho=>cases ho;simp at he
  |1,ho=>cases ho;simp at he;subst he;show (0:Nat)<1;omega
  |2,ho=>cases ho;simp at he
  |3,ho=>cases ho;simp at he;rcases he with rfl|rfl<;>(simp<;>omega)
  |4,ho=>cases ho;simp at he
  |5,ho=>cases ho;simp at he
  |6,ho=>cases ho;simp at he;rcases he with rfl|rfl|rfl|rfl|rfl|rfl|rfl|rfl|rfl<;>(simp<;>omega)
  |7,ho=>cases ho;simp at he;rcases he with rfl|rfl|rfl|rfl|rfl|rfl|rfl|rfl|rfl|rfl<;>(simp<;>omega)
 rintro L a' w' hall ⟨v5,v6,v8,v9,v10,v11,rfl,hI⟩;obtain ⟨rfl,rfl,rfl,rfl,gx,gy,hgn,rfl,rfl,hgx,hgy,hrx,hry,hbw⟩:=hI.all hall;have HRX:=hD hrx;have HRY:=hD hry;have HBW:=hD hbw;have HGN:=hD hgn;clear hI hall hrx hry hbw hgn HA HB c0 c1 c2 c3;have crx:=(HBW.o.block (w.heap.size+1+1) z2).trans cr;have hgx0:w.heap.size+1+1<gx:=om;have hgy0:w.heap.size+1+1<gy:=om;have H0:Hd (OpAt and fa fb w gx gy 0 w'):=⟨by rw[HRX.o];congr 2,HRY.o,⟨_,_,crx⟩,HBW0.o.trans (HBW.o.mono HBW0.o.size)⟩;clear crx cr HBW HBW0 z0 z1 z2 HRX HRY;go_wp2_with fail;go_loopw [7] (fun i wr=>∃k:Nat,k<=128/\i= .int .i64 k/\Hd (OpAt and fa fb w gx gy k wr)) (fun i _=>128-(intOf i).toNat)
 case atStart=>exact ⟨0,zl,rfl,H0⟩
 case round=>
  obtain ⟨k,hk,rfl,HK⟩:=hrel;by_cases hlt:k<128
  ·obtain ⟨r1,r2,r3⟩:=HK.o.cells hlt;cases hf1:fa k<;>cases hf2:fb k
   all_goals
    rw[hf1] at r1;rw[hf2] at r2;have HF1:=hD hf1;have HF2:=hD hf2;clear hf1 hf2;go_wp2_with fail;go_roundw
    case rel=>exact ⟨k+1,om,by go_num,HK.o.step hlt HGN.o om (by rw[HF1.o,HF2.o];rfl)⟩
    case measure=>exact mz
  obtain rfl:k=128:=om;obtain ⟨r1,r2,⟨x0,x1,r3⟩,r4⟩:=HK.o;have e:(rowA fun i=>if i<128 then and (fa i) (fb i) else fa i)=rowA fun i=>and (fa i) (fb i):=rowA_congr fun i hi=>by rw[if_pos hi]
  rw[e] at r1;have HE:Hd (ofBits (fun i=>and (fa i) (fb i)) 128=a &&& b):=by
   show _=_;rw[HFA.o,HFB.o];refine ofBits_eq (by rw[<- BB_pow2];exact Nat.lt_of_le_of_lt Nat.and_le_left ha) fun i _=>?_
   simp[Nat.testBit_and]
  have HNUM:Hd (∀ W,Calls Tryz.prog 113 #[.agg (rowA fun i=>and (fa i) (fb i))] W (RetNum W (a &&& b))):=fun W=>by rw[<- HE.o];exact refNum_any _ W
  have HB4:=hD r4;have H3:=hD r3;clear e r2 r3 r4 HE HK H0 HGN;have hRR:(rowA fun i=>and (fa i) (fb i)).size=128:=rowA_size _;generalize (rowA fun i=>and (fa i) (fb i))=RR at r1 HNUM hRR;go_wp2_with (first
   |(refine wpList_load_row rfl 146 (.tmp 5) rfl gx rfl 146 RR (0,0) _ r1 Tryz.underlying146 rfl (by rw[hRR];exact infoRow) ?_))
  clear r1;obtain ⟨h3,l3,e3,-,-⟩:=numV_parts (a &&& b);have HE3:=hD e3;have HNUM2:Hd (∀ W,CR 113 #[.agg RR] W (.agg #[.int .u64 (h3:Int), .int .u64 (l3:Int)])):=fun W=>by rw[<- HE3.o];exact HNUM.o W
  clear HNUM e3;refine (HNUM2.o _).mono ?_;rintro e w1 ⟨rfl,hb1⟩;have hr:=(hb1.block (w.heap.size+1+1) (lt_of_block H3.o)).trans H3.o;have q0:w1.cell? ⟨w.heap.size+1+1,0,none⟩=some x0:=by simp[World.cell?,hr]
  have q1:w1.cell? ⟨w.heap.size+1+1,1,none⟩=some x1:=by simp[World.cell?,hr]
  have qz:∀j,w1.frozen? ⟨w.heap.size+1+1,j,none⟩=false:=fun j=>by simp[World.frozen?,hr]
  have HR:=hD hr;have HB1:=hD (HB4.o.trans (hb1.mono HB4.o.size));clear hr hb1;go_wp2_with fail;have hg:=set_lo (.int .u64 (l3:Int)) (set_hi (.int .u64 (h3:Int)) HR.o);exact bodyPost_ret (v:= .agg #[.int .u64 (h3:Int), .int .u64 (l3:Int)]) (results_cell_row Tryz.results111 _ _ (w.heap.size+1+1) _ _ _ _ (by simp[go_sem]) hg Tryz.underlying82 rfl kq) rfl ⟨by rw[HE3.o],(HB1.o.setCell (by show w.heap.size<=w.heap.size+1+1;omega) _).setCell (by show w.heap.size<=w.heap.size+1+1;omega) _⟩
end Go.Proofs.YtikilcbpogfgkaaGreat
