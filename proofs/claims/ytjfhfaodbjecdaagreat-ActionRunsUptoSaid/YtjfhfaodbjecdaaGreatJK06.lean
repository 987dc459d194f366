/- Lemmas. -/
import Derived.Test.YtjfhfaodbjecdaaGreatJK04
set_option maxHeartbeats 4000000
set_option maxRecDepth 100000
namespace Go.Proofs.YtjfhfaodbjecdaaGreat
open Go.RowKit
theorem pT {below:Int} {l:List Int} {k:Nat} (hk:k<l.length):dF below (l.take k) (l.drop k)=(decide (0<=l.getD k 0/\l.getD k 0<below)&& !(l.take k).contains (l.getD k 0)&&dF below (l.take (k+1)) (l.drop (k+1))):=by
 have e1:l.drop k=l.getD k 0::l.drop (k+1):=by
  rw[List.getD_eq_getElem?_getD,bS hk];exact List.drop_eq_getElem_cons hk
 have e2:l.take (k+1)=l.take k++[l.getD k 0]:=by
  rw[List.take_add_one,List.getD_eq_getElem?_getD,bS hk];rfl
 rw[e1,e2,dF]
theorem nO (l:List Int) (p:Option Addr) (n c:Nat) (below:Int) (w:World) (h:IRow w (.slice p n c) l) (hn:n<=6000):
 Calls Tryz.prog 35 #[.slice p n c, .int .i64 below] w fun e w'=>e= .returned (.bool (dF below [] l))/\Bl w w':=by
 obtain ⟨e1,e2,e3,-⟩:=h.ln;have HH:=hD h;have HE:=hD e1;clear h e1;go_enter Tryz.func35,Tryz.ntmps35;go_wp2_with fail;go_loopw [5] (fun i wr=>∃k:Nat,k<=n/\i= .int .i64 k/\Hd (Bl w wr)/\Hd (dF below (l.take k) (l.drop k)=dF below [] l)) (fun i _=>n-(intOf i).toNat)
 case atStart=>exact ⟨0,zl,rfl,Below.refl _ _,rfl⟩
 case round=>
  obtain ⟨k,hk,rfl,HB,HL⟩:=hrel;by_cases hlt:k<n
  ·have hkl:k<l.length:=by have:=HE.o;omega
   have hrow:=HH.o.below bW HB.o;obtain ⟨b,o,rfl,hbl,hc⟩:=IRow.el hrow hkl;have hst:=HL.o.symm.trans (pT (below:=below) hkl);obtain ⟨x,hx⟩:=nm (l.getD k 0);rw[<- hx] at hc hst;obtain ⟨r,hr⟩:=nm ((l.take k).contains x);have hrk:IRow wr (.slice (some ⟨b,o,none⟩) k c) (l.take k):=hrow.hi' om;have HIN:Hd (∀ W,Bl wr W->CR 58 #[.slice (some ⟨b,o,none⟩) k c, .int .i64 x] W (.bool r)):=fun W hW=>by rw[hr];exact lE (l.take k) _ k c x W (hrk.below bW hW) om
   rw[<- hr] at hst;have HST:=hD hst;have HCE:Hd (∀ W,Bl wr W->Cl W b (o+k) (.int .i64 x)):=fun W hW=>(hW.cell (p:=⟨b,o+k,none⟩) hbl).trans hc
   have hki:(k:Int)<(n:Int):=om;have hkc:(k:Int)<=(c:Int):=om;clear hst hr hrk hx hrow hc hkl;go_upto_region 4 with fail;by_cases h0:x<0
   ·skip;refine dZ wr ?_;refine sq (fun aa ww ll hh=>by exact ov (bg (hh.oL 0))) ?_;refine sq (fun aa ww ll hh=>by exact ov (bg (hh.oL 5))) ?_;refine sq (fun aa ww ll hh=>by have:=hh.gt 0 1;have:=hh.gt 1 0;exact ov gX) ?_;refine sq (fun aa ww ll hh=>by have:=hh.gt 2 0;have c0:=HCE.o ww hh.inv;exact ov gX) ?_;refine sq (fun aa ww ll hh=>by have:=hh.gt 3 0;have ec:=cW aa;exact ov gX) ?_;refine cV 4 0 ?_;refine aV 0 ?_;refine aV 1 ?_;refine aV 2 ?_;refine aV 3 ?_;refine aV 4 ?_;refine aV 5 ?_;exact C4
   by_cases h1:below<=x
   ·skip;refine dZ wr ?_;refine sq (fun aa ww ll hh=>by exact ov (bg (hh.oL 0))) ?_;refine sq (fun aa ww ll hh=>by exact ov (bg (hh.oL 5))) ?_;refine sq (fun aa ww ll hh=>by have:=hh.gt 0 1;have:=hh.gt 1 0;exact ov gX) ?_;refine sq (fun aa ww ll hh=>by have:=hh.gt 2 0;have c0:=HCE.o ww hh.inv;exact ov gX) ?_;refine sq (fun aa ww ll hh=>by have:=hh.gt 3 0;have ec:=cW aa;exact ov gX) ?_;refine cV 4 0 ?_;refine sq (fun aa ww ll hh=>by exact hh.og 0 (bg (hh.oL 0))) ?_;refine sq (fun aa ww ll hh=>by exact hh.og 1 (bg (hh.oL 5))) ?_;refine sq (fun aa ww ll hh=>by have:=hh.gt 6 1;have:=hh.gt 7 0;exact hh.og 2 gX) ?_;refine sq (fun aa ww ll hh=>by have:=hh.gt 8 0;have c0:=HCE.o ww hh.inv;exact hh.og 3 gX) ?_;refine sq (fun aa ww ll hh=>by exact hh.og 4 (bg (hh.oL 1))) ?_;refine sq (fun aa ww ll hh=>by have:=hh.gt 9 1;have:=hh.gt 10 0;exact hh.og 5 gX) ?_;exact C4
   cases r
   ·skip;refine dZ wr ?_;refine sq (fun aa ww ll hh=>by exact ov (bg (hh.oL 0))) ?_;refine sq (fun aa ww ll hh=>by exact ov (bg (hh.oL 5))) ?_;refine sq (fun aa ww ll hh=>by have:=hh.gt 0 1;have:=hh.gt 1 0;exact ov gX) ?_;refine sq (fun aa ww ll hh=>by have:=hh.gt 2 0;have c0:=HCE.o ww hh.inv;exact ov gX) ?_;refine sq (fun aa ww ll hh=>by have:=hh.gt 3 0;have ec:=cW aa;exact ov gX) ?_;refine cV 4 0 ?_;refine sq (fun aa ww ll hh=>by exact hh.og 0 (bg (hh.oL 0))) ?_;refine sq (fun aa ww ll hh=>by exact hh.og 1 (bg (hh.oL 5))) ?_;refine sq (fun aa ww ll hh=>by have:=hh.gt 6 1;have:=hh.gt 7 0;exact hh.og 2 gX) ?_;refine sq (fun aa ww ll hh=>by have:=hh.gt 8 0;have c0:=HCE.o ww hh.inv;exact hh.og 3 gX) ?_;refine sq (fun aa ww ll hh=>by exact hh.og 4 (bg (hh.oL 1))) ?_;refine sq (fun aa ww ll hh=>by have:=hh.gt 9 1;have:=hh.gt 10 0;exact hh.og 5 gX) ?_;refine sq (fun aa ww ll hh=>by have:=hh.gt 5 6;have:=hh.gt 11 0;have ec:=cW aa;exact ov gX) ?_;refine cV 12 0 ?_;refine sq (fun aa ww ll hh=>by exact hh.og 0 (bg (hh.oL 0))) ?_;refine sq (fun aa ww ll hh=>by exact hh.og 1 (bg (hh.oL 5))) ?_;refine sq (fun aa ww ll hh=>by have:=hh.gt 14 1;have:=hh.gt 15 0;exact hh.og 2 gX) ?_;refine sq (fun aa ww ll hh=>by exact hh.og 3 (bg (hh.oL 0))) ?_;refine sq (fun aa ww ll hh=>by exact hh.og 4 (bg (hh.oL 5))) ?_;refine sq (fun aa ww ll hh=>by have:=hh.gt 17 1;have:=hh.gt 18 0;exact hh.og 5 gX) ?_;refine sq (fun aa ww ll hh=>by have:=hh.gt 19 0;have c0:=HCE.o ww hh.inv;exact hh.og 6 gX) ?_;refine ⟨.eq (.bool false),trivial,rfl,fun aa ww ll hh=>?_,?_⟩
    ·exact DM
    refine sq (fun aa ww ll hh=>by have:=hh.gt 13 8;have:=hh.gt 21 0;have ec:=cW aa;exact ov gX) ?_;intro ll w3 hS hok;clear hok;simp only[ly];go_wp2_with fail;go_roundw
    case rel=>exact ⟨k+1,om,by go_num,HB.o.trans (hS.mono HB.o.size),(HST.o.trans (by rw[decide_eq_true om];rfl)).symm⟩
    case measure=>exact mz
   ·skip;refine dZ wr ?_;refine sq (fun aa ww ll hh=>by exact ov (bg (hh.oL 0))) ?_;refine sq (fun aa ww ll hh=>by exact ov (bg (hh.oL 5))) ?_;refine sq (fun aa ww ll hh=>by have:=hh.gt 0 1;have:=hh.gt 1 0;exact ov gX) ?_;refine sq (fun aa ww ll hh=>by have:=hh.gt 2 0;have c0:=HCE.o ww hh.inv;exact ov gX) ?_;refine sq (fun aa ww ll hh=>by have:=hh.gt 3 0;have ec:=cW aa;exact ov gX) ?_;refine cV 4 0 ?_;refine sq (fun aa ww ll hh=>by exact hh.og 0 (bg (hh.oL 0))) ?_;refine sq (fun aa ww ll hh=>by exact hh.og 1 (bg (hh.oL 5))) ?_;refine sq (fun aa ww ll hh=>by have:=hh.gt 6 1;have:=hh.gt 7 0;exact hh.og 2 gX) ?_;refine sq (fun aa ww ll hh=>by have:=hh.gt 8 0;have c0:=HCE.o ww hh.inv;exact hh.og 3 gX) ?_;refine sq (fun aa ww ll hh=>by exact hh.og 4 (bg (hh.oL 1))) ?_;refine sq (fun aa ww ll hh=>by have:=hh.gt 9 1;have:=hh.gt 10 0;exact hh.og 5 gX) ?_;refine sq (fun aa ww ll hh=>by have:=hh.gt 5 6;have:=hh.gt 11 0;have ec:=cW aa;exact ov gX) ?_;refine cV 12 0 ?_;refine sq (fun aa ww ll hh=>by exact hh.og 0 (bg (hh.oL 0))) ?_;refine sq (fun aa ww ll hh=>by exact hh.og 1 (bg (hh.oL 5))) ?_;refine sq (fun aa ww ll hh=>by have:=hh.gt 14 1;have:=hh.gt 15 0;exact hh.og 2 gX) ?_;refine sq (fun aa ww ll hh=>by exact hh.og 3 (bg (hh.oL 0))) ?_;refine sq (fun aa ww ll hh=>by exact hh.og 4 (bg (hh.oL 5))) ?_;refine sq (fun aa ww ll hh=>by have:=hh.gt 17 1;have:=hh.gt 18 0;exact hh.og 5 gX) ?_;refine sq (fun aa ww ll hh=>by have:=hh.gt 19 0;have c0:=HCE.o ww hh.inv;exact hh.og 6 gX) ?_;refine ⟨.eq (.bool true),trivial,rfl,fun aa ww ll hh=>?_,?_⟩
    ·exact DM
    refine sq (fun aa ww ll hh=>by have:=hh.gt 13 8;have:=hh.gt 21 0;have ec:=cW aa;exact ov gX) ?_;intro ll w3 hS hok;clear hok;simp only[ly];go_wp2_with fail;go_ret;refine ⟨?_,HB.o.trans (hS.mono HB.o.size)⟩;have e:dF below [] l=false:=by rw[HST.o,decide_eq_true om];rfl
    rw[e];rfl
  obtain rfl:k=n:=om;go_wp2_with fail;go_ret;refine ⟨?_,HB.o⟩;have e:dF below [] l=true:=by rw[<- HL.o,List.drop_of_length_le (by have:=HE.o;omega)];rfl
  rw[e];rfl
open Go.RowKit
theorem lI (a b:Nat) (ha:a<B*B) (hb:b<B*B) (w:World):
 Calls Tryz.prog 87 #[aC a,aC b] w (ai w (a &&& b)):=by
 obtain ⟨fa,hfa⟩:=nm a.testBit;obtain ⟨fb,hfb⟩:=nm b.testBit;have HA:Hd (∀ W,CR 52 #[aC a] W (.agg (aw fa))):=fun W=>by rw[hfa];exact aK a ha W
 have HB:Hd (∀ W,CR 52 #[aC b] W (.agg (aw fb))):=fun W=>by rw[hfb];exact aK b hb W
 have HFA:=hD hfa;have HFB:=hD hfb;obtain ⟨h1,l1,e1,-,-⟩:=ae a;obtain ⟨h2,l2,e2,-,-⟩:=ae b;rw[e1] at HA⊢;rw[e2] at HB⊢;clear e1 e2 hfa hfb;go_enter Tryz.func87,Tryz.ntmps87;go_wp2_with fail;obtain ⟨W0,hW0⟩:=nm (((w.alloc (.cells #[.int .u64 (h1:Int), .int .u64 (l1:Int)] 60)).alloc (.cells #[.int .u64 (h2:Int), .int .u64 (l2:Int)] 60)).alloc (.cells #[.int .u64 0, .int .u64 0] 60));have hbW:Bl w W0:=by rw[hW0];exact bL
 have z0:w.heap.size<W0.heap.size:=by rw[hW0];simp<;>omega
 have z1:w.heap.size+1<W0.heap.size:=by rw[hW0];simp
 have c0:W0.cell? ⟨w.heap.size,0,none⟩=some (.int .u64 (h1:Int)):=by rw[hW0];simp[go_sem]
 have c1:W0.cell? ⟨w.heap.size,1,none⟩=some (.int .u64 (l1:Int)):=by rw[hW0];simp[go_sem]
 have c2:W0.cell? ⟨w.heap.size+1,0,none⟩=some (.int .u64 (h2:Int)):=by rw[hW0];simp[go_sem]
 have c3:W0.cell? ⟨w.heap.size+1,1,none⟩=some (.int .u64 (l2:Int)):=by rw[hW0];simp[go_sem]
 have z2:w.heap.size+1+1<W0.heap.size:=by rw[hW0];simp
 have cr:W0.heap[w.heap.size+1+1]?=some (.cells #[.int .u64 0, .int .u64 0] 60 (0,0)):=by
  exact xJ
 rw[<- hW0];have HBW0:=hD hbW;clear hW0 hbW;refine dt kq (fun L a' w'=>∃v5 v6 v8 v9 v10 v11:Value,a'=⟨#[.agg #[.int .u64 (h1:Int), .int .u64 (l1:Int)], .agg #[.int .u64 (h2:Int), .int .u64 (l2:Int)], .pointer (some ⟨w.heap.size,0,none⟩), .pointer (some ⟨w.heap.size+1,0,none⟩), .pointer (some ⟨w.heap.size+1+1,0,none⟩),v5,v6,undef,v8,v9,v10,v11,undef,undef,undef,undef,undef,undef,undef,undef,undef,undef,undef,undef,undef,undef,undef,undef],[]⟩/\TwoI (.agg #[.int .u64 (h1:Int), .int .u64 (l1:Int)]) (.agg #[.int .u64 (h2:Int), .int .u64 (l2:Int)]) fa fb W0 L v5 v6 v8 v9 v10 v11 w') ?_ ?_ ?_ ?_
 ·exact AX
 ·exact gC
 ·exact gN
 rintro L a' w' hall ⟨v5,v6,v8,v9,v10,v11,rfl,hI⟩;obtain ⟨rfl,rfl,rfl,rfl,gx,gy,hgn,rfl,rfl,hgx,hgy,hrx,hry,hbw⟩:=hI.all hall;have HRX:=hD hrx;have HRY:=hD hry;have HBW:=hD hbw;have HGN:=hD hgn;clear hI hall hrx hry hbw hgn HA HB c0 c1 c2 c3;have crx:=(HBW.o.block (w.heap.size+1+1) z2).trans cr;have hgx0:w.heap.size+1+1<gx:=om;have hgy0:w.heap.size+1+1<gy:=om;have H0:Hd (OpAt and fa fb w gx gy 0 w'):=⟨by rw[HRX.o];congr 2,HRY.o,⟨_,_,crx⟩,HBW0.o.trans (HBW.o.mono HBW0.o.size)⟩;clear crx cr HBW HBW0 z0 z1 z2 HRX HRY;go_wp2_with fail;go_loopw [7] (fun i wr=>∃k:Nat,k<=128/\i= .int .i64 k/\Hd (OpAt and fa fb w gx gy k wr)) (fun i _=>128-(intOf i).toNat)
 case atStart=>exact ⟨0,zl,rfl,H0⟩
 case round=>
  obtain ⟨k,hk,rfl,HK⟩:=hrel;by_cases hlt:k<128
  ·exact Cq
  obtain rfl:k=128:=om;obtain ⟨r1,r2,⟨x0,x1,r3⟩,r4⟩:=HK.o;have e:(aw fun i=>if i<128 then and (fa i) (fb i) else fa i)=aw fun i=>and (fa i) (fb i):=aO fun i hi=>by rw[if_pos hi]
  rw[e] at r1;have HE:Hd (aF (fun i=>and (fa i) (fb i)) 128=a &&& b):=by
   show _=_;rw[HFA.o,HFB.o];refine bM (by rw[<- aY];exact Nat.lt_of_le_of_lt Nat.and_le_left ha) fun i _=>?_
   simp[Nat.testBit_and]
  have HNUM:Hd (∀ W,Calls Tryz.prog 53 #[.agg (aw fun i=>and (fa i) (fb i))] W (ai W (a &&& b))):=fun W=>by rw[<- HE.o];exact bE _ W
  have HB4:=hD r4;have H3:=hD r3;clear e r2 r3 r4 HE HK H0 HGN;have hRR:(aw fun i=>and (fa i) (fb i)).size=128:=au _;generalize (aw fun i=>and (fa i) (fb i))=RR at r1 HNUM hRR;go_wp2_with (first
   |(refine wpList_load_row rfl 114 (.tmp 5) rfl gx rfl 114 RR (0,0) _ r1 Tryz.underlying114 rfl (by rw[hRR];exact aS) ?_))
  clear r1;obtain ⟨h3,l3,e3,-,-⟩:=ae (a &&& b);have HE3:=hD e3;have HNUM2:Hd (∀ W,CR 53 #[.agg RR] W (.agg #[.int .u64 (h3:Int), .int .u64 (l3:Int)])):=fun W=>by rw[<- HE3.o];exact HNUM.o W
  clear HNUM e3;refine (HNUM2.o _).mono ?_;rintro e w1 ⟨rfl,hb1⟩;have hr:=(hb1.block (w.heap.size+1+1) (aI H3.o)).trans H3.o;have q0:w1.cell? ⟨w.heap.size+1+1,0,none⟩=some x0:=by simp[World.cell?,hr]
  have q1:w1.cell? ⟨w.heap.size+1+1,1,none⟩=some x1:=by simp[World.cell?,hr]
  have qz:∀j,w1.frozen? ⟨w.heap.size+1+1,j,none⟩=false:=fun j=>by simp[World.frozen?,hr]
  have HR:=hD hr;have HB1:=hD (HB4.o.trans (hb1.mono HB4.o.size));clear hr hb1;go_wp2_with fail;have hg:=bP (.int .u64 (l3:Int)) (bQ (.int .u64 (h3:Int)) HR.o);exact bodyPost_ret (v:= .agg #[.int .u64 (h3:Int), .int .u64 (l3:Int)]) (results_cell_row Tryz.results87 _ _ (w.heap.size+1+1) _ _ _ _ (by simp[go_sem]) hg Tryz.underlying60 rfl kq) rfl ⟨by rw[HE3.o],(HB1.o.setCell (by show w.heap.size<=w.heap.size+1+1;omega) _).setCell (by show w.heap.size<=w.heap.size+1+1;omega) _⟩
end Go.Proofs.YtjfhfaodbjecdaaGreat
