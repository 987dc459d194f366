/- Lemmas. -/
import Derived.Test.YtjfhfaodbjecdaaGreatJK02
set_option maxHeartbeats 4000000
set_option maxRecDepth 100000
namespace Go.Proofs.YtjfhfaodbjecdaaGreat
open Go.RowKit
variable {a b gx gy k:Nat} {g fa fb:Nat->Bool} {w wr w1 W:World} {v0 v1 v2 v3:Value}
def dg (fa fb:Nat->Bool):Nat->Bool
 |0=>false
 |k+1=>fa k&&fb k||fa k&&dg fa fb k||fb k&&dg fa fb k
def jU (fa fb:Nat->Bool) (k:Nat):Bool:=(fa k !=fb k)!=dg fa fb k
theorem qB (fa fb:Nat->Bool):∀k,aF fa k+aF fb k=aF (jU fa fb) k+(if dg fa fb k then 2 ^ k else 0)
 |0=>by simp[aF,dg]
 |k+1=>by
  have ih:=qB fa fb k;rw[aF,aF,aF,Nat.pow_succ];have e:jU fa fb k=((fa k !=fb k)!=dg fa fb k):=rfl;have e2:dg fa fb (k+1)=(fa k&&fb k||fa k&&dg fa fb k||fb k&&dg fa fb k):=rfl;rw[e,e2];cases h1:fa k<;>cases h2:fb k<;>cases h3:dg fa fb k<;>simp[h3] at ih⊢<;>omega
theorem yv (ha:a<2 ^ 128) (hb:b<2 ^ 128):aF (jU a.testBit b.testBit) 128=(a+b)%2 ^ 128:=by
 have h:=qB a.testBit b.testBit 128;rw[bM ha fun _ _=>rfl,bM hb fun _ _=>rfl] at h;have l:=eX (jU a.testBit b.testBit) 128;rw[h];split
 ·rw[Nat.add_mod_right,Nat.mod_eq_of_lt l]
 rw[Nat.add_zero,Nat.mod_eq_of_lt l]
def OpG (g fa fb:Nat->Bool) (w:World) (gx gy k:Nat) (wr:World):Prop:=
 wr.heap[gx]?=some (.cells (aw fun i=>if i<k then g i else fa i) 114 (0,0))/\wr.heap[gy]?=some (.cells (aw fb) 114 (0,0))/\
 (∃ c0 c1,wr.heap[w.heap.size+1+1]?=some (.cells #[c0,c1] 60 (0,0)))/\Bl w wr
theorem OpG.cells (h:OpG g fa fb w gx gy k wr) (hk:k<128):
 wr.cell? ⟨gx,k,none⟩=some (.bool (fa k))/\wr.cell? ⟨gy,k,none⟩=some (.bool (fb k))/\wr.frozen? ⟨gx,k,none⟩=false:=by
 exact Dy
theorem OpG.step {c:Bool} (h:OpG g fa fb w gx gy k wr) (hw:w1.heap=wr.heap) (hb:Bl w w1) (hn:gx≠gy) (hx:w.heap.size+1+1<gx) (hc:g k=c):
 Hd (OpG g fa fb w gx gy (k+1) (w1.setCell ⟨gx,k,none⟩ (.bool c))):=by
 obtain ⟨h1,h2,⟨c0,c1,h3⟩,h4⟩:=h;refine ⟨?_,?_,⟨c0,c1,?_⟩,hb.setCell (by show w.heap.size<=gx;omega) _⟩
 ·rw[dJ _ (by rw[hw];exact h1)];exact Ct
 ·rw[aq (fun e=>hn e.symm),hw];exact h2
 rw[aq om,hw];exact h3
theorem i6 (a b:Nat) (c:Int) (ha:a<B*B) (hb:b<B*B) (w:World):
 Calls Tryz.prog 123 #[aC a,aC b, .int .i64 c] w (ai w ((a+b)%2 ^ 128%2 ^ sh c)):=by
 obtain ⟨fa,hfa⟩:=nm a.testBit;obtain ⟨fb,hfb⟩:=nm b.testBit;have HA:Hd (∀ W,CR 52 #[aC a] W (.agg (aw fa))):=fun W=>by rw[hfa];exact aK a ha W
 have HB:Hd (∀ W,CR 52 #[aC b] W (.agg (aw fb))):=fun W=>by rw[hfb];exact aK b hb W
 have HFA:=hD hfa;have HFB:=hD hfb;obtain ⟨h1,l1,e1,-,-⟩:=ae a;obtain ⟨h2,l2,e2,-,-⟩:=ae b;rw[e1] at HA⊢;rw[e2] at HB⊢;clear e1 e2 hfa hfb;go_enter Tryz.func123,Tryz.ntmps123;go_wp2_with fail;obtain ⟨W0,hW0⟩:=nm (((w.alloc (.cells #[.int .u64 (h1:Int), .int .u64 (l1:Int)] 60)).alloc (.cells #[.int .u64 (h2:Int), .int .u64 (l2:Int)] 60)).alloc (.cells #[.int .u64 0, .int .u64 0] 60));have hbW:Bl w W0:=by rw[hW0];exact bL
 have z0:w.heap.size<W0.heap.size:=by rw[hW0];simp<;>omega
 have z1:w.heap.size+1<W0.heap.size:=by rw[hW0];simp
 have c0:W0.cell? ⟨w.heap.size,0,none⟩=some (.int .u64 (h1:Int)):=by rw[hW0];simp[go_sem]
 have c1:W0.cell? ⟨w.heap.size,1,none⟩=some (.int .u64 (l1:Int)):=by rw[hW0];simp[go_sem]
 have c2:W0.cell? ⟨w.heap.size+1,0,none⟩=some (.int .u64 (h2:Int)):=by rw[hW0];simp[go_sem]
 have c3:W0.cell? ⟨w.heap.size+1,1,none⟩=some (.int .u64 (l2:Int)):=by rw[hW0];simp[go_sem]
 have z2:w.heap.size+1+1<W0.heap.size:=by rw[hW0];simp
 have cr:W0.heap[w.heap.size+1+1]?=some (.cells #[.int .u64 0, .int .u64 0] 60 (0,0)):=by
  exact xJ
 rw[<- hW0];have HBW0:=hD hbW;clear hW0 hbW;refine dt kq (fun L a' w'=>∃v5 v6 v8 v9 v10 v11:Value,a'=⟨#[.agg #[.int .u64 (h1:Int), .int .u64 (l1:Int)], .agg #[.int .u64 (h2:Int), .int .u64 (l2:Int)], .int .i64 c, .pointer (some ⟨w.heap.size,0,none⟩), .pointer (some ⟨w.heap.size+1,0,none⟩),undef, .pointer (some ⟨w.heap.size+1+1,0,none⟩),v5,v6,undef,undef,undef,v8,v9,v10,v11,undef,undef,undef,undef,undef,undef,undef,undef,undef,undef,undef,undef,undef,undef,undef,undef,undef,undef,undef,undef,undef,undef,undef,undef,undef,undef,undef,undef,undef,undef,undef,undef,undef,undef,undef,undef,undef,undef,undef,undef,undef,undef,undef,undef],[]⟩/\TwoI (.agg #[.int .u64 (h1:Int), .int .u64 (l1:Int)]) (.agg #[.int .u64 (h2:Int), .int .u64 (l2:Int)]) fa fb W0 L v5 v6 v8 v9 v10 v11 w') ?_ ?_ ?_ ?_
 ·exact AX
 ·rintro L a' w' i hL hi hnd hdep ⟨v5,v6,v8,v9,v10,v11,rfl,hI⟩;have hL8:L.size=8:=hL;have HI:=hD hI;have d0:w'.cell? ⟨w.heap.size,0,none⟩=some (.int .u64 (h1:Int)):=(hI.below.cell (p:=⟨w.heap.size,0,none⟩) z0).trans c0;have d1:w'.cell? ⟨w.heap.size,1,none⟩=some (.int .u64 (l1:Int)):=(hI.below.cell (p:=⟨w.heap.size,1,none⟩) z0).trans c1;have d2:w'.cell? ⟨w.heap.size+1,0,none⟩=some (.int .u64 (h2:Int)):=(hI.below.cell (p:=⟨w.heap.size+1,0,none⟩) z1).trans c2;have d3:w'.cell? ⟨w.heap.size+1,1,none⟩=some (.int .u64 (l2:Int)):=(hI.below.cell (p:=⟨w.heap.size+1,1,none⟩) z1).trans c3;have hZ:Tryz.zeroCells114=aw fun _=>false:=by kernel_rfl
  have HZ:=hD hZ;clear hZ hI;match i,hi with
  |0,_=>
   exact D4
  |1,_=>
   exact Dn
  |2,_=>
   exact D5
  |3,_=>
   exact Do
  |4,_=>
   exact DF
  |5,_=>
   exact DG
  |6,_=>
   have q4:=hdep _ rfl ⟨4, .data⟩ sm kq;have q:=HI.o.h1 (hdep _ rfl ⟨1, .data⟩ sm kq);subst q;obtain ⟨g,e1,-,e3⟩:=HI.o.h4 q4;subst e1;clear hdep hnd;refine wpOp_step rfl (fun K' hK=>?_);refine eR rfl ?_;exact wp_store_row 114 (.tmp 7) (.tmp 13) rfl g (aw fa) rfl rfl 114 _ e3 (by rw[au];exact aS) (by rw[au,au]) (ce _) (hK _ _ ⟨_,_,_,_,_,_,rfl,HI.o.s6 hL8 q4 rfl⟩)
  |7,_=>
   have q5:=hdep _ rfl ⟨5, .data⟩ sm kq;have q:=HI.o.h3 (hdep _ rfl ⟨3, .data⟩ sm kq);subst q;obtain ⟨g,e1,-,e3⟩:=HI.o.h5 q5;subst e1;clear hdep hnd;refine wpOp_step rfl (fun K' hK=>?_);refine eR rfl ?_;exact wp_store_row 114 (.tmp 8) (.tmp 15) rfl g (aw fb) rfl rfl 114 _ e3 (by rw[au];exact aS) (by rw[au,au]) (ce _) (hK _ _ ⟨_,_,_,_,_,_,rfl,HI.o.s7 hL8 q5 rfl⟩)
 ·exact gN
 rintro L a' w' hall ⟨v5,v6,v8,v9,v10,v11,rfl,hI⟩;obtain ⟨rfl,rfl,rfl,rfl,gx,gy,hgn,rfl,rfl,hgx,hgy,hrx,hry,hbw⟩:=hI.all hall;have HRX:=hD hrx;have HRY:=hD hry;have HBW:=hD hbw;have HGN:=hD hgn;clear hI hall hrx hry hbw hgn HA HB c0 c1 c2 c3;have crx:=(HBW.o.block (w.heap.size+1+1) z2).trans cr;have hgx0:w.heap.size+1+1<gx:=om;have H0:Hd (OpG (jU fa fb) fa fb w gx gy 0 w'):=⟨by rw[HRX.o];congr 2,HRY.o,⟨_,_,crx⟩,HBW0.o.trans (HBW.o.mono HBW0.o.size)⟩;clear crx cr HBW HBW0 z0 z1 z2 HRX HRY;go_wp2_with fail;go_loopw [9,10] (fun cy i wr=>∃k:Nat,k<=128/\i= .int .i64 k/\cy= .bool (dg fa fb k)/\Hd (OpG (jU fa fb) fa fb w gx gy k wr)) (fun _ i _=>128-(intOf i).toNat)
 case atStart=>exact ⟨0,zl,rfl,rfl,H0⟩
 case round=>
  obtain ⟨k,hk,rfl,rfl,HK⟩:=hrel;by_cases hlt:k<128
  ·obtain ⟨r1,r2,r3⟩:=HK.o.cells hlt;have HSU:Hd (jU fa fb k=((fa k !=fb k)!=dg fa fb k)):=rfl;have HCA:Hd (dg fa fb (k+1)=(fa k&&fb k||fa k&&dg fa fb k||fb k&&dg fa fb k)):=rfl;generalize hc0:dg fa fb k=cc at HSU HCA⊢;clear hc0;cases hf1:fa k<;>cases hf2:fb k<;>cases cc
   all_goals
    rw[hf1] at r1 HSU HCA;rw[hf2] at r2 HSU HCA;clear hf1 hf2;go_wp2_with fail;go_quiet (fail);go_wp2_with fail;go_roundw
    case rel=>exact ⟨k+1,om,by go_num,by rw[HCA.o];rfl,HK.o.step rfl (below_drewN HK.o.2.2.2 _) HGN.o om (by rw[HSU.o];rfl)⟩
    case measure=>exact mz
  obtain rfl:k=128:=om;obtain ⟨r1,r2,⟨x0,x1,r3⟩,r4⟩:=HK.o;have e:(aw fun i=>if i<128 then jU fa fb i else fa i)=aw (jU fa fb):=aO fun i hi=>by rw[if_pos hi]
  rw[e] at r1;have HE:Hd (aF (jU fa fb) 128=(a+b)%2 ^ 128):=by
   show _=_;rw[HFA.o,HFB.o];exact yv (by rw[<- aY];exact ha) (by rw[<- aY];exact hb)
  have HNUM:Hd (∀ W,Calls Tryz.prog 53 #[.agg (aw (jU fa fb))] W (ai W ((a+b)%2 ^ 128))):=fun W=>by rw[<- HE.o];exact bE _ W
  have HB4:=hD r4;have H3:=hD r3;clear e r2 r3 r4 HE HK H0 HGN;have hRR:(aw (jU fa fb)).size=128:=au _;generalize (aw (jU fa fb))=RR at r1 HNUM hRR;generalize dg fa fb 128=cc;go_wp2_with (first
   |(refine wpList_load_row rfl 114 (.tmp 7) rfl gx rfl 114 RR (0,0) _ r1 Tryz.underlying114 rfl (by rw[hRR];exact aS) ?_))
  clear r1;obtain ⟨h3,l3,e3,-,-⟩:=ae ((a+b)%2 ^ 128);obtain ⟨h4,l4,e4,-,-⟩:=ae ((a+b)%2 ^ 128%2 ^ sh c);have HE3:=hD e3;have HE4:=hD e4;have HNUM2:Hd (∀ W,CR 53 #[.agg RR] W (.agg #[.int .u64 (h3:Int), .int .u64 (l3:Int)])):=fun W=>by rw[<- HE3.o];exact HNUM.o W
  have hcut:∀W,Calls Tryz.prog 24 #[aC ((a+b)%2 ^ 128), .int .i64 c] W (ai W ((a+b)%2 ^ 128%2 ^ sh c)):=fun W=>dG _ c (by rw[aY];exact Nat.mod_lt _ (Nat.two_pow_pos _)) W
  unfold ai at hcut;rw[HE3.o,HE4.o] at hcut;have HCUT2:=hD hcut;clear HNUM e3 e4 hcut HE3;refine (HNUM2.o _).mono ?_;rintro e w1 ⟨rfl,hb1⟩;have HB6:=hD (HB4.o.trans (hb1.mono HB4.o.size));have H6:=hD ((hb1.block (w.heap.size+1+1) (aI H3.o)).trans H3.o);clear hb1 H3 HB4;go_wp2_with fail;refine (HCUT2.o _).mono ?_;rintro e w4 ⟨rfl,hb1⟩;have hr:=(hb1.block (w.heap.size+1+1) (aI H6.o)).trans H6.o;have q0:w4.cell? ⟨w.heap.size+1+1,0,none⟩=some x0:=by simp[World.cell?,hr]
  have q1:w4.cell? ⟨w.heap.size+1+1,1,none⟩=some x1:=by simp[World.cell?,hr]
  have qz:∀j,w4.frozen? ⟨w.heap.size+1+1,j,none⟩=false:=fun j=>by simp[World.frozen?,hr]
  have HR:=hD hr;have HB1:=hD (HB6.o.trans (hb1.mono HB6.o.size));clear hr hb1;go_wp2_with fail;have hg:=bP (.int .u64 (l4:Int)) (bQ (.int .u64 (h4:Int)) HR.o);exact bodyPost_ret (v:= .agg #[.int .u64 (h4:Int), .int .u64 (l4:Int)]) (results_cell_row Tryz.results123 _ _ (w.heap.size+1+1) _ _ _ _ (by simp[go_sem]) hg Tryz.underlying60 rfl kq) rfl ⟨by rw[HE4.o],(HB1.o.setCell (by show w.heap.size<=w.heap.size+1+1;omega) _).setCell (by show w.heap.size<=w.heap.size+1+1;omega) _⟩
open Go.RowKit
theorem mr (n:Nat) (c:Int) (hn:n<B*B) (w:World):
 Calls Tryz.prog 76 #[aC n, .int .i64 c] w (ai w ((n%2 ^ sh c) ^^^ (2 ^ sh c-1))):=by
 obtain ⟨f,hf⟩:=nm n.testBit;have HA:Hd (∀ W,CR 52 #[aC n] W (.agg (aw f))):=fun W=>by rw[hf];exact aK n hn W
 have HF:=hD hf;obtain ⟨h1,l1,e1,-,-⟩:=ae n;rw[e1] at HA⊢;clear e1 hf;go_enter Tryz.func76,Tryz.ntmps76;go_wp2_with fail;refine (HA.o _).mono ?_;rintro e w1 ⟨rfl,hb1⟩;obtain ⟨W0,hW0⟩:=nm ((w.alloc (.cells #[.int .u64 (h1:Int), .int .u64 (l1:Int)] 60)).alloc (.cells #[.int .u64 0, .int .u64 0] 60));have hbW:Bl w W0:=by rw[hW0];exact bL
 have z1:w.heap.size+1<W0.heap.size:=by rw[hW0];simp
 have cr:W0.heap[w.heap.size+1]?=some (.cells #[.int .u64 0, .int .u64 0] 60 (0,0)):=by
  exact zo
 rw[<- hW0] at hb1;have hs1:=hb1.size;have cr1:=(hb1.block _ z1).trans cr;have HB1:=hD (hbW.trans (hb1.mono hbW.size));clear hb1 hW0 hbW cr;have hZ:Tryz.zeroCells114=aw fun _=>false:=by kernel_rfl
 have hnew:=ag w1 (.cells Tryz.zeroCells114 114);have HZS:Hd ((Tryz.zeroCells114).size=128):=by show _=_;rw[hZ];exact au _
 have hset:=setRow_heap _ _ _ (aw f) _ _ hnew;have HNW:=hD hnew;have HST:=hD hset;clear hZ hnew hset;go_wp2_with (refine wpList_store_row rfl 114 (.tmp 5) (.tmp 8) rfl w1.heap.size (aw f) rfl rfl 114 _ HNW.o (by rw[au];exact aS) (by rw[au];exact HZS.o) (ce _) ?_);obtain ⟨g,hg⟩:∃g:Nat->Bool,g=fun i=> !f i&&decide ((i:Int)<c):=⟨_,rfl⟩
 have HG:Hd (∀ i,g i=(!f i&&decide ((i:Int)<c))):=fun i=>by rw[hg]
 have H0:Hd (InAt g f w w1.heap.size (w.heap.size+1) 0 ((w1.alloc (.cells Tryz.zeroCells114 114)).setRow w1.heap.size (aw f))):=
  ⟨by rw[HST.o];congr 2,⟨_,_,by rw[setRow_other _ _ _ _ om,Below.heap_alloc _ _ _ om];exact cr1⟩,cK (HB1.o.alloc om _) om _⟩
 have HE:Hd (aF g 128=((n%2 ^ sh c) ^^^ (2 ^ sh c-1))):=by
  show _=_;have hp:2 ^ sh c<=2 ^ 128:=Nat.pow_le_pow_right om (ld c);have hpp:0<2 ^ sh c:=Nat.two_pow_pos _;have hm:n%2 ^ sh c<2 ^ sh c:=Nat.mod_lt _ hpp;refine bM (Nat.xor_lt_two_pow om om) fun i hi=>?_
  rw[HG.o,HF.o,Nat.testBit_xor,Nat.testBit_mod_two_pow,Nat.testBit_two_pow_sub_one, <-rs c i hi];cases n.testBit i<;>cases decide (i<sh c)<;>rfl
 clear hg HST HNW HZS HB1 cr1 HA;generalize (w1.alloc (.cells Tryz.zeroCells114 114)).setRow w1.heap.size (aw f)=W2 at*;go_loopw [6] (fun i wr=>∃k:Nat,k<=128/\i= .int .i64 k/\Hd (InAt g f w w1.heap.size (w.heap.size+1) k wr)) (fun i _=>128-(intOf i).toNat)
 case atStart=>exact ⟨0,zl,rfl,H0⟩
 case round=>
  obtain ⟨k,hk,rfl,HK⟩:=hrel;by_cases hlt:k<128
  ·obtain ⟨r1,r2⟩:=HK.o.cells hlt;by_cases hc:(k:Int)<c<;>cases hf1:f k
   all_goals
    rw[hf1] at r1;have HGK:Hd (g k=(!f k&&decide ((k:Int)<c))):=HG.o k;have HF1:=hD hf1;have HC:=hD hc;clear hf1;go_wp2_with fail;go_roundw
    case rel=>exact ⟨k+1,om,by go_num,HK.o.step om om (by rw[HGK.o,HF1.o];simp[HC.o])⟩
    case measure=>exact mz
  obtain rfl:k=128:=om;obtain ⟨r1,⟨x0,x1,r3⟩,r4⟩:=HK.o.done;have HNUM:Hd (∀ W,Calls Tryz.prog 53 #[.agg (aw g)] W (ai W ((n%2 ^ sh c) ^^^ (2 ^ sh c-1)))):=fun W=>by rw[<- HE.o];exact bE _ W
  have HB4:=hD r4;have H3:=hD r3;clear r3 r4 HE HK H0 HG;have hRR:(aw g).size=128:=au _;generalize aw g=RR at r1 HNUM hRR;go_wp2_with (first
   |(refine wpList_load_row rfl 114 (.tmp 5) rfl w1.heap.size rfl 114 RR (0,0) _ r1 Tryz.underlying114 rfl (by rw[hRR];exact aS) ?_))
  clear r1;obtain ⟨h3,l3,e3,-,-⟩:=ae ((n%2 ^ sh c) ^^^ (2 ^ sh c-1));have HE3:=hD e3;have HNUM2:Hd (∀ W,CR 53 #[.agg RR] W (.agg #[.int .u64 (h3:Int), .int .u64 (l3:Int)])):=fun W=>by rw[<- HE3.o];exact HNUM.o W
  clear HNUM e3;refine (HNUM2.o _).mono ?_;rintro e w3 ⟨rfl,hb1⟩;have hr:=(hb1.block (w.heap.size+1) (aI H3.o)).trans H3.o;have q0:w3.cell? ⟨w.heap.size+1,0,none⟩=some x0:=by simp[World.cell?,hr]
  have q1:w3.cell? ⟨w.heap.size+1,1,none⟩=some x1:=by simp[World.cell?,hr]
  have qz:∀j,w3.frozen? ⟨w.heap.size+1,j,none⟩=false:=fun j=>by simp[World.frozen?,hr]
  have HR:=hD hr;have HB5:=hD (HB4.o.trans (hb1.mono HB4.o.size));clear hr hb1;go_wp2_with fail;have hg:=bP (.int .u64 (l3:Int)) (bQ (.int .u64 (h3:Int)) HR.o);exact bodyPost_ret (v:= .agg #[.int .u64 (h3:Int), .int .u64 (l3:Int)]) (results_cell_row Tryz.results76 _ _ (w.heap.size+1) _ _ _ _ (by simp[go_sem]) hg Tryz.underlying60 rfl kq) rfl ⟨by rw[HE3.o],(HB5.o.setCell (by show w.heap.size<=w.heap.size+1;omega) _).setCell (by show w.heap.size<=w.heap.size+1;omega) _⟩
open Go.RowKit
theorem oe (n:Nat) (hn:n<B):Value.agg #[.int .u64 0, .int .u64 (n:Int)]=aC n:=by
 have he:=fA 0 n hn;rw[Nat.zero_mul,Nat.zero_add] at he;exact he
theorem oh (n:Nat) (hn:n<B) (w:World):
 Calls Tryz.prog 91 #[.int .u64 (n:Int)] w (ai w n):=by
 have H:=hD (oe n hn);clear hn;go_enter Tryz.func91,Tryz.ntmps91;go_wp2;exact bodyPost_ret (v:= .agg #[.int .u64 0, .int .u64 (n:Int)]) (by simp[results,Tryz.results91,go_sem]) rfl ⟨by rw[H.o],bL⟩
theorem yw (n s:Nat) (hn:n<B*B):(s<64->∀h l:Nat,h=n/B->l=n%B->Value.agg #[.int .u64 ((h:Int)/2 ^ s), .int .u64 (bits .or .u64 ((l:Int)/2 ^ s) (IntKind.u64.wrap ((h:Int)*2 ^ (64-s))))]=aC (n/2 ^ s))/\
 (64<=s->∀h l:Nat,h=n/B->l=n%B->Value.agg #[.int .u64 0, .int .u64 ((h:Int)/2 ^ (s-64))]=aC (n/2 ^ s)):=by
 refine ⟨fun hs h l e1 e2=>?_,fun hs h l e1 e2=>?_⟩
 ·subst e1 e2;rw[tE _ _ _ (dB hn) (eJ _) hs,je]
 subst e1 e2;rw[tF _ (n%B) _ (dB hn) (eJ _) hs,je]
theorem i7 (n:Nat) (k:Int) (w:World) (hn:n<B*B):
 Calls Tryz.prog 102 #[aC n, .int .i64 k] w (ai w (n/2 ^ sh k)):=by
 have HV:=hD (yw n (sh k) hn);obtain ⟨y,z,he,hh,hl⟩:=ae n;have HH:Hd (y=n/B/\z=n%B):=⟨hh,hl⟩;rw[he];clear he hh hl hn;rcases Int.lt_or_le 0 k with h0|h0
 ·obtain ⟨s,rfl⟩:=Int.eq_ofNat_of_zero_le (Int.le_of_lt h0);have h0':0<s:=om;clear h0;rcases Nat.lt_or_ge s 64 with h1|h1
  ·have HS:Hd (sh (s:Int)=s):=by show _=_;unfold sh;omega
   go_enter Tryz.func102,Tryz.ntmps102;go_wp2;exact bodyPost_ret (v:= .agg #[.int .u64 ((y:Int)/2 ^ s), .int .u64 (bits .or .u64 ((z:Int)/2 ^ s) (IntKind.u64.wrap ((y:Int)*2 ^ (64-s))))]) (by simp[results,Tryz.results102,go_sem]) rfl ⟨by rw[HS.o] at HV⊢;rw[HV.o.1 h1 y z HH.o.1 HH.o.2],bL⟩
  rcases Nat.lt_or_ge s 129 with h2|h2
  ·have HS:Hd (sh (s:Int)=s):=by show _=_;unfold sh;omega
   by_cases h3:s=128
   ·subst h3;go_enter Tryz.func102,Tryz.ntmps102;go_wp2;exact bodyPost_ret (v:= .agg #[.int .u64 0, .int .u64 ((y:Int)/18446744073709551616)]) (by simp[results,Tryz.results102,go_sem]) rfl ⟨by rw[HS.o] at HV⊢;rw[<- HV.o.2 h1 y z HH.o.1 HH.o.2];simp,bL⟩
   have h4:s<128:=om;clear h3 h2;go_enter Tryz.func102,Tryz.ntmps102;go_wp2;exact bodyPost_ret (v:= .agg #[.int .u64 0, .int .u64 ((y:Int)/2 ^ (s-64))]) (by simp[results,Tryz.results102,go_sem]) rfl ⟨by rw[HS.o] at HV⊢;rw[HV.o.2 h1 y z HH.o.1 HH.o.2],bL⟩
  have HS:Hd (sh (s:Int)=128):=by show _=_;unfold sh;omega
  go_enter Tryz.func102,Tryz.ntmps102;go_wp2;exact bodyPost_ret (v:= .agg #[.int .u64 0, .int .u64 ((y:Int)/18446744073709551616)]) (by simp[results,Tryz.results102,go_sem]) rfl ⟨by rw[HS.o] at HV⊢;rw[<- HV.o.2 om y z HH.o.1 HH.o.2];simp,bL⟩
 have HS:Hd (sh k=0):=by show _=_;unfold sh;omega
 go_enter Tryz.func102,Tryz.ntmps102;go_wp2;all_goals exact bodyPost_ret (v:= .agg #[.int .u64 (y:Int), .int .u64 (bits .or .u64 (z:Int) (IntKind.u64.wrap ((y:Int)*18446744073709551616)))]) (by simp[results,Tryz.results102,go_sem]) rfl ⟨by rw[HS.o] at HV⊢;rw[<- HV.o.1 om y z HH.o.1 HH.o.2];simp,bL⟩
theorem wl:Value.agg #[.int .u64 18446744073709551615, .int .u64 18446744073709551615]=aC (B*B-1):=by kernel_rfl
theorem dV:B*B=2 ^ 128:=by rw[fx, <-Nat.pow_add]
theorem wm (t:Nat) (h:t<=128):(B*B-1)/2 ^ (128-t)=2 ^ t-1:=by
 have h1:B*B=2 ^ t*2 ^ (128-t):=by rw[dV, <-Nat.pow_add];congr 1;omega
 have h2:0<2 ^ (128-t):=Nat.two_pow_pos _;have h3:0<2 ^ t:=Nat.two_pow_pos _;apply Nat.div_eq_of_lt_le
 ·rw[Nat.sub_mul,h1];omega
 rw[h1,Nat.sub_add_cancel h3];have:0<2 ^ t*2 ^ (128-t):=Nat.mul_pos h3 h2;omega
theorem pd (w:Int):2 ^ sh w-1<B*B:=by
 have h1:2 ^ sh w<=2 ^ 128:=Nat.pow_le_pow_right om (ld w);have h2:0<2 ^ sh w:=Nat.two_pow_pos _;rw[dV];omega
theorem kw (k:Int) (w:World):Calls Tryz.prog 118 #[.int .i64 k] w (ai w (2 ^ sh k-1)):=by
 by_cases h0:k<1
 ·have HS:Hd (sh k=0):=by show _=_;unfold sh;omega
  go_enter Tryz.func118,Tryz.ntmps118;go_wp2_with fail;exact bodyPost_ret (v:= .agg #[.int .u64 0, .int .u64 0]) (by simp[results,Tryz.results118,go_sem]) rfl ⟨by rw[HS.o];rfl,bL⟩
 have HS:∀j:Int,(128<k->j=0)->(k<=128->j=128-k)->Hd ((B*B-1)/2 ^ sh j=2 ^ sh k-1):=by
  intro j h1 h2;show _=_;rw[<- wm _ (ld k)];have:sh j=128-sh k:=by unfold sh;omega
  rw[this]
 have HL:Hd (B*B-1<B*B):=by show _<_;unfold B;omega
 have HO:=hD wl;go_enter Tryz.func118,Tryz.ntmps118;go_wp2_with fail;all_goals
  rw[HO.o];refine (i7 _ _ _ HL.o).mono ?_;rintro e w1 ⟨rfl,hb⟩;obtain ⟨hc,hf⟩:=bT hb;have hz:=hb.size;simp at hz;obtain ⟨y,z,he,-,-⟩:=ae ((B*B-1)/2 ^ sh _);have HE:=hD he;rw[he];clear he;go_wp2_with fail;have L2:w.heap.size<w.heap.size+1+1:=om
  exact bodyPost_ret (v:= .agg #[.int .u64 (y:Int), .int .u64 (z:Int)]) (by simp[results,Tryz.results118,go_sem,hc,hf,hz,L2]) rfl ⟨by rw[<- HE.o];rw[(HS _ (by intro;omega) (by intro;omega)).o],bL⟩
theorem dh (n:Nat) (k:Int) (w:World) (hn:n<B*B):Calls Tryz.prog 69 #[aC n, .int .i64 k] w (ai w (n%2 ^ sh k)):=by
 have HV:Hd (n &&& (2 ^ sh k-1)=n%2 ^ sh k):=Nat.and_two_pow_sub_one_eq_mod n (sh k);have HB:=hD (sH n (2 ^ sh k-1) hn (pd k));obtain ⟨y,z,he,hy,hz0⟩:=ae n;obtain ⟨u,v,hm,hu,hv⟩:=ae (2 ^ sh k-1);rw[<- hy, <-hz0, <-hu, <-hv] at HB;have HM:=hD hm;rw[he];clear he hy hz0 hm hu hv;go_enter Tryz.func69,Tryz.ntmps69;go_wp2_with fail;go_region_with (first
  |(go_at_call 118;refine (kw _ _).mono ?_;rintro e w1 ⟨rfl,hb⟩;rw[HM.o];obtain ⟨hc,hf⟩:=bT hb;have hz:=hb.size;simp at hz;have L1:w.heap.size+1<w1.heap.size:=by omega)
  |(go_at_call 109;refine (sO _ _ _ _ _).mono ?_;rintro e w2 ⟨rfl,hb2⟩;obtain ⟨hc2,hf2⟩:=bT hb2;have hz2:=hb2.size))
 all_goals go_wp2_with fail
 all_goals exact bodyPost_ret (v:= .agg #[.int .u64 (bits .and .u64 (y:Int) (u:Int)), .int .u64 (bits .and .u64 (z:Int) (v:Int))]) (by simp[results,Tryz.results69,go_sem,hc,hf,hc2,hf2,L1]) rfl ⟨by rw[HB.o,HV.o],bL⟩
theorem mt (n:Nat) (k j:Int) (w:World) (hn:n<B*B):Calls Tryz.prog 100 #[aC n, .int .i64 k, .int .i64 j] w (ai w (n*2 ^ sh k%(B*B)%2 ^ sh j)):=by
 have HC:Hd (n*2 ^ sh k%(B*B)<B*B):=Nat.mod_lt _ (by unfold B;omega);have HV1:sh k<64->∀y z:Nat,y=n/B->z=n%B->Value.agg #[.int .u64 (bits .or .u64 (IntKind.u64.wrap ((y:Int)*2 ^ sh k)) ((z:Int)/2 ^ (64-sh k))), .int .u64 (IntKind.u64.wrap ((z:Int)*2 ^ sh k))]=aC (n*2 ^ sh k%(B*B)):=by
  intro hs y z e1 e2;subst e1 e2;rw[tG _ _ _ (dB hn) (eJ _) hs,je]
 have HV2:64<=sh k->∀z:Nat,z=n%B->Value.agg #[.int .u64 (IntKind.u64.wrap ((z:Int)*2 ^ (sh k-64))), .int .u64 0]=aC (n*2 ^ sh k%(B*B)):=by
  intro hs z e2;subst e2;rw[tH _ (n%B) _ (dB hn) (eJ _) hs,je]
 have HA:=hD HV1;clear HV1;have HB:=hD HV2;clear HV2;obtain ⟨y,z,he,hy,hz0⟩:=ae n;have HH:Hd (y=n/B/\z=n%B):=⟨hy,hz0⟩;rw[he];clear he hy hz0 hn;rcases Int.lt_or_le 0 k with h0|h0
 ·obtain ⟨s,rfl⟩:=Int.eq_ofNat_of_zero_le (Int.le_of_lt h0);have h0':0<s:=om;clear h0;rcases Nat.lt_or_ge s 64 with h1|h1
  ·have HS:Hd (sh (s:Int)=s):=by show _=_;unfold sh;omega
   have HE:Hd (Value.agg #[.int .u64 (bits .or .u64 (IntKind.u64.wrap ((y:Int)*2 ^ s)) ((z:Int)/2 ^ (64-s))), .int .u64 (IntKind.u64.wrap ((z:Int)*2 ^ s))]=aC (n*2 ^ sh (s:Int)%(B*B))):=by
    show _=_;rw[<- HA.o (by rw[HS.o];exact h1) y z HH.o.1 HH.o.2,HS.o]
   exact gJ
  rcases Nat.lt_or_ge s 128 with h2|h2
  ·have HS:Hd (sh (s:Int)=s):=by show _=_;unfold sh;omega
   have HE:Hd (Value.agg #[.int .u64 (IntKind.u64.wrap ((z:Int)*2 ^ (s-64))), .int .u64 0]=aC (n*2 ^ sh (s:Int)%(B*B))):=by
    show _=_;rw[<- HB.o (by rw[HS.o];exact h1) z HH.o.2,HS.o]
   exact gJ
  have HS:Hd (sh (s:Int)=128):=by show _=_;unfold sh;omega
  have HE:Hd (Value.agg #[.int .u64 (IntKind.u64.wrap ((z:Int)*18446744073709551616)), .int .u64 0]=aC (n*2 ^ sh (s:Int)%(B*B))):=by
   show _=_;rw[<- HB.o (by rw[HS.o];omega) z HH.o.2,HS.o];simp
  by_cases h3:s=128
  ·subst h3;exact gJ
  have h4:128<s:=om;clear h3 h2;exact gJ
 have HS:Hd (sh k=0):=by show _=_;unfold sh;omega
 have HE:Hd (Value.agg #[.int .u64 (bits .or .u64 (IntKind.u64.wrap (y:Int)) ((z:Int)/18446744073709551616)), .int .u64 (IntKind.u64.wrap ((z:Int)))]=aC (n*2 ^ sh k%(B*B))):=by
  show _=_;rw[<- HA.o (by rw[HS.o];omega) y z HH.o.1 HH.o.2,HS.o];simp
 exact gJ
open Go.RowKit
theorem eZ (n:Nat) (hn:n<B) (w:World):
 Calls Tryz.prog 19 #[.int .u64 (n:Int)] w (ai w n):=by
 have H:=hD (oe n hn);clear hn;go_enter Tryz.func19,Tryz.ntmps19;go_wp2;exact bodyPost_ret (v:= .agg #[.int .u64 0, .int .u64 (n:Int)]) (by simp[results,Tryz.results19,go_sem]) rfl ⟨by rw[H.o],bL⟩
open Go.RowKit
def nC (a b:Nat) (c:Int):Nat:=(a+(2 ^ 128-b))%2 ^ 128%2 ^ sh c
theorem zC:sh 128=128:=by unfold sh;omega
theorem tg (hb:b<2 ^ 128):(b%2 ^ sh 128) ^^^ (2 ^ sh 128-1)=2 ^ 128-1-b:=by
 rw[zC,Nat.mod_eq_of_lt hb];apply Nat.eq_of_testBit_eq;intro i;rw[Nat.testBit_xor,Nat.testBit_two_pow_sub_one,show 2 ^ 128-1-b=2 ^ 128-(b+1) by omega,Nat.testBit_two_pow_sub_succ hb];by_cases h:i<128
 ·simp[h]
 have:=Nat.testBit_lt_two_pow (Nat.lt_of_lt_of_le hb (Nat.pow_le_pow_right om (by omega:128<=i)));simp[h,this]
theorem yz (c:Int) (ha:a<2 ^ 128) (hb:b<2 ^ 128):((a+((b%2 ^ sh 128) ^^^ (2 ^ sh 128-1)))%2 ^ 128%2 ^ sh 128+1)%2 ^ 128%2 ^ sh c=nC a b c:=by
 rw[tg hb,zC,Nat.mod_mod];unfold nC;congr 1;rw[Nat.mod_add_mod];congr 1;omega
theorem zD (hb:Bl W w1) (h:Bl w W/\W.cell? ⟨w.heap.size,0,none⟩=some v0/\W.cell? ⟨w.heap.size,1,none⟩=some v1/\W.cell? ⟨w.heap.size+1,0,none⟩=some v2/\W.cell? ⟨w.heap.size+1,1,none⟩=some v3/\(∃ x,W.cell? ⟨w.heap.size+1+1,0,none⟩=some x)/\(∃ x,W.cell? ⟨w.heap.size+1+1,1,none⟩=some x)/\W.frozen? ⟨w.heap.size+1+1,0,none⟩=false/\W.frozen? ⟨w.heap.size+1+1,1,none⟩=false):
 Bl w w1/\w1.cell? ⟨w.heap.size,0,none⟩=some v0/\w1.cell? ⟨w.heap.size,1,none⟩=some v1/\w1.cell? ⟨w.heap.size+1,0,none⟩=some v2/\w1.cell? ⟨w.heap.size+1,1,none⟩=some v3/\(∃ x,w1.cell? ⟨w.heap.size+1+1,0,none⟩=some x)/\(∃ x,w1.cell? ⟨w.heap.size+1+1,1,none⟩=some x)/\w1.frozen? ⟨w.heap.size+1+1,0,none⟩=false/\w1.frozen? ⟨w.heap.size+1+1,1,none⟩=false:=by
 obtain ⟨q,q0,q1,q2,q3,⟨x4,q4⟩,⟨x5,q5⟩,q6,q7⟩:=h;exact ⟨q.trans (hb.mono q.size),(hb.cell (af q0).1).trans q0,(hb.cell (af q1).1).trans q1,(hb.cell (af q2).1).trans q2,(hb.cell (af q3).1).trans q3,⟨x4,(hb.cell (af q4).1).trans q4⟩,⟨x5,(hb.cell (af q5).1).trans q5⟩,(hb.frozen (af q4).1).trans q6,(hb.frozen (af q5).1).trans q7⟩
theorem yA (a b:Value) (h:Bl w W/\W.cell? ⟨w.heap.size,0,none⟩=some v0/\W.cell? ⟨w.heap.size,1,none⟩=some v1/\W.cell? ⟨w.heap.size+1,0,none⟩=some v2/\W.cell? ⟨w.heap.size+1,1,none⟩=some v3/\(∃ x,W.cell? ⟨w.heap.size+1+1,0,none⟩=some x)/\(∃ x,W.cell? ⟨w.heap.size+1+1,1,none⟩=some x)/\W.frozen? ⟨w.heap.size+1+1,0,none⟩=false/\W.frozen? ⟨w.heap.size+1+1,1,none⟩=false):
 Bl w ((W.setCell ⟨w.heap.size+1+1,0,none⟩ a).setCell ⟨w.heap.size+1+1,1,none⟩ b)/\((W.setCell ⟨w.heap.size+1+1,0,none⟩ a).setCell ⟨w.heap.size+1+1,1,none⟩ b).cell? ⟨w.heap.size,0,none⟩=some v0/\((W.setCell ⟨w.heap.size+1+1,0,none⟩ a).setCell ⟨w.heap.size+1+1,1,none⟩ b).cell? ⟨w.heap.size,1,none⟩=some v1/\((W.setCell ⟨w.heap.size+1+1,0,none⟩ a).setCell ⟨w.heap.size+1+1,1,none⟩ b).cell? ⟨w.heap.size+1,0,none⟩=some v2/\((W.setCell ⟨w.heap.size+1+1,0,none⟩ a).setCell ⟨w.heap.size+1+1,1,none⟩ b).cell? ⟨w.heap.size+1,1,none⟩=some v3/\(∃ x,((W.setCell ⟨w.heap.size+1+1,0,none⟩ a).setCell ⟨w.heap.size+1+1,1,none⟩ b).cell? ⟨w.heap.size+1+1,0,none⟩=some x)/\(∃ x,((W.setCell ⟨w.heap.size+1+1,0,none⟩ a).setCell ⟨w.heap.size+1+1,1,none⟩ b).cell? ⟨w.heap.size+1+1,1,none⟩=some x)/\((W.setCell ⟨w.heap.size+1+1,0,none⟩ a).setCell ⟨w.heap.size+1+1,1,none⟩ b).frozen? ⟨w.heap.size+1+1,0,none⟩=false/\((W.setCell ⟨w.heap.size+1+1,0,none⟩ a).setCell ⟨w.heap.size+1+1,1,none⟩ b).frozen? ⟨w.heap.size+1+1,1,none⟩=false:=by
 obtain ⟨q,q0,q1,q2,q3,⟨x4,q4⟩,⟨x5,q5⟩,q6,q7⟩:=h;have e:∀p:Addr,p.block≠w.heap.size+1+1->((W.setCell ⟨w.heap.size+1+1,0,none⟩ a).setCell ⟨w.heap.size+1+1,1,none⟩ b).cell? p=W.cell? p:=fun p hp=>by
  rw[World.cell?_setCell_other _ _ _ _ (by rintro rfl;exact hp rfl),World.cell?_setCell_other _ _ _ _ (by rintro rfl;exact hp rfl)]
 refine ⟨(q.setCell (by show w.heap.size<=w.heap.size+1+1;omega) _).setCell (by show w.heap.size<=w.heap.size+1+1;omega) _,(e _ (by show w.heap.size≠w.heap.size+1+1;omega)).trans q0,(e _ (by show w.heap.size≠w.heap.size+1+1;omega)).trans q1,(e _ (by show w.heap.size+1≠w.heap.size+1+1;omega)).trans q2,(e _ (by show w.heap.size+1≠w.heap.size+1+1;omega)).trans q3,⟨a,?_⟩,⟨b,?_⟩,?_,?_⟩
 ·rw[World.cell?_setCell_other _ _ _ _ sm];exact World.cell?_setCell_same _ _ _ q4
 ·exact World.cell?_setCell_same _ _ _ (by rw[World.cell?_setCell_other _ _ _ _ sm];exact q5)
 ·rw[World.frozen?_setCell,World.frozen?_setCell];exact q6
 rw[World.frozen?_setCell,World.frozen?_setCell];exact q7
theorem mu (a b:Nat) (c:Int) (ha:a<B*B) (hb:b<B*B) (w:World):
 Calls Tryz.prog 77 #[aC a,aC b, .int .i64 c] w (ai w (nC a b c)):=by
 have l1:(b%2 ^ sh 128) ^^^ (2 ^ sh 128-1)<B*B:=by rw[aY] at hb⊢;rw[tg hb];omega
 have l2:(a+((b%2 ^ sh 128) ^^^ (2 ^ sh 128-1)))%2 ^ 128%2 ^ sh 128<B*B:=by rw[aY];exact Nat.lt_of_le_of_lt (Nat.mod_le _ _) (Nat.mod_lt _ (Nat.two_pow_pos _))
 have hnot:∀W,Calls Tryz.prog 76 #[aC b, .int .i64 128] W (ai W ((b%2 ^ sh 128) ^^^ (2 ^ sh 128-1))):=fun W=>mr b 128 hb W
 have hadd:∀W,Calls Tryz.prog 123 #[aC a,aC ((b%2 ^ sh 128) ^^^ (2 ^ sh 128-1)), .int .i64 128] W (ai W ((a+((b%2 ^ sh 128) ^^^ (2 ^ sh 128-1)))%2 ^ 128%2 ^ sh 128)):=fun W=>i6 _ _ 128 ha l1 W
 have hof:∀W,Calls Tryz.prog 19 #[.int .u64 1] W (ai W 1):=fun W=>eZ 1 (by unfold B;omega) W
 have hadd2:∀W,Calls Tryz.prog 123 #[aC ((a+((b%2 ^ sh 128) ^^^ (2 ^ sh 128-1)))%2 ^ 128%2 ^ sh 128),aC 1, .int .i64 c] W (ai W (nC a b c)):=fun W=>by
  have h:=i6 _ 1 c l2 (by rw[aY];omega) W;rw[yz c (by rw[<- aY];exact ha) (by rw[<- aY];exact hb)] at h;exact h
 obtain ⟨h1,k1,e1,-,-⟩:=ae a;obtain ⟨h2,k2,e2,-,-⟩:=ae b;obtain ⟨h3,k3,e3,-,-⟩:=ae ((b%2 ^ sh 128) ^^^ (2 ^ sh 128-1));obtain ⟨h4,k4,e4,-,-⟩:=ae ((a+((b%2 ^ sh 128) ^^^ (2 ^ sh 128-1)))%2 ^ 128%2 ^ sh 128);obtain ⟨h5,k5,e5,-,-⟩:=ae 1;obtain ⟨h6,k6,e6,-,-⟩:=ae (nC a b c);have HE6:=hD e6;unfold ai at hnot hadd hof hadd2;rw[e2,e3] at hnot;rw[e1,e3,e4] at hadd;rw[e5] at hof;rw[e4,e5,e6] at hadd2;rw[e1,e2];have HNOT:=hD hnot;have HADD:=hD hadd;have HOF:=hD hof;have HADD2:=hD hadd2;clear hnot hadd hof hadd2 e1 e2 e3 e4 e5 e6 l1 l2 ha hb;go_enter Tryz.func77,Tryz.ntmps77;go_wp2_with fail;obtain ⟨W0,hW0⟩:=nm (((w.alloc (.cells #[.int .u64 (h1:Int), .int .u64 (k1:Int)] 60)).alloc (.cells #[.int .u64 (h2:Int), .int .u64 (k2:Int)] 60)).alloc (.cells #[.int .u64 0, .int .u64 0] 60));have hbW:Bl w W0:=by rw[hW0];exact bL
 have z0:w.heap.size<W0.heap.size:=by rw[hW0];simp<;>omega
 have z1:w.heap.size+1<W0.heap.size:=by rw[hW0];simp
 have z2:w.heap.size+1+1<W0.heap.size:=by rw[hW0];simp
 have c0:W0.cell? ⟨w.heap.size,0,none⟩=some (.int .u64 (h1:Int)):=by rw[hW0];simp[go_sem]
 have c1:W0.cell? ⟨w.heap.size,1,none⟩=some (.int .u64 (k1:Int)):=by rw[hW0];simp[go_sem]
 have c2:W0.cell? ⟨w.heap.size+1,0,none⟩=some (.int .u64 (h2:Int)):=by rw[hW0];simp[go_sem]
 have c3:W0.cell? ⟨w.heap.size+1,1,none⟩=some (.int .u64 (k2:Int)):=by rw[hW0];simp[go_sem]
 have c4:W0.cell? ⟨w.heap.size+1+1,0,none⟩=some (.int .u64 0):=by rw[hW0];simp[go_sem]
 have c5:W0.cell? ⟨w.heap.size+1+1,1,none⟩=some (.int .u64 0):=by rw[hW0];simp[go_sem]
 have f4:W0.frozen? ⟨w.heap.size+1+1,0,none⟩=false:=by rw[hW0];simp[go_sem]
 have f5:W0.frozen? ⟨w.heap.size+1+1,1,none⟩=false:=by rw[hW0];simp[go_sem]
 have cr:W0.heap[w.heap.size+1+1]?=some (.cells #[.int .u64 0, .int .u64 0] 60 (0,0)):=by
  exact xJ
 rw[<- hW0];have HBW0:=hD hbW;have HCR:=hD cr;clear hW0 hbW cr;go_region_held3 (fun w'=>Bl w w'/\w'.cell? ⟨w.heap.size,0,none⟩=some (.int .u64 (h1:Int))/\w'.cell? ⟨w.heap.size,1,none⟩=some (.int .u64 (k1:Int))/\w'.cell? ⟨w.heap.size+1,0,none⟩=some (.int .u64 (h2:Int))/\w'.cell? ⟨w.heap.size+1,1,none⟩=some (.int .u64 (k2:Int))/\(∃ x,w'.cell? ⟨w.heap.size+1+1,0,none⟩=some x)/\(∃ x,w'.cell? ⟨w.heap.size+1+1,1,none⟩=some x)/\w'.frozen? ⟨w.heap.size+1+1,0,none⟩=false/\w'.frozen? ⟨w.heap.size+1+1,1,none⟩=false)
  (first|exact ⟨below_drewN HBW0.o 1,c0,c1,c2,c3,⟨_,c4⟩,⟨_,c5⟩,f4,f5⟩|exact zD hb1 (by assumption)|exact yA _ _ (by assumption))
  (first
   |(go_at_call 76;refine (HNOT.o _).mono ?_;rintro e w1 ⟨rfl,hb1⟩)
   |(go_at_call 19;refine (HOF.o _).mono ?_;rintro e w1 ⟨rfl,hb1⟩)
   |(go_at_call 123;(with_reducible refine (HADD.o _).mono ?_);rintro e w1 ⟨rfl,hb1⟩)
   |(go_at_call 123;(with_reducible refine (HADD2.o _).mono ?_);rintro e w1 ⟨rfl,hb1⟩;obtain ⟨-,-,-,-,-,⟨x4,g4⟩,⟨x5,g5⟩,g6,g7⟩:=zD hb1 (by assumption)))
 rename_i hS;have HBF:=hD hS.1;clear hS;have y5:(w1.setCell ⟨w.heap.size+1+1,0,none⟩ (.int .u64 (h6:Int))).cell? ⟨w.heap.size+1+1,1,none⟩=some x5:=by rw[World.cell?_setCell_other _ _ _ _ sm];exact g5
 have y0:((w1.setCell ⟨w.heap.size+1+1,0,none⟩ (.int .u64 (h6:Int))).setCell ⟨w.heap.size+1+1,1,none⟩ (.int .u64 (k6:Int))).cell? ⟨w.heap.size+1+1,0,none⟩=some (.int .u64 (h6:Int)):=by
  rw[World.cell?_setCell_other _ _ _ _ sm];exact World.cell?_setCell_same _ _ _ g4
 have y1:((w1.setCell ⟨w.heap.size+1+1,0,none⟩ (.int .u64 (h6:Int))).setCell ⟨w.heap.size+1+1,1,none⟩ (.int .u64 (k6:Int))).cell? ⟨w.heap.size+1+1,1,none⟩=some (.int .u64 (k6:Int)):=World.cell?_setCell_same _ _ _ y5;clear y5 g4 g5 g6 g7 c0 c1 c2 c3 c4 c5 f4 f5;generalize (w1.setCell ⟨w.heap.size+1+1,0,none⟩ (.int .u64 (h6:Int))).setCell ⟨w.heap.size+1+1,1,none⟩ (.int .u64 (k6:Int))=WF at*;go_wp2_with fail;exact bodyPost_ret (v:= .agg #[.int .u64 (h6:Int), .int .u64 (k6:Int)]) (by simp[results,Tryz.results77,go_sem,y0,y1]) rfl ⟨by rw[HE6.o],HBF.o⟩
end Go.Proofs.YtjfhfaodbjecdaaGreat
