/- Lemmas. -/
import Derived.Test.YtjfhfaodbjecdaaGreatJK30
set_option maxHeartbeats 25600000
set_option maxRecDepth 100000
namespace Go.Proofs.YtjfhfaodbjecdaaGreat
open Go.RowKit
def dW (n:Nat) (hi lo:Int):Nat:=if lo<0\/hi<lo then 0 else n/2 ^ sh lo%2 ^ sh (min hi 127-lo+1)
theorem qG (n L M:Nat) (hi:Int) (hn:n<2 ^ 128) (hM:M=max L (min 128 (hi+1).toNat)) (i:Nat) (hi8:i<128):(decide (L+i<M)&&n.testBit (L+i))=(dW n hi (L:Int)).testBit i:=by
 unfold dW;by_cases h:hi<(L:Int)
 ·rw[if_pos om];have:decide (L+i<M)=false:=by simp;omega
  rw[this];simp
 rw[if_neg om,Nat.testBit_mod_two_pow,Nat.testBit_div_two_pow];by_cases hL:128<=L
 ·have:decide (L+i<M)=false:=by simp;omega
  rw[this];have e:sh (L:Int)=128:=by unfold sh;omega
  have q:n.testBit (i+128)=false:=Nat.testBit_lt_two_pow (Nat.lt_of_lt_of_le hn (Nat.pow_le_pow_right om om));rw[e,q];simp
 have e:sh (L:Int)=L:=by unfold sh;omega
 rw[e,Nat.add_comm i L];congr 1;unfold sh;simp only[decide_eq_decide];omega
theorem uu (n:Nat) (hi lo:Int) (hn:n<B*B):dW n hi lo<B*B:=by
 unfold dW;split
 ·rw[aY];exact Nat.two_pow_pos _
 exact Nat.lt_of_le_of_lt (Nat.le_trans (Nat.mod_le _ _) (Nat.div_le_self _ _)) hn
theorem pg (n L:Nat) (hi:Int) (hn:n<B*B) (w:World):
 Calls Tryz.prog 78 #[aC n, .int .i64 hi, .int .i64 (L:Int)] w (ai w (dW n hi (L:Int))):=by
 obtain ⟨f,hf⟩:=nm n.testBit;have HA:Hd (∀ W,CR 52 #[aC n] W (.agg (aw f))):=fun W=>by rw[hf];exact aK n hn W
 have HF:=hD hf;obtain ⟨h1,l1,e1,-,-⟩:=ae n;rw[e1] at HA⊢;clear e1 hf;go_enter Tryz.func78,Tryz.ntmps78;go_wp2_with fail;refine (HA.o _).mono ?_;rintro e w1 ⟨rfl,hb1⟩;obtain ⟨W0,hW0⟩:=nm ((w.alloc (.cells #[.int .u64 (h1:Int), .int .u64 (l1:Int)] 60)).alloc (.cells #[.int .u64 0, .int .u64 0] 60));have hbW:Bl w W0:=by rw[hW0];exact bL
 have z1:w.heap.size+1<W0.heap.size:=by rw[hW0];simp
 have cr:W0.heap[w.heap.size+1]?=some (.cells #[.int .u64 0, .int .u64 0] 60 (0,0)):=by
  exact zo
 rw[<- hW0] at hb1;have hs1:=hb1.size;have cr1:=(hb1.block _ z1).trans cr;have HB1:=hD (hbW.trans (hb1.mono hbW.size));clear hb1 hW0 hbW cr;have hZ:Tryz.zeroCells114=aw fun _=>false:=by kernel_rfl
 have hnew:=ag w1 (.cells Tryz.zeroCells114 114);have HZS:Hd ((Tryz.zeroCells114).size=128):=by show _=_;rw[hZ];exact au _
 have hset:=setRow_heap _ _ _ (aw f) _ _ hnew;have HNW:=hD hnew;have hal:=ag ((w1.alloc (.cells Tryz.zeroCells114 114)).setRow w1.heap.size (aw f)) (.cells Tryz.zeroCells114 114);simp only[setRow_size,World.size_alloc] at hal;have hzz:∀i,i<128->(fun _=>false:Nat->Bool) i=(fun k i=>decide (L+i<k)&&f (L+i)) L i:=fun i _=>by simp;intro h;omega
 have hez:Tryz.zeroCells114=aw ((fun k i=>decide (L+i<k)&&f (L+i)) L):=hZ.trans (aO hzz);have H0:Hd (In2 (fun k i=>decide (L+i<k)&&f (L+i)) f w w1.heap.size (w1.heap.size+1) (w.heap.size+1) L (((w1.alloc (.cells Tryz.zeroCells114 114)).setRow w1.heap.size (aw f)).alloc (.cells Tryz.zeroCells114 114))):=by
  exact gS
 clear hZ hnew hset hal hzz hez cr1 HA;go_wp2_with (refine wpList_store_row rfl 114 (.tmp 7) (.tmp 14) rfl w1.heap.size (aw f) rfl rfl 114 _ HNW.o (by rw[au];exact aS) (by rw[au];exact HZS.o) (ce _) ?_);clear HNW HZS HB1;generalize (((w1.alloc (.cells Tryz.zeroCells114 114)).setRow w1.heap.size (aw f)).alloc (.cells Tryz.zeroCells114 114))=W2 at*;obtain ⟨M,hM⟩:∃M:Nat,M=max L (min 128 (hi+1).toNat):=⟨_,rfl⟩;obtain ⟨g,hg⟩:∃g:Nat->Bool,g=fun i=>decide (L+i<M)&&f (L+i):=⟨_,rfl⟩
 have HE:Hd (aF g 128=dW n hi (L:Int)):=by
  show _=_;refine bM (by rw[<- aY];exact uu n hi _ hn) fun i hi8=>?_
  rw[hg,HF.o];exact qG n L M hi (by rw[<- aY];exact hn) hM i hi8
 have HG:Hd (∀ i,i<128->g i=(fun k i=>decide (L+i<k)&&f (L+i)) M i):=fun i _=>by rw[hg]
 clear hg;have hM1:L<=M:=om;have hM2:∀k:Nat,L<=k->k<M->k<128/\(k:Int)<=hi:=fun k h1 h2=>by omega
 have hM3:128<=M\/hi<(M:Int):=om;have HM2:=hD hM2;have HM3:=hD hM3;clear hM hM2 hM3;go_loopw [9] (fun i wr=>∃k:Nat,L<=k/\k<=M/\i= .int .i64 k/\Hd (In2 (fun k i=>decide (L+i<k)&&f (L+i)) f w w1.heap.size (w1.heap.size+1) (w.heap.size+1) k wr)) (fun i _=>M-(intOf i).toNat)
 case atStart=>exact ⟨L,Nat.le_refl _,hM1,rfl,H0⟩
 case round=>
  obtain ⟨k,hk,hkM,rfl,HK⟩:=hrel;by_cases hlt:k<M
  ·obtain ⟨hk8,hkh⟩:=HM2.o k hk hlt;obtain ⟨r1,⟨c2,r2⟩,r3⟩:=HK.o.cells (i:=k) (j:=k-L) om om;have hx0:(0:Int)<=(k:Int)-L:=om;have hx1:(k:Int)-L<128:=om;have hx2:((k:Int)-L).toNat=k-L:=om;go_wp2_with fail;go_roundw
   case rel=>exact ⟨k+1,om,om,by go_num,HK.o.step om om om (fun i _=>by
    unfold put;by_cases e:i=k-L
    ·subst e;have e2:L+(k-L)=k:=om
     simp[e2]
    ·have e1:decide (L+i<k+1)=decide (L+i<k):=by simp;omega
     simp[e,e1])⟩
   case measure=>exact mz
  obtain rfl:k=M:=om;have hM3:=HM3.o;clear HM2 HM3;by_cases hk8:k<128
  ·have hhk:hi<(k:Int):=om;exact gO
  exact gO
theorem ph (n:Nat) (hi lo:Int) (hl:lo<0) (w:World):
 Calls Tryz.prog 78 #[aC n, .int .i64 hi, .int .i64 lo] w (ai w 0):=by
 obtain ⟨h1,l1,e1,-,-⟩:=ae n;rw[e1];clear e1;have hnew:=ag (w.alloc (.cells #[.int .u64 (h1:Int), .int .u64 (l1:Int)] 60)) (.cells #[.int .u64 0, .int .u64 0] 60);simp only[World.size_alloc] at hnew;have HNEW:=hD hnew;clear hnew;go_enter Tryz.func78,Tryz.ntmps78;go_wp2_with fail;exact bodyPost_ret (v:= .agg #[.int .u64 0, .int .u64 0]) (results_cell_row Tryz.results78 _ _ (w.heap.size+1) _ _ _ _ (by simp[go_sem]) HNEW.o Tryz.underlying60 rfl kq) rfl ⟨rfl,bL⟩
theorem pi (n:Nat) (hi lo:Int) (hn:n<B*B) (w:World):Calls Tryz.prog 78 #[aC n, .int .i64 hi, .int .i64 lo] w (ai w (dW n hi lo)):=by
 by_cases hl:lo<0
 ·have e:dW n hi lo=0:=by unfold dW;rw[if_pos (Or.inl hl)]
  rw[e];exact ph n hi lo hl w
 obtain ⟨L,rfl⟩:∃L:Nat,lo=(L:Int):=⟨lo.toNat,om⟩;exact pg n L hi hn w
theorem sf (n:Nat) (K:Nat) (hn:n<B*B) (w:World):
 Calls Tryz.prog 80 #[aC n, .int .i64 (K:Int)] w (ai w (n/2 ^ min K 128)):=by
 obtain ⟨f,hf⟩:=nm n.testBit;have HA:Hd (∀ W,CR 52 #[aC n] W (.agg (aw f))):=fun W=>by rw[hf];exact aK n hn W
 have HF:=hD hf;obtain ⟨h1,l1,e1,-,-⟩:=ae n;rw[e1] at HA⊢;clear e1 hf;go_enter Tryz.func80,Tryz.ntmps80;go_wp2_with fail;refine (HA.o _).mono ?_;rintro e w1 ⟨rfl,hb1⟩;obtain ⟨W0,hW0⟩:=nm ((w.alloc (.cells #[.int .u64 (h1:Int), .int .u64 (l1:Int)] 60)).alloc (.cells #[.int .u64 0, .int .u64 0] 60));have hbW:Bl w W0:=by rw[hW0];exact bL
 have z1:w.heap.size+1<W0.heap.size:=by rw[hW0];simp
 have cr:W0.heap[w.heap.size+1]?=some (.cells #[.int .u64 0, .int .u64 0] 60 (0,0)):=by
  exact zo
 rw[<- hW0] at hb1;have hs1:=hb1.size;have cr1:=(hb1.block _ z1).trans cr;have HB1:=hD (hbW.trans (hb1.mono hbW.size));clear hb1 hW0 hbW cr;have hZ:Tryz.zeroCells114=aw fun _=>false:=by kernel_rfl
 have hnew:=ag w1 (.cells Tryz.zeroCells114 114);have HZS:Hd ((Tryz.zeroCells114).size=128):=by show _=_;rw[hZ];exact au _
 have hset:=setRow_heap _ _ _ (aw f) _ _ hnew;have HNW:=hD hnew;have hal:=ag ((w1.alloc (.cells Tryz.zeroCells114 114)).setRow w1.heap.size (aw f)) (.cells Tryz.zeroCells114 114);simp only[setRow_size,World.size_alloc] at hal;have hzz:∀i,i<128->(fun _=>false:Nat->Bool) i=(fun k i=>decide (i<k)&&f (i+K)) 0 i:=fun i _=>by simp
 have hez:Tryz.zeroCells114=aw ((fun k i=>decide (i<k)&&f (i+K)) 0):=hZ.trans (aO hzz);have H0:Hd (In2 (fun k i=>decide (i<k)&&f (i+K)) f w w1.heap.size (w1.heap.size+1) (w.heap.size+1) 0 (((w1.alloc (.cells Tryz.zeroCells114 114)).setRow w1.heap.size (aw f)).alloc (.cells Tryz.zeroCells114 114))):=by
  exact gS
 clear hZ hnew hset hal hzz hez cr1 HA;go_wp2_with (refine wpList_store_row rfl 114 (.tmp 5) (.tmp 11) rfl w1.heap.size (aw f) rfl rfl 114 _ HNW.o (by rw[au];exact aS) (by rw[au];exact HZS.o) (ce _) ?_);clear HNW HZS HB1;generalize (((w1.alloc (.cells Tryz.zeroCells114 114)).setRow w1.heap.size (aw f)).alloc (.cells Tryz.zeroCells114 114))=W2 at*;obtain ⟨M,hM⟩:∃M:Nat,M=128-K:=⟨_,rfl⟩;obtain ⟨g,hg⟩:∃g:Nat->Bool,g=fun i=>decide (i<M)&&f (i+K):=⟨_,rfl⟩
 have HE:Hd (aF g 128=n/2 ^ min K 128):=by
  show _=_;refine bM (by rw[<- aY];exact Nat.lt_of_le_of_lt (Nat.div_le_self _ _) hn) fun i hi=>?_
  rw[hg,HF.o,Nat.testBit_div_two_pow];by_cases h:i<M
  ·have hk:min K 128=K:=om;simp[h,hk,Nat.add_comm]
  simp only[h,decide_false,Bool.false_and];symm;apply Nat.testBit_lt_two_pow;rw[aY] at hn;exact Nat.lt_of_lt_of_le hn (Nat.pow_le_pow_right om om)
 have HG:Hd (∀ i,i<128->g i=(fun k i=>decide (i<k)&&f (i+K)) M i):=fun i hi=>by rw[hg]
 clear hg;have hMs:M<=128:=om;go_loopw [7] (fun i wr=>∃k:Nat,k<=M/\i= .int .i64 k/\Hd (In2 (fun k i=>decide (i<k)&&f (i+K)) f w w1.heap.size (w1.heap.size+1) (w.heap.size+1) k wr)) (fun i _=>128-(intOf i).toNat)
 case atStart=>exact ⟨0,zl,rfl,H0⟩
 case round=>
  obtain ⟨k,hk,rfl,HK⟩:=hrel;by_cases hlt:k<M
  ·have hM2:k+K<128:=om;have hM3:(k:Int)<128-(K:Int):=om;have hM4:(K:Int)<128:=om;have HM:=hD hM;clear hM;obtain ⟨r1,⟨c2,r2⟩,r3⟩:=HK.o.cells (i:=k+K) (j:=k) om om;exact Cs
  obtain rfl:k=M:=om;have hM5:(128:Int)-K<=k:=om;have hM6:(K:Int)<128->(k:Int)=128-(K:Int):=om;have HM:=hD hM;clear hM hM6;obtain ⟨-,r1,⟨x0,x1,r3⟩,r4⟩:=HK.o;have e:aw ((fun k i=>decide (i<k)&&f (i+K)) k)=aw g:=aO fun i hi=>(HG.o i hi).symm
  rw[e] at r1;clear e;have HNUM:Hd (∀ W,Calls Tryz.prog 53 #[.agg (aw g)] W (ai W (n/2 ^ min K 128))):=fun W=>by rw[<- HE.o];exact bE _ W
  have HB4:=hD r4;have H3:=hD r3;clear r3 r4 HE HK H0 HG;have hRR:(aw g).size=128:=au _;generalize aw g=RR at r1 HNUM hRR;by_cases hK8:(K:Int)<128;all_goals
   go_wp2_with (first
    |(refine wpList_load_row rfl 114 (.tmp 6) rfl (w1.heap.size+1) rfl 114 RR (0,0) _ r1 Tryz.underlying114 rfl (by rw[hRR];exact aS) ?_))
   clear r1;obtain ⟨h3,l3,e3,-,-⟩:=ae (n/2 ^ min K 128);have HE3:=hD e3;have HNUM2:Hd (∀ W,CR 53 #[.agg RR] W (.agg #[.int .u64 (h3:Int), .int .u64 (l3:Int)])):=fun W=>by rw[<- HE3.o];exact HNUM.o W
   clear HNUM e3;refine (HNUM2.o _).mono ?_;rintro e w3 ⟨rfl,hb1⟩;have hr:=(hb1.block (w.heap.size+1) (aI H3.o)).trans H3.o;have q0:w3.cell? ⟨w.heap.size+1,0,none⟩=some x0:=by simp[World.cell?,hr]
   have q1:w3.cell? ⟨w.heap.size+1,1,none⟩=some x1:=by simp[World.cell?,hr]
   have qz:∀j,w3.frozen? ⟨w.heap.size+1,j,none⟩=false:=fun j=>by simp[World.frozen?,hr]
   have HR:=hD hr;have HB5:=hD (HB4.o.trans (hb1.mono HB4.o.size));clear hr hb1;go_wp2_with fail;have hg:=bP (.int .u64 (l3:Int)) (bQ (.int .u64 (h3:Int)) HR.o);exact bodyPost_ret (v:= .agg #[.int .u64 (h3:Int), .int .u64 (l3:Int)]) (results_cell_row Tryz.results80 _ _ (w.heap.size+1) _ _ _ _ (by simp[go_sem]) hg Tryz.underlying60 rfl kq) rfl ⟨by rw[HE3.o],(HB5.o.setCell (by show w.heap.size<=w.heap.size+1;omega) _).setCell (by show w.heap.size<=w.heap.size+1;omega) _⟩
theorem sg (n:Nat) (c:Int) (hc:c<0) (hn:n<B*B) (w:World):
 Calls Tryz.prog 80 #[aC n, .int .i64 c] w (ai w (n)):=by
 obtain ⟨f,hf⟩:=nm n.testBit;have HA:Hd (∀ W,CR 52 #[aC n] W (.agg (aw f))):=fun W=>by rw[hf];exact aK n hn W
 have HF:=hD hf;obtain ⟨h1,l1,e1,-,-⟩:=ae n;rw[e1] at HA⊢;clear e1 hf;go_enter Tryz.func80,Tryz.ntmps80;go_wp2_with fail;refine (HA.o _).mono ?_;rintro e w1 ⟨rfl,hb1⟩;obtain ⟨W0,hW0⟩:=nm ((w.alloc (.cells #[.int .u64 (h1:Int), .int .u64 (l1:Int)] 60)).alloc (.cells #[.int .u64 0, .int .u64 0] 60));have hbW:Bl w W0:=by rw[hW0];exact bL
 have z1:w.heap.size+1<W0.heap.size:=by rw[hW0];simp
 have cr:W0.heap[w.heap.size+1]?=some (.cells #[.int .u64 0, .int .u64 0] 60 (0,0)):=by
  exact zo
 rw[<- hW0] at hb1;have hs1:=hb1.size;have cr1:=(hb1.block _ z1).trans cr;have HB1:=hD (hbW.trans (hb1.mono hbW.size));clear hb1 hW0 hbW cr;have hZ:Tryz.zeroCells114=aw fun _=>false:=by kernel_rfl
 have hnew:=ag w1 (.cells Tryz.zeroCells114 114);have HZS:Hd ((Tryz.zeroCells114).size=128):=by show _=_;rw[hZ];exact au _
 have hset:=setRow_heap _ _ _ (aw f) _ _ hnew;have HNW:=hD hnew;have hal:=ag ((w1.alloc (.cells Tryz.zeroCells114 114)).setRow w1.heap.size (aw f)) (.cells Tryz.zeroCells114 114);simp only[setRow_size,World.size_alloc] at hal;have hzz:∀i,i<128->(fun _=>false:Nat->Bool) i=(fun k i=>decide (i<k)&&f i) 0 i:=fun i _=>by simp
 have hez:Tryz.zeroCells114=aw ((fun k i=>decide (i<k)&&f i) 0):=hZ.trans (aO hzz);have H0:Hd (In2 (fun k i=>decide (i<k)&&f i) f w w1.heap.size (w1.heap.size+1) (w.heap.size+1) 0 (((w1.alloc (.cells Tryz.zeroCells114 114)).setRow w1.heap.size (aw f)).alloc (.cells Tryz.zeroCells114 114))):=by
  exact gS
 clear hZ hnew hset hal hzz hez cr1 HA;go_wp2_with (refine wpList_store_row rfl 114 (.tmp 5) (.tmp 11) rfl w1.heap.size (aw f) rfl rfl 114 _ HNW.o (by rw[au];exact aS) (by rw[au];exact HZS.o) (ce _) ?_);clear HNW HZS HB1;generalize (((w1.alloc (.cells Tryz.zeroCells114 114)).setRow w1.heap.size (aw f)).alloc (.cells Tryz.zeroCells114 114))=W2 at*;obtain ⟨M,hM⟩:∃M:Nat,M=128:=⟨_,rfl⟩;obtain ⟨g,hg⟩:∃g:Nat->Bool,g=fun i=>f i:=⟨_,rfl⟩
 have HE:Hd (aF g 128=n):=by
  show _=_;refine bM (by rw[<- aY];exact hn) fun i hi=>?_
  rw[hg,HF.o]
 have HG:Hd (∀ i,i<128->g i=(fun k i=>decide (i<k)&&f i) M i):=fun i hi=>by rw[hg];simp;omega
 clear hg;have hMs:M<=128:=om;have HMM:=hD hM;have hM1:M=128:=hM;go_loopw [7] (fun i wr=>∃k:Nat,k<=M/\i= .int .i64 k/\Hd (In2 (fun k i=>decide (i<k)&&f i) f w w1.heap.size (w1.heap.size+1) (w.heap.size+1) k wr)) (fun i _=>128-(intOf i).toNat)
 case atStart=>exact ⟨0,zl,rfl,H0⟩
 case round=>
  obtain ⟨k,hk,rfl,HK⟩:=hrel;by_cases hlt:k<M
  ·have hM2:k<128:=om;clear hM1 hM;obtain ⟨r1,⟨c2,r2⟩,r3⟩:=HK.o.cells (i:=k) (j:=k) om om;exact Cs
  obtain rfl:k=M:=om;obtain rfl:k=128:=hM1;clear hM;obtain ⟨-,r1,⟨x0,x1,r3⟩,r4⟩:=HK.o;have e:aw ((fun k i=>decide (i<k)&&f i) 128)=aw g:=aO fun i hi=>(HG.o i hi).symm
  rw[e] at r1;clear e;have HNUM:Hd (∀ W,Calls Tryz.prog 53 #[.agg (aw g)] W (ai W (n))):=fun W=>by rw[<- HE.o];exact bE _ W
  have HB4:=hD r4;have H3:=hD r3;clear r3 r4 HE HK H0 HG;have hRR:(aw g).size=128:=au _;generalize aw g=RR at r1 HNUM hRR;go_wp2_with (first
   |(refine wpList_load_row rfl 114 (.tmp 6) rfl (w1.heap.size+1) rfl 114 RR (0,0) _ r1 Tryz.underlying114 rfl (by rw[hRR];exact aS) ?_))
  clear r1;obtain ⟨h3,l3,e3,-,-⟩:=ae (n);have HE3:=hD e3;have HNUM2:Hd (∀ W,CR 53 #[.agg RR] W (.agg #[.int .u64 (h3:Int), .int .u64 (l3:Int)])):=fun W=>by rw[<- HE3.o];exact HNUM.o W
  clear HNUM e3;refine (HNUM2.o _).mono ?_;rintro e w3 ⟨rfl,hb1⟩;have hr:=(hb1.block (w.heap.size+1) (aI H3.o)).trans H3.o;have q0:w3.cell? ⟨w.heap.size+1,0,none⟩=some x0:=by simp[World.cell?,hr]
  have q1:w3.cell? ⟨w.heap.size+1,1,none⟩=some x1:=by simp[World.cell?,hr]
  have qz:∀j,w3.frozen? ⟨w.heap.size+1,j,none⟩=false:=fun j=>by simp[World.frozen?,hr]
  have HR:=hD hr;have HB5:=hD (HB4.o.trans (hb1.mono HB4.o.size));clear hr hb1;go_wp2_with fail;have hg:=bP (.int .u64 (l3:Int)) (bQ (.int .u64 (h3:Int)) HR.o);exact bodyPost_ret (v:= .agg #[.int .u64 (h3:Int), .int .u64 (l3:Int)]) (results_cell_row Tryz.results80 _ _ (w.heap.size+1) _ _ _ _ (by simp[go_sem]) hg Tryz.underlying60 rfl kq) rfl ⟨by rw[HE3.o],(HB5.o.setCell (by show w.heap.size<=w.heap.size+1;omega) _).setCell (by show w.heap.size<=w.heap.size+1;omega) _⟩
theorem si (n:Nat) (c:Int) (hn:n<B*B) (w:World):Calls Tryz.prog 80 #[aC n, .int .i64 c] w (ai w (n/2 ^ sh c)):=by
 by_cases hc:c<0
 ·have e:sh c=0:=by unfold sh;omega
  rw[e,Nat.pow_zero,Nat.div_one];exact sg n c hc hn w
 obtain ⟨K,rfl⟩:∃K:Nat,c=(K:Int):=⟨c.toNat,om⟩;have e:sh (K:Int)=min K 128:=by unfold sh;omega
 rw[e];exact sf n K hn w
theorem wB (m:Nat) {k:Int} {v:Nat} (na nb:Int) (h:0<=nb/\nb<=na/\na<128):kM ⟨9,k,na,nb,v⟩ m=dW m na nb:=by
 unfold kM dW;simp only[show ¬(9:Int)=7 by decide,show ¬(9:Int)=8 by decide,if_false,if_true];rw[if_neg om,show min na 127=na by omega]
theorem Ac (n:Nod) (m:Nat) (hm:m<B*B):kM n m<B*B:=by
 unfold kM;split
 ·have h1:m%2 ^ sh n.w<2 ^ sh n.w:=Nat.mod_lt _ (Nat.two_pow_pos _);have h2:2 ^ sh n.w-1<2 ^ sh n.w:=Nat.sub_lt (Nat.two_pow_pos _) dq;exact cL (Nat.xor_lt_two_pow h1 h2)
 split
 ·exact A0
 split
 ·exact A0
 split
 ·exact A0
 exact Nat.lt_of_le_of_lt (Nat.div_le_self _ _) hm
theorem Ad {p:Prg} {act:Int} {x:Pkt} {args:List Nat} {cl:List Nod} {q:KS} {cp gp:Option Addr} {cn cc gn gc:Nat} {w:World} (op k na nb:Int) (v last m:Nat) (dr se ac ab:Bool) (eg:Int) (hE:VEnv p act x args cl q cp cn cc gp gn gc w) (hop:op=7\/op=8\/op=9\/op=13\/op=14) (h9:op=9->0<=nb/\nb<=na/\na<128) (hn:cl[last]?=some ⟨op,k,na,nb,v⟩) (h1:1<=last) (hmm:m<B*B)
 (ih:∀W,Bl w W->Calls Tryz.prog 50 #[kV q x.port dr se eg ac, .slice cp cn cc, .int .i64 ((last:Int)-1), .slice gp gn gc] W fun e w'=>AnsV m (kV q x.port dr se eg ab) e/\Bl W w'):
 Calls Tryz.prog 50 #[kV q x.port dr se eg ac, .slice cp cn cc, .int .i64 (last:Int), .slice gp gn gc] w fun e w'=>AnsV (kM ⟨op,k,na,nb,v⟩ m%2 ^ sh k) (kV q x.port dr se eg ab) e/\Bl w w':=by
 obtain ⟨b,o,hps,hb,y0,y1,y2,y3,hvB,y4,y5⟩:=hE.hc.get hn;dsimp only at y0 y1 y2 y3 hvB y4 y5;have hli:(last:Int)<(cn:Int):=by have:=hE.hc.ln.1;have:=(bO hn).1;omega
 have hlb:last<=1000000:=by have:=hE.hl;have:=(bO hn).1;omega
 obtain ⟨M,hM⟩:=nm (kM ⟨op,k,na,nb,v⟩ m);have hMB:M<B*B:=by rw[hM];exact Ac _ m hmm
 rw[<- hM];have HCut:=hD (dN M hMB k);obtain ⟨a0,ha0⟩:=nm ((M/B:Nat):Int);obtain ⟨a1,ha1⟩:=nm ((M%B:Nat):Int);obtain ⟨b0,hb0⟩:=nm ((m/B:Nat):Int);obtain ⟨b1,hb1⟩:=nm ((m%B:Nat):Int);obtain ⟨c0,hc0⟩:=nm ((M%2 ^ sh k/B:Nat):Int);obtain ⟨c1,hc1⟩:=nm ((M%2 ^ sh k%B:Nat):Int);rw[<- ha0, <-ha1, <-hc0, <-hc1] at HCut;generalize ((v/B:Nat):Int)=v0 at*;generalize ((v%B:Nat):Int)=v1 at*;have HE:=hD (And.intro hc0 hc1);have HY:Hd (∀ W,Bl w W->Cl W b (o+last*6) (.int .u8 op)/\Cl W b (o+last*6+1) (.int .i64 k)/\Cl W b (o+last*6+2) (.int .i64 na)/\Cl W b (o+last*6+3) (.int .i64 nb)/\Cl W b (o+last*6+4) (.int .u64 v0)/\Cl W b (o+last*6+4+1) (.int .u64 v1)):=fun W h=>
  ⟨(h.cell (p:=⟨b,o+last*6,none⟩) hb).trans y0,(h.cell (p:=⟨b,o+last*6+1,none⟩) hb).trans y1,(h.cell (p:=⟨b,o+last*6+2,none⟩) hb).trans y2,(h.cell (p:=⟨b,o+last*6+3,none⟩) hb).trans y3,(h.cell (p:=⟨b,o+last*6+4,none⟩) hb).trans y4,(h.cell (p:=⟨b,o+last*6+4+1,none⟩) hb).trans y5⟩
 have HIH:Hd (∀ W,Bl w W->Calls Tryz.prog 50 #[kV q x.port dr se eg ac, .slice cp cn cc, .int .i64 ((last:Int)-1), .slice gp gn gc] W fun e w'=>fW b0 b1 (kV q x.port dr se eg ab) e/\Bl W w'):=fun W h=>by rw[hb0,hb1];exact ih W h
 generalize x.port=po at*;have HW3:Hd (Bl w (((w.alloc (.cells (kA q po dr se eg ac) 40)).alloc (.cells #[.int .u64 0, .int .u64 0] 60)).alloc (.cells zA 40))):=by show Below _ _ _;exact bL
 obtain ⟨y0,y1,y2,y3,y4,y5⟩:=HY.o _ HW3.o;subst hps;clear hn hvB hE hb HY HW3 ih;unfold kV at HIH⊢;have HF7:Hd (op=7->∀W,CR 76 #[.agg #[.int .u64 b0, .int .u64 b1], .int .i64 k] W (.agg #[.int .u64 a0, .int .u64 a1])):=fun h W=>by
  have e:M=(m%2 ^ sh k) ^^^ (2 ^ sh k-1):=by subst h;rw[hM];rfl
  have h:=mr m k hmm W;rw[bi m, <-hb0, <-hb1] at h;have h2:=bG h;rw[<- e, <-ha0, <-ha1] at h2;exact h2
 have HF8:Hd (op=8->∀W,CR 77 #[.agg #[.int .u64 0, .int .u64 0], .agg #[.int .u64 b0, .int .u64 b1], .int .i64 k] W (.agg #[.int .u64 a0, .int .u64 a1])):=fun h W=>by
  have e:M=nC 0 m k:=by subst h;rw[hM];rfl
  have h:=mu 0 m k dq hmm W;have z0:aC 0= .agg #[.int .u64 0, .int .u64 0]:=by kernel_rfl
  rw[z0] at h;rw[bi m, <-hb0, <-hb1] at h;have h2:=bG h;rw[<- e, <-ha0, <-ha1] at h2;exact h2
 have HF9:Hd (op=9->∀W,CR 78 #[.agg #[.int .u64 b0, .int .u64 b1], .int .i64 na, .int .i64 nb] W (.agg #[.int .u64 a0, .int .u64 a1])):=fun h W=>by
  have e:M=dW m na nb:=by subst h;rw[hM,wB m na nb (h9 rfl)]
  have h:=pi m na nb hmm W;rw[bi m, <-hb0, <-hb1] at h;have h2:=bG h;rw[<- e, <-ha0, <-ha1] at h2;exact h2
 have HF13:Hd (op=13->∀W,CR 79 #[.agg #[.int .u64 b0, .int .u64 b1], .int .i64 na, .int .i64 k] W (.agg #[.int .u64 a0, .int .u64 a1])):=fun h W=>by
  have e:M=m*2 ^ sh na%(B*B)%2 ^ sh k:=by subst h;rw[hM];rfl
  have h:=mq m na k hmm W;rw[bi m, <-hb0, <-hb1] at h;have h2:=bG h;rw[<- e, <-ha0, <-ha1] at h2;exact h2
 have HF14:Hd (op=14->∀W,CR 80 #[.agg #[.int .u64 b0, .int .u64 b1], .int .i64 na] W (.agg #[.int .u64 a0, .int .u64 a1])):=fun h W=>by
  have e:M=m/2 ^ sh na:=by subst h;rw[hM];rfl
  have h:=si m na hmm W;rw[bi m, <-hb0, <-hb1] at h;have h2:=bG h;rw[<- e, <-ha0, <-ha1] at h2;exact h2
 have HAS:Hd (∀ W,Calls Tryz.prog 73 #[.int .u8 op] W fun e w'=>e= .returned (.int .i64 1)/\w'=W):=fun W=>by
  rcases hop with rfl|rfl|rfl|rfl|rfl
  ·exact bF 7 W
  ·exact bF 8 W
  ·exact bF 9 W
  ·exact bF 13 W
  ·exact bF 14 W
 clear ha0 ha1 hb0 hb1 hc0 hc1 hM hmm h9 hMB;go_enter Tryz.func50,Tryz.ntmps50;go_upto_region 4 with fail;obtain ⟨W0,hW0⟩:=nm ((((((w.alloc (.cells (kA q po dr se eg ac) 40)).alloc (.cells #[.int .u64 0, .int .u64 0] 60)).alloc (.cells zA 40)).alloc (.cells #[.int .u8 op, .int .i64 k, .int .i64 na, .int .i64 nb, .int .u64 v0, .int .u64 v1] 65)).alloc (.cells #[.int .u64 0, .int .u64 0] 60)).alloc (.cells #[.int .u64 0, .int .u64 0] 60));obtain ⟨z0,z1,z2,z3,z4,z5,zb,zs⟩:=six _ _ _ _ _ _ W0 hW0;have HX0:Hd (Bx W0 (w.heap.size) (kL q po dr se eg ac)):=z0;have HR0:Hd (NB W0 (w.heap.size+1) (.int .u64 0) (.int .u64 0)):=z1;have HZ0:Hd (Bx W0 (w.heap.size+1+1) zL):=z2;have HD0:Hd (NBox W0 (w.heap.size+1+1+1) op k na nb v0 v1):=z3;have HA0:Hd (NB W0 (w.heap.size+1+1+1+1) (.int .u64 0) (.int .u64 0)):=z4;have HC0:Hd (NB W0 (w.heap.size+1+1+1+1+1) (.int .u64 0) (.int .u64 0)):=z5;have HB0:=hD zb;rw[<- hW0];clear hW0 z0 z1 z2 z3 z4 z5 zb zs;obtain ⟨d0,d1,d2,d3,d4,d5⟩:=HD0.o.cells;obtain ⟨e0,e1,e2,e3,e4,e5,e6,e7,e8⟩:=HX0.o.c9;have x0:=HA0.o.c0;have x1:=HA0.o.c1;have x2:=HA0.o.free 0;have x3:=HA0.o.free 1;go_upto_region 10 with (first
  |(go_at_call 73;(with_reducible refine (HAS.o _).mono ?_);rintro e w1 ⟨rfl,hw⟩;obtain rfl:=hw.symm)
  |(go_at_call 50;(with_reducible refine (HIH.o _ HB0.o).mono ?_);rintro e w2 ⟨he,hb2⟩;unfold fW at he;subst he;have HX2:=hD (HX0.o.below hb2);have HR2:=hD (HR0.o.below hb2);have HZ2:=hD (HZ0.o.below hb2);have HD2:=hD (HD0.o.below hb2);have HA2:=hD (HA0.o.below hb2);have HB2:=hD (HB0.o.trans (hb2.mono HB0.o.size));have x0:=HA2.o.c0;have x1:=HA2.o.c1;have x2:=HA2.o.free 0;have x3:=HA2.o.free 1;obtain ⟨d0,d1,d2,d3,d4,d5⟩:=HD2.o.cells;obtain ⟨e0,e1,e2,e3,e4,e5,e6,e7,e8⟩:=HX2.o.c9;obtain ⟨f0,f1,f2,f3,f4,f5,f6,f7,f8⟩:=HX2.o.f9;clear hb2))
 obtain ⟨W8,hW8⟩:=nm ((w2.setCell ⟨w.heap.size+1+1+1+1,0,none⟩ (.int .u64 b0)).setCell ⟨w.heap.size+1+1+1+1,1,none⟩ (.int .u64 b1));have hX8:Bx W8 (w.heap.size) (kL q po dr se eg ac):=by rw[hW8];exact (HX2.o.other om _).other om _
 have hR8:NB W8 (w.heap.size+1) (.int .u64 0) (.int .u64 0):=by rw[hW8];exact (HR2.o.other om _).other om _
 have hZ8:Bx W8 (w.heap.size+1+1) zL:=by rw[hW8];exact (HZ2.o.other om _).other om _
 have hD8:NBox W8 (w.heap.size+1+1+1) op k na nb v0 v1:=by rw[hW8];exact (HD2.o.other om _).other om _
 have hA8:NB W8 (w.heap.size+1+1+1+1) (.int .u64 b0) (.int .u64 b1):=by rw[hW8];exact HA2.o.put _ _
 have hB8:Bl w W8:=by rw[hW8];exact (HB2.o.setCell (by show w.heap.size<=w.heap.size+1+1+1+1;omega) _).setCell (by show w.heap.size<=w.heap.size+1+1+1+1;omega) _
 rw[<- hW8, <-bw];clear hW8 x0 x1 x2 x3 d0 d1 d2 d3 d4 d5 e0 f0 e1 f1 e2 f2 e3 f3 e4 f4 e5 f5 e6 f6 e7 f7 e8 f8;obtain ⟨W3,hW9,hX9,hO9,hB9,-⟩:=ni hX8 (kL q po dr se eg ab) rfl;rw[hW9];clear hW9;have hB9:=hB9 _ _ hB8 lr;have HX3:=hD hX9;have HR3:Hd (NB W3 (w.heap.size+1) (.int .u64 0) (.int .u64 0)):=(hO9 _ om).trans hR8;have HZ3:Hd (Bx W3 (w.heap.size+1+1) zL):=(hO9 _ om).trans hZ8;have HD3:Hd (NBox W3 (w.heap.size+1+1+1) op k na nb v0 v1):=(hO9 _ om).trans hD8;have HA3:Hd (NB W3 (w.heap.size+1+1+1+1) (.int .u64 b0) (.int .u64 b1)):=(hO9 _ om).trans hA8;have HB3:=hD hB9;clear hX8 hR8 hZ8 hD8 hA8 hB8 hX9 hO9 hB9;have x0:=HA3.o.c0;have x1:=HA3.o.c1;have x2:=HA3.o.free 0;have x3:=HA3.o.free 1;obtain ⟨d0,d1,d2,d3,d4,d5⟩:=HD3.o.cells;rcases hop with h|h|h|h|h
 all_goals
  go_upto_region 34 with (first
   |(go_at_call 76;(with_reducible refine (HF7.o h _).mono ?_);rintro e w4 ⟨rfl,hb4⟩;have HX4:=hD (HX3.o.below hb4);have HR4:=hD (HR3.o.below hb4);have HZ4:=hD (HZ3.o.below hb4);have HD4:=hD (HD3.o.below hb4);have HA4:=hD (HA3.o.below hb4);have HB4:=hD (HB3.o.trans (hb4.mono HB3.o.size));have x0:=HA4.o.c0;have x1:=HA4.o.c1;have x2:=HA4.o.free 0;have x3:=HA4.o.free 1;obtain ⟨d0,d1,d2,d3,d4,d5⟩:=HD4.o.cells;clear hb4)
   |(go_at_call 77;(with_reducible refine (HF8.o h _).mono ?_);rintro e w4 ⟨rfl,hb4⟩;have HX4:=hD (HX3.o.below hb4);have HR4:=hD (HR3.o.below hb4);have HZ4:=hD (HZ3.o.below hb4);have HD4:=hD (HD3.o.below hb4);have HA4:=hD (HA3.o.below hb4);have HB4:=hD (HB3.o.trans (hb4.mono HB3.o.size));have x0:=HA4.o.c0;have x1:=HA4.o.c1;have x2:=HA4.o.free 0;have x3:=HA4.o.free 1;obtain ⟨d0,d1,d2,d3,d4,d5⟩:=HD4.o.cells;clear hb4)
   |(go_at_call 78;(with_reducible refine (HF9.o h _).mono ?_);rintro e w4 ⟨rfl,hb4⟩;have HX4:=hD (HX3.o.below hb4);have HR4:=hD (HR3.o.below hb4);have HZ4:=hD (HZ3.o.below hb4);have HD4:=hD (HD3.o.below hb4);have HA4:=hD (HA3.o.below hb4);have HB4:=hD (HB3.o.trans (hb4.mono HB3.o.size));have x0:=HA4.o.c0;have x1:=HA4.o.c1;have x2:=HA4.o.free 0;have x3:=HA4.o.free 1;obtain ⟨d0,d1,d2,d3,d4,d5⟩:=HD4.o.cells;clear hb4)
   |(go_at_call 79;(with_reducible refine (HF13.o h _).mono ?_);rintro e w4 ⟨rfl,hb4⟩;have HX4:=hD (HX3.o.below hb4);have HR4:=hD (HR3.o.below hb4);have HZ4:=hD (HZ3.o.below hb4);have HD4:=hD (HD3.o.below hb4);have HA4:=hD (HA3.o.below hb4);have HB4:=hD (HB3.o.trans (hb4.mono HB3.o.size));have x0:=HA4.o.c0;have x1:=HA4.o.c1;have x2:=HA4.o.free 0;have x3:=HA4.o.free 1;obtain ⟨d0,d1,d2,d3,d4,d5⟩:=HD4.o.cells;clear hb4)
   |(go_at_call 80;(with_reducible refine (HF14.o h _).mono ?_);rintro e w4 ⟨rfl,hb4⟩;have HX4:=hD (HX3.o.below hb4);have HR4:=hD (HR3.o.below hb4);have HZ4:=hD (HZ3.o.below hb4);have HD4:=hD (HD3.o.below hb4);have HA4:=hD (HA3.o.below hb4);have HB4:=hD (HB3.o.trans (hb4.mono HB3.o.size));have x0:=HA4.o.c0;have x1:=HA4.o.c1;have x2:=HA4.o.free 0;have x3:=HA4.o.free 1;obtain ⟨d0,d1,d2,d3,d4,d5⟩:=HD4.o.cells;clear hb4))
  obtain ⟨W9,hW9⟩:=nm ((w4.setCell ⟨w.heap.size+1+1+1+1,0,none⟩ (.int .u64 a0)).setCell ⟨w.heap.size+1+1+1+1,1,none⟩ (.int .u64 a1));have HX1:Hd (Bx W9 (w.heap.size) (kL q po dr se eg ab)):=by show Bx _ _ _;rw[hW9];exact (HX4.o.other om _).other om _
  have HR1:Hd (NB W9 (w.heap.size+1) (.int .u64 0) (.int .u64 0)):=by show NB _ _ _ _;rw[hW9];exact (HR4.o.other om _).other om _
  have HZ1:Hd (Bx W9 (w.heap.size+1+1) zL):=by show Bx _ _ _;rw[hW9];exact (HZ4.o.other om _).other om _
  have HD1:Hd (NBox W9 (w.heap.size+1+1+1) op k na nb v0 v1):=by show NBox _ _ _ _ _ _ _ _;rw[hW9];exact (HD4.o.other om _).other om _
  have HA1:Hd (NB W9 (w.heap.size+1+1+1+1) (.int .u64 a0) (.int .u64 a1)):=by show NB _ _ _ _;rw[hW9];exact HA4.o.put _ _
  have HB1:Hd (Bl w W9):=by show Below _ _ _;rw[hW9];exact (HB4.o.setCell (by show w.heap.size<=w.heap.size+1+1+1+1;omega) _).setCell (by show w.heap.size<=w.heap.size+1+1+1+1;omega) _
  rw[<- hW9];clear hW9 x0 x1 x2 x3 d0 d1 d2 d3 d4 d5;go_upto_region 34 with fail
  refine aR (RR (w.heap.size) (w.heap.size+1) (w.heap.size+1+1) (.int .u64 c0) (.int .u64 c1) (kL q po dr se eg ab)) (RR.refl _ _ _ _ _ _) kq (fun W=>RS (w.heap.size) (w.heap.size+1) (w.heap.size+1+1) W9 W) (fun _ _ h hr=>h.step hr) kq (RS.start HR1.o rfl HZ1.o) ?_;refine sq (fun aa ww ll hh=>by have:=hh.oL 11;have HI:=hh.inv;have X4:Bx ww (w.heap.size) (kL q po dr se eg ab):=(HI.oth _ HX1.o.lt om om).trans HX1.o;have X10:NBox ww (w.heap.size+1+1+1) op k na nb v0 v1:=(HI.oth _ (bV HD1.o).1 om om).trans HD1.o;have X11:NB ww (w.heap.size+1+1+1+1) (.int .u64 a0) (.int .u64 a1):=(HI.oth _ HA1.o.lt om om).trans HA1.o;obtain ⟨s0,s1,s2,s3,s4,s5,s6,s7,s8⟩:=X4.c9;obtain ⟨d0,d1,d2,d3,d4,d5⟩:=X10.cells;have x0:=X11.c0;have x1:=X11.c1;clear HI X4 X10 X11;exact ov gX) ?_;refine sq (fun aa ww ll hh=>by have:=hh.oL 10;exact ov gX) ?_;refine sq (fun aa ww ll hh=>by have:=hh.gt 1 0;have HI:=hh.inv;have X4:Bx ww (w.heap.size) (kL q po dr se eg ab):=(HI.oth _ HX1.o.lt om om).trans HX1.o;have X10:NBox ww (w.heap.size+1+1+1) op k na nb v0 v1:=(HI.oth _ (bV HD1.o).1 om om).trans HD1.o;have X11:NB ww (w.heap.size+1+1+1+1) (.int .u64 a0) (.int .u64 a1):=(HI.oth _ HA1.o.lt om om).trans HA1.o;obtain ⟨s0,s1,s2,s3,s4,s5,s6,s7,s8⟩:=X4.c9;obtain ⟨d0,d1,d2,d3,d4,d5⟩:=X10.cells;have x0:=X11.c0;have x1:=X11.c1;clear HI X4 X10 X11;exact ov gX) ?_;refine ⟨.eq (.agg #[.int .u64 c0, .int .u64 c1]),trivial,rfl,fun aa ww ll hh=>?_,?_⟩
  ·have e149:=hh.gt 0 2;have e151:=hh.gt 2 0;have ef:=fQ aa;have HI:=hh.inv;have l1:=HI.ltA;have l2:=HI.ltD;refine aE (aj rfl) ?_ ((HCut.o ww).mono fun e w1 h=>⟨h.1,RR.of_below om l1 l2 h.2⟩);try clear HI;exact gX
  refine sq (fun aa ww ll hh=>by have:=hh.oL 4;have HI:=hh.inv;have X4:Bx ww (w.heap.size) (kL q po dr se eg ab):=(HI.oth _ HX1.o.lt om om).trans HX1.o;have X10:NBox ww (w.heap.size+1+1+1) op k na nb v0 v1:=(HI.oth _ (bV HD1.o).1 om om).trans HD1.o;have X11:NB ww (w.heap.size+1+1+1+1) (.int .u64 a0) (.int .u64 a1):=(HI.oth _ HA1.o.lt om om).trans HA1.o;obtain ⟨s0,s1,s2,s3,s4,s5,s6,s7,s8⟩:=X4.c9;obtain ⟨d0,d1,d2,d3,d4,d5⟩:=X10.cells;have x0:=X11.c0;have x1:=X11.c1;clear HI X4 X10 X11;exact ov gX) ?_;refine ⟨.rel (fun W _=>NB W (w.heap.size+1) (.int .u64 c0) (.int .u64 c1)),(fun W W' _ h hr=>hr.ka h),rfl,fun aa ww ll hh=>?_,?_⟩
  ·have e8:=hh.oL 8;have e152:=hh.gt 3 1;obtain ⟨xx,yy,hk⟩:=hh.inv.oa;have u0:=hk.c0;have u1:=hk.c1;have u2:=hk.free 0;have u3:=hk.free 1;refine bk (aj rfl) (w':=(ww.setCell ⟨w.heap.size+1,0,none⟩ (.int .u64 c0)).setCell ⟨w.heap.size+1,1,none⟩ (.int .u64 c1)) ?_ (RR.putA hk om om) (hk.put _ _);try clear hk;exact gX
  refine ⟨.rel (fun W _=>Bx W (w.heap.size+1+1) (kL q po dr se eg ab)),(fun W W' _ h hr=>hr.kd h),rfl,fun aa ww ll hh=>?_,?_⟩
  ·have e9:=hh.oL 9;have e153:=hh.gt 4 1;obtain ⟨cc9,hlen,hk⟩:=hh.inv.od;obtain ⟨j0,j1,j2,j3,j4,j5,j6,j7,j8,rfl⟩:=sd hlen;obtain ⟨u0,u1,u2,u3,u4,u5,u6,u7,u8⟩:=hk.c9;obtain ⟨r0,r1,r2,r3,r4,r5,r6,r7,r8⟩:=hk.f9;refine bk (aj rfl) (w':=bw ww (w.heap.size+1+1) (.int .i64 po) (.slice q.rp q.rn q.rc) (.slice q.vp q.vn q.vc) (.slice q.fp q.fn q.fc) (.slice q.mp q.mn q.mc) (.bool dr) (.bool se) (.int .i64 eg) (.bool ab)) ?_ (RR.putD rfl hk om om) (bU (.int .i64 po) (.slice q.rp q.rn q.rc) (.slice q.vp q.vn q.vc) (.slice q.fp q.fn q.fc) (.slice q.mp q.mn q.mc) (.bool dr) (.bool se) (.int .i64 eg) (.bool ab) hk);try clear hk;exact gX
  intro ll w9 hS9 hok;have p5:=hok 5 _ rfl;have p6:=hok 6 _ rfl;clear hok;simp only[ly];have HB9:Hd (Bl w w9):=HB1.o.trans hS9.low;clear hS9;go_wp2_with fail;obtain ⟨m0,m1,m2,m3,m4,m5,m6,m7,m8⟩:=Bx.c9 p6;have b0:=p5.c0;have b1:=p5.c1;refine bodyPost_ret (v:= .tuple #[.agg #[.int .u64 c0, .int .u64 c1], .agg (kA q po dr se eg ab)]) ?_ rfl ⟨?_,HB9.o⟩
  ·simp[results,Tryz.results50,go_sem,m0,m1,m2,m3,m4,m5,m6,m7,m8,b0,b1]
  ·exact AnsV.of HE.o.1 HE.o.2 rfl
end Go.Proofs.YtjfhfaodbjecdaaGreat
