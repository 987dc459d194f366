/- Lemmas. -/
import Derived.Test.YtjfhfaodbjecdaaGreatJK24
import Derived.Test.YtjfhfaodbjecdaaGreatJK25
set_option maxHeartbeats 12800000
set_option maxRecDepth 100000
namespace Go.Proofs.YtjfhfaodbjecdaaGreat
open Go.RowKit
theorem ui (a b:Nat) (ha:a<B*B) (hb:b<B*B) (w:World):
 Calls Tryz.prog 126 #[aC a,aC b] w (ai w (a ||| b)):=by
 obtain ⟨fa,hfa⟩:=nm a.testBit;obtain ⟨fb,hfb⟩:=nm b.testBit;have HA:Hd (∀ W,CR 52 #[aC a] W (.agg (aw fa))):=fun W=>by rw[hfa];exact aK a ha W
 have HB:Hd (∀ W,CR 52 #[aC b] W (.agg (aw fb))):=fun W=>by rw[hfb];exact aK b hb W
 have HFA:=hD hfa;have HFB:=hD hfb;obtain ⟨h1,l1,e1,-,-⟩:=ae a;obtain ⟨h2,l2,e2,-,-⟩:=ae b;rw[e1] at HA⊢;rw[e2] at HB⊢;clear e1 e2 hfa hfb;go_enter Tryz.func126,Tryz.ntmps126;go_wp2_with fail;obtain ⟨W0,hW0⟩:=nm (((w.alloc (.cells #[.int .u64 (h1:Int), .int .u64 (l1:Int)] 60)).alloc (.cells #[.int .u64 (h2:Int), .int .u64 (l2:Int)] 60)).alloc (.cells #[.int .u64 0, .int .u64 0] 60));have hbW:Bl w W0:=by rw[hW0];exact bL
 have z0:w.heap.size<W0.heap.size:=by rw[hW0];simp<;>omega
 have z1:w.heap.size+1<W0.heap.size:=by rw[hW0];simp
 have c0:W0.cell? ⟨w.heap.size,0,none⟩=some (.int .u64 (h1:Int)):=by rw[hW0];simp[go_sem]
 have c1:W0.cell? ⟨w.heap.size,1,none⟩=some (.int .u64 (l1:Int)):=by rw[hW0];simp[go_sem]
 have c2:W0.cell? ⟨w.heap.size+1,0,none⟩=some (.int .u64 (h2:Int)):=by rw[hW0];simp[go_sem]
 have c3:W0.cell? ⟨w.heap.size+1,1,none⟩=some (.int .u64 (l2:Int)):=by rw[hW0];simp[go_sem]
 have z2:w.heap.size+1+1<W0.heap.size:=by rw[hW0];simp
 have cr:W0.heap[w.heap.size+1+1]?=some (.cells #[.int .u64 0, .int .u64 0] 60 (0,0)):=by
  exact xJ
 rw[<- hW0];have HBW0:=hD hbW;clear hW0 hbW;refine dt kq (fun L a' w'=>∃v5 v6 v8 v9 v10 v11:Value,a'=⟨#[.agg #[.int .u64 (h1:Int), .int .u64 (l1:Int)], .agg #[.int .u64 (h2:Int), .int .u64 (l2:Int)], .pointer (some ⟨w.heap.size,0,none⟩), .pointer (some ⟨w.heap.size+1,0,none⟩), .pointer (some ⟨w.heap.size+1+1,0,none⟩),v5,v6,undef,v8,v9,v10,v11,undef,undef,undef,undef,undef,undef,undef,undef,undef,undef,undef,undef,undef,undef,undef,undef],[]⟩/\TwoI (.agg #[.int .u64 (h1:Int), .int .u64 (l1:Int)]) (.agg #[.int .u64 (h2:Int), .int .u64 (l2:Int)]) fa fb W0 L v5 v6 v8 v9 v10 v11 w') ?_ ?_ ?_ ?_
 ·exact AX
 ·exact gC
 ·exact gN
 rintro L a' w' hall ⟨v5,v6,v8,v9,v10,v11,rfl,hI⟩;obtain ⟨rfl,rfl,rfl,rfl,gx,gy,hgn,rfl,rfl,hgx,hgy,hrx,hry,hbw⟩:=hI.all hall;have HRX:=hD hrx;have HRY:=hD hry;have HBW:=hD hbw;have HGN:=hD hgn;clear hI hall hrx hry hbw hgn HA HB c0 c1 c2 c3;have crx:=(HBW.o.block (w.heap.size+1+1) z2).trans cr;have hgx0:w.heap.size+1+1<gx:=om;have hgy0:w.heap.size+1+1<gy:=om;have H0:Hd (OpAt or fa fb w gx gy 0 w'):=⟨by rw[HRX.o];congr 2,HRY.o,⟨_,_,crx⟩,HBW0.o.trans (HBW.o.mono HBW0.o.size)⟩;clear crx cr HBW HBW0 z0 z1 z2 HRX HRY;go_wp2_with fail;go_loopw [7] (fun i wr=>∃k:Nat,k<=128/\i= .int .i64 k/\Hd (OpAt or fa fb w gx gy k wr)) (fun i _=>128-(intOf i).toNat)
 case atStart=>exact ⟨0,zl,rfl,H0⟩
 case round=>
  obtain ⟨k,hk,rfl,HK⟩:=hrel;by_cases hlt:k<128
  ·exact Cq
  obtain rfl:k=128:=om;obtain ⟨r1,r2,⟨x0,x1,r3⟩,r4⟩:=HK.o;have e:(aw fun i=>if i<128 then or (fa i) (fb i) else fa i)=aw fun i=>or (fa i) (fb i):=aO fun i hi=>by rw[if_pos hi]
  rw[e] at r1;have HE:Hd (aF (fun i=>or (fa i) (fb i)) 128=a ||| b):=by
   show _=_;rw[HFA.o,HFB.o];refine bM (Nat.or_lt_two_pow (by rw[<- aY];exact ha) (by rw[<- aY];exact hb)) fun i _=>?_
   simp[Nat.testBit_or]
  have HNUM:Hd (∀ W,Calls Tryz.prog 53 #[.agg (aw fun i=>or (fa i) (fb i))] W (ai W (a ||| b))):=fun W=>by rw[<- HE.o];exact bE _ W
  have HB4:=hD r4;have H3:=hD r3;clear e r2 r3 r4 HE HK H0 HGN;have hRR:(aw fun i=>or (fa i) (fb i)).size=128:=au _;generalize (aw fun i=>or (fa i) (fb i))=RR at r1 HNUM hRR;go_wp2_with (first
   |(refine wpList_load_row rfl 114 (.tmp 5) rfl gx rfl 114 RR (0,0) _ r1 Tryz.underlying114 rfl (by rw[hRR];exact aS) ?_))
  clear r1;obtain ⟨h3,l3,e3,-,-⟩:=ae (a ||| b);have HE3:=hD e3;have HNUM2:Hd (∀ W,CR 53 #[.agg RR] W (.agg #[.int .u64 (h3:Int), .int .u64 (l3:Int)])):=fun W=>by rw[<- HE3.o];exact HNUM.o W
  clear HNUM e3;refine (HNUM2.o _).mono ?_;rintro e w1 ⟨rfl,hb1⟩;have hr:=(hb1.block (w.heap.size+1+1) (aI H3.o)).trans H3.o;have q0:w1.cell? ⟨w.heap.size+1+1,0,none⟩=some x0:=by simp[World.cell?,hr]
  have q1:w1.cell? ⟨w.heap.size+1+1,1,none⟩=some x1:=by simp[World.cell?,hr]
  have qz:∀j,w1.frozen? ⟨w.heap.size+1+1,j,none⟩=false:=fun j=>by simp[World.frozen?,hr]
  have HR:=hD hr;have HB1:=hD (HB4.o.trans (hb1.mono HB4.o.size));clear hr hb1;go_wp2_with fail;have hg:=bP (.int .u64 (l3:Int)) (bQ (.int .u64 (h3:Int)) HR.o);exact bodyPost_ret (v:= .agg #[.int .u64 (h3:Int), .int .u64 (l3:Int)]) (results_cell_row Tryz.results126 _ _ (w.heap.size+1+1) _ _ _ _ (by simp[go_sem]) hg Tryz.underlying60 rfl kq) rfl ⟨by rw[HE3.o],(HB1.o.setCell (by show w.heap.size<=w.heap.size+1+1;omega) _).setCell (by show w.heap.size<=w.heap.size+1+1;omega) _⟩
theorem rZ (a b:Nat) (ha:a<B*B) (hb:b<B*B) (w:World):
 Calls Tryz.prog 125 #[aC a,aC b] w (ai w (a ^^^ b)):=by
 obtain ⟨fa,hfa⟩:=nm a.testBit;obtain ⟨fb,hfb⟩:=nm b.testBit;have HA:Hd (∀ W,CR 52 #[aC a] W (.agg (aw fa))):=fun W=>by rw[hfa];exact aK a ha W
 have HB:Hd (∀ W,CR 52 #[aC b] W (.agg (aw fb))):=fun W=>by rw[hfb];exact aK b hb W
 have HFA:=hD hfa;have HFB:=hD hfb;obtain ⟨h1,l1,e1,-,-⟩:=ae a;obtain ⟨h2,l2,e2,-,-⟩:=ae b;rw[e1] at HA⊢;rw[e2] at HB⊢;clear e1 e2 hfa hfb;go_enter Tryz.func125,Tryz.ntmps125;go_wp2_with fail;obtain ⟨W0,hW0⟩:=nm (((w.alloc (.cells #[.int .u64 (h1:Int), .int .u64 (l1:Int)] 60)).alloc (.cells #[.int .u64 (h2:Int), .int .u64 (l2:Int)] 60)).alloc (.cells #[.int .u64 0, .int .u64 0] 60));have hbW:Bl w W0:=by rw[hW0];exact bL
 have z0:w.heap.size<W0.heap.size:=by rw[hW0];simp<;>omega
 have z1:w.heap.size+1<W0.heap.size:=by rw[hW0];simp
 have c0:W0.cell? ⟨w.heap.size,0,none⟩=some (.int .u64 (h1:Int)):=by rw[hW0];simp[go_sem]
 have c1:W0.cell? ⟨w.heap.size,1,none⟩=some (.int .u64 (l1:Int)):=by rw[hW0];simp[go_sem]
 have c2:W0.cell? ⟨w.heap.size+1,0,none⟩=some (.int .u64 (h2:Int)):=by rw[hW0];simp[go_sem]
 have c3:W0.cell? ⟨w.heap.size+1,1,none⟩=some (.int .u64 (l2:Int)):=by rw[hW0];simp[go_sem]
 have z2:w.heap.size+1+1<W0.heap.size:=by rw[hW0];simp
 have cr:W0.heap[w.heap.size+1+1]?=some (.cells #[.int .u64 0, .int .u64 0] 60 (0,0)):=by
  exact xJ
 rw[<- hW0];have HBW0:=hD hbW;clear hW0 hbW;refine dt kq (fun L a' w'=>∃v5 v6 v8 v9 v10 v11:Value,a'=⟨#[.agg #[.int .u64 (h1:Int), .int .u64 (l1:Int)], .agg #[.int .u64 (h2:Int), .int .u64 (l2:Int)], .pointer (some ⟨w.heap.size,0,none⟩), .pointer (some ⟨w.heap.size+1,0,none⟩), .pointer (some ⟨w.heap.size+1+1,0,none⟩),v5,v6,undef,v8,v9,v10,v11,undef,undef,undef,undef,undef,undef,undef,undef,undef,undef,undef,undef,undef,undef,undef],[]⟩/\TwoI (.agg #[.int .u64 (h1:Int), .int .u64 (l1:Int)]) (.agg #[.int .u64 (h2:Int), .int .u64 (l2:Int)]) fa fb W0 L v5 v6 v8 v9 v10 v11 w') ?_ ?_ ?_ ?_
 ·exact AX
 ·exact gC
 ·exact gN
 rintro L a' w' hall ⟨v5,v6,v8,v9,v10,v11,rfl,hI⟩;obtain ⟨rfl,rfl,rfl,rfl,gx,gy,hgn,rfl,rfl,hgx,hgy,hrx,hry,hbw⟩:=hI.all hall;have HRX:=hD hrx;have HRY:=hD hry;have HBW:=hD hbw;have HGN:=hD hgn;clear hI hall hrx hry hbw hgn HA HB c0 c1 c2 c3;have crx:=(HBW.o.block (w.heap.size+1+1) z2).trans cr;have hgx0:w.heap.size+1+1<gx:=om;have hgy0:w.heap.size+1+1<gy:=om;have H0:Hd (OpAt Bool.xor fa fb w gx gy 0 w'):=⟨by rw[HRX.o];congr 2,HRY.o,⟨_,_,crx⟩,HBW0.o.trans (HBW.o.mono HBW0.o.size)⟩;clear crx cr HBW HBW0 z0 z1 z2 HRX HRY;go_wp2_with fail;go_loopw [7] (fun i wr=>∃k:Nat,k<=128/\i= .int .i64 k/\Hd (OpAt Bool.xor fa fb w gx gy k wr)) (fun i _=>128-(intOf i).toNat)
 case atStart=>exact ⟨0,zl,rfl,H0⟩
 case round=>
  obtain ⟨k,hk,rfl,HK⟩:=hrel;by_cases hlt:k<128
  ·obtain ⟨r1,r2,r3⟩:=HK.o.cells hlt;cases hf1:fa k<;>cases hf2:fb k
   all_goals
    rw[hf1] at r1;rw[hf2] at r2;have HF1:=hD hf1;have HF2:=hD hf2;clear hf1 hf2;go_wp2_with fail;go_region;go_wp2_with fail;go_roundw
    case rel=>exact ⟨k+1,om,by go_num,(HK.o.step hlt HGN.o om (by rw[HF1.o,HF2.o];rfl)).o.drewH⟩
    case measure=>exact mz
  obtain rfl:k=128:=om;obtain ⟨r1,r2,⟨x0,x1,r3⟩,r4⟩:=HK.o;have e:(aw fun i=>if i<128 then Bool.xor (fa i) (fb i) else fa i)=aw fun i=>Bool.xor (fa i) (fb i):=aO fun i hi=>by rw[if_pos hi]
  rw[e] at r1;have HE:Hd (aF (fun i=>Bool.xor (fa i) (fb i)) 128=a ^^^ b):=by
   show _=_;rw[HFA.o,HFB.o];refine bM (Nat.xor_lt_two_pow (by rw[<- aY];exact ha) (by rw[<- aY];exact hb)) fun i _=>?_
   simp[Nat.testBit_xor]
  have HNUM:Hd (∀ W,Calls Tryz.prog 53 #[.agg (aw fun i=>Bool.xor (fa i) (fb i))] W (ai W (a ^^^ b))):=fun W=>by rw[<- HE.o];exact bE _ W
  have HB4:=hD r4;have H3:=hD r3;clear e r2 r3 r4 HE HK H0 HGN;have hRR:(aw fun i=>Bool.xor (fa i) (fb i)).size=128:=au _;generalize (aw fun i=>Bool.xor (fa i) (fb i))=RR at r1 HNUM hRR;go_wp2_with (first
   |(refine wpList_load_row rfl 114 (.tmp 5) rfl gx rfl 114 RR (0,0) _ r1 Tryz.underlying114 rfl (by rw[hRR];exact aS) ?_))
  clear r1;obtain ⟨h3,l3,e3,-,-⟩:=ae (a ^^^ b);have HE3:=hD e3;have HNUM2:Hd (∀ W,CR 53 #[.agg RR] W (.agg #[.int .u64 (h3:Int), .int .u64 (l3:Int)])):=fun W=>by rw[<- HE3.o];exact HNUM.o W
  clear HNUM e3;refine (HNUM2.o _).mono ?_;rintro e w1 ⟨rfl,hb1⟩;have hr:=(hb1.block (w.heap.size+1+1) (aI H3.o)).trans H3.o;have q0:w1.cell? ⟨w.heap.size+1+1,0,none⟩=some x0:=by simp[World.cell?,hr]
  have q1:w1.cell? ⟨w.heap.size+1+1,1,none⟩=some x1:=by simp[World.cell?,hr]
  have qz:∀j,w1.frozen? ⟨w.heap.size+1+1,j,none⟩=false:=fun j=>by simp[World.frozen?,hr]
  have HR:=hD hr;have HB1:=hD (HB4.o.trans (hb1.mono HB4.o.size));clear hr hb1;go_wp2_with fail;have hg:=bP (.int .u64 (l3:Int)) (bQ (.int .u64 (h3:Int)) HR.o);exact bodyPost_ret (v:= .agg #[.int .u64 (h3:Int), .int .u64 (l3:Int)]) (results_cell_row Tryz.results125 _ _ (w.heap.size+1+1) _ _ _ _ (by simp[go_sem]) hg Tryz.underlying60 rfl kq) rfl ⟨by rw[HE3.o],(HB1.o.setCell (by show w.heap.size<=w.heap.size+1+1;omega) _).setCell (by show w.heap.size<=w.heap.size+1+1;omega) _⟩
theorem bG {f:FuncId} {av:Array Value} {n:Nat} {w:World} (h:Calls Tryz.prog f av w (ai w n)):Calls Tryz.prog f av w fun e w'=>e= .returned (.agg #[.int .u64 ((n/B:Nat):Int), .int .u64 ((n%B:Nat):Int)])/\Bl w w':=by
 obtain ⟨v1,v2,ev,ev1,ev2⟩:=ae n;unfold ai at h;rw[ev] at h;rw[<- ev1, <-ev2];exact h
theorem bi (n:Nat):aC n= .agg #[.int .u64 ((n/B:Nat):Int), .int .u64 ((n%B:Nat):Int)]:=by
 obtain ⟨v1,v2,ev,ev1,ev2⟩:=ae n;rw[ev, <-ev1, <-ev2]
def NB (w:World) (g:Nat) (x y:Value):Prop:=w.heap[g]?=some (.cells #[x,y] 60 (0,0))
section
variable {w w':World} {g:Nat} {x y:Value}
theorem NB.c0 (h:NB w g x y):w.cell? ⟨g,0,none⟩=some x:=by unfold NB at h;simp[World.cell?,h]
theorem NB.c1 (h:NB w g x y):w.cell? ⟨g,1,none⟩=some y:=by unfold NB at h;simp[World.cell?,h]
theorem NB.free (h:NB w g x y) (i:Nat):w.frozen? ⟨g,i,none⟩=false:=by unfold NB at h;simp[World.frozen?,h]
theorem NB.lt (h:NB w g x y):g<w.heap.size:=(bV h).1
theorem NB.below (h:NB w g x y) (hb:Bl w w'):NB w' g x y:=(hb.block g h.lt).trans h
theorem NB.put (h:NB w g x y) (a b:Value):NB ((w.setCell ⟨g,0,none⟩ a).setCell ⟨g,1,none⟩ b) g a b:=by
 unfold NB at*;have h1:(w.setCell ⟨g,0,none⟩ a).heap[g]?=some (.cells #[a,y] 60 (0,0)):=heap_setCell_same w g 0 _ _ _ h;exact heap_setCell_same (w.setCell ⟨g,0,none⟩ a) g 1 _ _ _ h1
theorem NB.other (h:NB w g x y) {k i:Nat} (hk:g≠k) (v:Value):NB (w.setCell ⟨k,i,none⟩ v) g x y:=(heap_setCell_other w _ g v hk).trans h
end
theorem eG (b:Bool) (w:World):Calls Tryz.prog 27 #[.bool b] w fun e w'=>e= .returned (.agg #[.int .u64 0, .int .u64 ((aU b:Nat):Int)])/\Bl w w':=by
 have HO:Hd (∀ W,CR 19 #[.int .u64 1] W (.agg #[.int .u64 0, .int .u64 1])):=fun W=>bG (eZ 1 dq W)
 obtain ⟨W0,hW0⟩:=nm (w.alloc (.cells #[.int .u64 0, .int .u64 0] 60));have HB0:Hd (Bl w W0):=by show Below _ _ _;rw[hW0];exact bL
 have HR0:Hd (NB W0 w.heap.size (.int .u64 0) (.int .u64 0)):=by show _=_;rw[hW0];exact ag _ _
 have HW:=hD hW0;clear hW0;cases b
 ·go_enter Tryz.func27,Tryz.ntmps27;go_upto_region 1 with fail;rw[<- HW.o];have r0:=HR0.o.c0;have r1:=HR0.o.c1;have r2:=HR0.o.free 0;have r3:=HR0.o.free 1;go_wp2_with fail;have hp:=HR0.o.put (.int .u64 0) (.int .u64 0);have m0:=hp.c0;have m1:=hp.c1;exact bodyPost_ret (v:= .agg #[.int .u64 0, .int .u64 0]) (by simp[results,Tryz.results27,go_sem,m0,m1]) rfl ⟨rfl,(HB0.o.setCell (by show w.heap.size<=w.heap.size;omega) _).setCell (by show w.heap.size<=w.heap.size;omega) _⟩
 ·go_enter Tryz.func27,Tryz.ntmps27;go_upto_region 1 with fail;rw[<- HW.o];go_wp2_with (go_at_call 19;(with_reducible refine (HO.o _).mono ?_);rintro e w1 ⟨rfl,hb1⟩;have HR1:=hD (HR0.o.below hb1);have HB1:=hD (HB0.o.trans (hb1.mono HB0.o.size));have r0:=HR1.o.c0;have r1:=HR1.o.c1;have r2:=HR1.o.free 0;have r3:=HR1.o.free 1;clear hb1);have hp:=HR1.o.put (.int .u64 0) (.int .u64 1);have m0:=hp.c0;have m1:=hp.c1;exact bodyPost_ret (v:= .agg #[.int .u64 0, .int .u64 1]) (by simp[results,Tryz.results27,go_sem,m0,m1]) rfl ⟨rfl,(HB1.o.setCell (by show w.heap.size<=w.heap.size;omega) _).setCell (by show w.heap.size<=w.heap.size;omega) _⟩
def jV (n:Nat):Value:= .agg #[.int .u64 ((n/B:Nat):Int), .int .u64 ((n%B:Nat):Int)]
theorem uj (n:Nod) (a b:Nat) (wb:Int) (w:World) (ha:a<B*B) (hb:b<B*B) (hop:n.op=10\/n.op=11\/n.op=12\/n.op=15\/n.op=16\/n.op=17\/n.op=18\/n.op=19\/n.op=20):
 Calls Tryz.prog 81 #[xU n,jV a,jV b, .int .i64 wb] w fun e w'=>e= .returned (jV (eT n a b wb))/\Bl w w':=by
 obtain ⟨op,k,na,nb,v⟩:=n;dsimp only at hop;unfold jV xU;dsimp only;obtain ⟨R,hR⟩:=nm (eT ⟨op,k,na,nb,v⟩ a b wb);rw[<- hR];obtain ⟨a0,ha0⟩:=nm ((a/B:Nat):Int);obtain ⟨a1,ha1⟩:=nm ((a%B:Nat):Int);obtain ⟨b0,hb0⟩:=nm ((b/B:Nat):Int);obtain ⟨b1,hb1⟩:=nm ((b%B:Nat):Int);obtain ⟨c0,hc0⟩:=nm ((R/B:Nat):Int);obtain ⟨c1,hc1⟩:=nm ((R%B:Nat):Int);rw[<- ha0, <-ha1, <-hb0, <-hb1, <-hc0, <-hc1];generalize ((v/B:Nat):Int)=v0;generalize ((v%B:Nat):Int)=v1;obtain ⟨W0,hW0⟩:=nm ((((w.alloc (.cells #[.int .u8 op, .int .i64 k, .int .i64 na, .int .i64 nb, .int .u64 v0, .int .u64 v1] 65)).alloc (.cells #[.int .u64 a0, .int .u64 a1] 60)).alloc (.cells #[.int .u64 b0, .int .u64 b1] 60)).alloc (.cells #[.int .u64 0, .int .u64 0] 60));have HB0:Hd (Bl w W0):=by show Below _ _ _;rw[hW0];exact bL
 have HND:Hd (NBox W0 w.heap.size op k na nb v0 v1):=by show _=_;rw[hW0,Below.heap_alloc _ _ _ (by simp;try omega),Below.heap_alloc _ _ _ (by simp;try omega),Below.heap_alloc _ _ _ sm];exact ag _ _
 have HA0:Hd (NB W0 (w.heap.size+1) (.int .u64 a0) (.int .u64 a1)):=by
  show _=_;rw[hW0,Below.heap_alloc _ _ _ (by simp;try omega),Below.heap_alloc _ _ _ sm];exact xS _ _ _
 have HBN:Hd (NB W0 (w.heap.size+1+1) (.int .u64 b0) (.int .u64 b1)):=by
  show _=_;rw[hW0,Below.heap_alloc _ _ _ sm];exact D9 _ _ _ _
 have HR0:Hd (NB W0 (w.heap.size+1+1+1) (.int .u64 0) (.int .u64 0)):=by
  show _=_;rw[hW0];have:=ag (((w.alloc (.cells #[.int .u8 op, .int .i64 k, .int .i64 na, .int .i64 nb, .int .u64 v0, .int .u64 v1] 65)).alloc (.cells #[.int .u64 a0, .int .u64 a1] 60)).alloc (.cells #[.int .u64 b0, .int .u64 b1] 60)) (.cells #[.int .u64 0, .int .u64 0] 60);simp only[World.size_alloc] at this;exact this
 have HW:=hD hW0;clear hW0;obtain ⟨d0,d1,d2,d3,d4,d5⟩:=HND.o.cells;have x0:=HA0.o.c0;have x1:=HA0.o.c1;have y0:=HBN.o.c0;have y1:=HBN.o.c1;rcases hop with rfl|rfl|rfl|rfl|rfl|rfl|rfl|rfl|rfl
 ·have e:R=rX a b wb:=by rw[hR];rfl
  have HF:Hd (∀ W,CR 124 #[.agg #[.int .u64 a0, .int .u64 a1], .agg #[.int .u64 b0, .int .u64 b1], .int .i64 wb] W (.agg #[.int .u64 c0, .int .u64 c1])):=fun W=>by
   have h:=rY a b wb ha hb W;rw[bi a,bi b, <-ha0, <-ha1, <-hb0, <-hb1] at h;have h2:=bG h;rw[<- e, <-hc0, <-hc1] at h2;exact h2
  clear e hR ha0 ha1 hb0 hb1 hc0 hc1;go_enter Tryz.func81,Tryz.ntmps81;go_upto_region 1 with fail;rw[<- HW.o];clear HW;go_wp2_with (go_at_call 124;(with_reducible refine (HF.o _).mono ?_);rintro e w1 ⟨rfl,hb1⟩;have HR1:=hD (HR0.o.below hb1);have HB1:=hD (HB0.o.trans (hb1.mono HB0.o.size));have r0:=HR1.o.c0;have r1:=HR1.o.c1;have r2:=HR1.o.free 0;have r3:=HR1.o.free 1;clear hb1);exact gL
 ·have e:R=(a+b)%2 ^ 128%2 ^ sh k:=by rw[hR];rfl
  have HF:Hd (∀ W,CR 123 #[.agg #[.int .u64 a0, .int .u64 a1], .agg #[.int .u64 b0, .int .u64 b1], .int .i64 k] W (.agg #[.int .u64 c0, .int .u64 c1])):=fun W=>by
   have h:=i6 a b k ha hb W;rw[bi a,bi b, <-ha0, <-ha1, <-hb0, <-hb1] at h;have h2:=bG h;rw[<- e, <-hc0, <-hc1] at h2;exact h2
  clear e hR ha0 ha1 hb0 hb1 hc0 hc1;go_enter Tryz.func81,Tryz.ntmps81;go_upto_region 1 with fail;rw[<- HW.o];clear HW;go_wp2_with (go_at_call 123;(with_reducible refine (HF.o _).mono ?_);rintro e w1 ⟨rfl,hb1⟩;have HR1:=hD (HR0.o.below hb1);have HB1:=hD (HB0.o.trans (hb1.mono HB0.o.size));have r0:=HR1.o.c0;have r1:=HR1.o.c1;have r2:=HR1.o.free 0;have r3:=HR1.o.free 1;clear hb1);exact gL
 ·have e:R=nC a b k:=by rw[hR];rfl
  have HF:Hd (∀ W,CR 77 #[.agg #[.int .u64 a0, .int .u64 a1], .agg #[.int .u64 b0, .int .u64 b1], .int .i64 k] W (.agg #[.int .u64 c0, .int .u64 c1])):=fun W=>by
   have h:=mu a b k ha hb W;rw[bi a,bi b, <-ha0, <-ha1, <-hb0, <-hb1] at h;have h2:=bG h;rw[<- e, <-hc0, <-hc1] at h2;exact h2
  clear e hR ha0 ha1 hb0 hb1 hc0 hc1;go_enter Tryz.func81,Tryz.ntmps81;go_upto_region 1 with fail;rw[<- HW.o];clear HW;go_wp2_with (go_at_call 77;(with_reducible refine (HF.o _).mono ?_);rintro e w1 ⟨rfl,hb1⟩;have HR1:=hD (HR0.o.below hb1);have HB1:=hD (HB0.o.trans (hb1.mono HB0.o.size));have r0:=HR1.o.c0;have r1:=HR1.o.c1;have r2:=HR1.o.free 0;have r3:=HR1.o.free 1;clear hb1);exact gL
 ·have e:R=a &&& b:=by rw[hR];rfl
  have HF:Hd (∀ W,CR 87 #[.agg #[.int .u64 a0, .int .u64 a1], .agg #[.int .u64 b0, .int .u64 b1]] W (.agg #[.int .u64 c0, .int .u64 c1])):=fun W=>by
   have h:=lI a b ha hb W;rw[bi a,bi b, <-ha0, <-ha1, <-hb0, <-hb1] at h;have h2:=bG h;rw[<- e, <-hc0, <-hc1] at h2;exact h2
  clear e hR ha0 ha1 hb0 hb1 hc0 hc1;go_enter Tryz.func81,Tryz.ntmps81;go_upto_region 1 with fail;rw[<- HW.o];clear HW;go_wp2_with (go_at_call 87;(with_reducible refine (HF.o _).mono ?_);rintro e w1 ⟨rfl,hb1⟩;have HR1:=hD (HR0.o.below hb1);have HB1:=hD (HB0.o.trans (hb1.mono HB0.o.size));have r0:=HR1.o.c0;have r1:=HR1.o.c1;have r2:=HR1.o.free 0;have r3:=HR1.o.free 1;clear hb1);exact gL
 ·have e:R=a ^^^ b:=by rw[hR];rfl
  have HF:Hd (∀ W,CR 125 #[.agg #[.int .u64 a0, .int .u64 a1], .agg #[.int .u64 b0, .int .u64 b1]] W (.agg #[.int .u64 c0, .int .u64 c1])):=fun W=>by
   have h:=rZ a b ha hb W;rw[bi a,bi b, <-ha0, <-ha1, <-hb0, <-hb1] at h;have h2:=bG h;rw[<- e, <-hc0, <-hc1] at h2;exact h2
  clear e hR ha0 ha1 hb0 hb1 hc0 hc1;go_enter Tryz.func81,Tryz.ntmps81;go_upto_region 1 with fail;rw[<- HW.o];clear HW;go_wp2_with (go_at_call 125;(with_reducible refine (HF.o _).mono ?_);rintro e w1 ⟨rfl,hb1⟩;have HR1:=hD (HR0.o.below hb1);have HB1:=hD (HB0.o.trans (hb1.mono HB0.o.size));have r0:=HR1.o.c0;have r1:=HR1.o.c1;have r2:=HR1.o.free 0;have r3:=HR1.o.free 1;clear hb1);exact gL
 ·have e:R=a ||| b:=by rw[hR];rfl
  have HF:Hd (∀ W,CR 126 #[.agg #[.int .u64 a0, .int .u64 a1], .agg #[.int .u64 b0, .int .u64 b1]] W (.agg #[.int .u64 c0, .int .u64 c1])):=fun W=>by
   have h:=ui a b ha hb W;rw[bi a,bi b, <-ha0, <-ha1, <-hb0, <-hb1] at h;have h2:=bG h;rw[<- e, <-hc0, <-hc1] at h2;exact h2
  clear e hR ha0 ha1 hb0 hb1 hc0 hc1;go_enter Tryz.func81,Tryz.ntmps81;go_upto_region 1 with fail;rw[<- HW.o];clear HW;go_wp2_with (go_at_call 126;(with_reducible refine (HF.o _).mono ?_);rintro e w1 ⟨rfl,hb1⟩;have HR1:=hD (HR0.o.below hb1);have HB1:=hD (HB0.o.trans (hb1.mono HB0.o.size));have r0:=HR1.o.c0;have r1:=HR1.o.c1;have r2:=HR1.o.free 0;have r3:=HR1.o.free 1;clear hb1);exact gL
 ·have HT:Hd (∀ W,CR 27 #[.bool (decide (a=b))] W (.agg #[.int .u64 c0, .int .u64 c1])):=fun W=>by
   have h:=eG (decide (a=b)) W;have e:R=aU (decide (a=b)):=by rw[hR];rfl
   rw[<- e] at h;have e0:(0:Int)=c0:=by rw[hc0,e];cases (decide (a=b))<;>rfl
   have e1:((R:Nat):Int)=c1:=by rw[hc1,e];cases (decide (a=b))<;>rfl
   rw[e0,e1] at h;exact h
  have heq:=fun W=>zR a b W
  rw[bi a,bi b, <-ha0, <-ha1, <-hb0, <-hb1] at heq;have HEQ:=hD heq;clear hR ha0 ha1 hb0 hb1 hc0 hc1 heq;generalize decide (a=b)=bv at*;have heq:=HEQ.o;go_enter Tryz.func81,Tryz.ntmps81;go_upto_region 1 with fail;rw[<- HW.o];clear HW;go_wp2_with (go_at_call 27;(with_reducible refine (HT.o _).mono ?_);rintro e w1 ⟨rfl,hb1⟩;have HR1:=hD (HR0.o.below hb1);have HB1:=hD (HB0.o.trans (hb1.mono HB0.o.size));have r0:=HR1.o.c0;have r1:=HR1.o.c1;have r2:=HR1.o.free 0;have r3:=HR1.o.free 1;clear hb1);exact gL
 ·have HT:Hd (∀ W,CR 27 #[.bool (decide (a<b))] W (.agg #[.int .u64 c0, .int .u64 c1])):=fun W=>by
   have h:=eG (decide (a<b)) W;have e:R=aU (decide (a<b)):=by rw[hR];rfl
   rw[<- e] at h;have e0:(0:Int)=c0:=by rw[hc0,e];cases (decide (a<b))<;>rfl
   have e1:((R:Nat):Int)=c1:=by rw[hc1,e];cases (decide (a<b))<;>rfl
   rw[e0,e1] at h;exact h
  have HC:Hd (∀ W,CR 29 #[.agg #[.int .u64 a0, .int .u64 a1], .agg #[.int .u64 b0, .int .u64 b1]] W (.int .i64 (gq a b))):=fun W=>by
   have h:=iY a b ha hb W;rw[bi a,bi b, <-ha0, <-ha1, <-hb0, <-hb1] at h;exact h
  have hcm:decide (gq a b<0)=decide (a<b):=by
   rw[decide_eq_decide];unfold gq;split
   ·omega
   split<;>omega
  have HCM:=hD hcm;clear hR ha0 ha1 hb0 hb1 hc0 hc1 hcm;generalize decide (a<b)=bv at*;exact gU
 have HT:Hd (∀ W,CR 27 #[.bool (decide (a<=b))] W (.agg #[.int .u64 c0, .int .u64 c1])):=fun W=>by
  have h:=eG (decide (a<=b)) W;have e:R=aU (decide (a<=b)):=by rw[hR];rfl
  rw[<- e] at h;have e0:(0:Int)=c0:=by rw[hc0,e];cases (decide (a<=b))<;>rfl
  have e1:((R:Nat):Int)=c1:=by rw[hc1,e];cases (decide (a<=b))<;>rfl
  rw[e0,e1] at h;exact h
 have HC:Hd (∀ W,CR 29 #[.agg #[.int .u64 a0, .int .u64 a1], .agg #[.int .u64 b0, .int .u64 b1]] W (.int .i64 (gq a b))):=fun W=>by
  have h:=iY a b ha hb W;rw[bi a,bi b, <-ha0, <-ha1, <-hb0, <-hb1] at h;exact h
 have hcm:decide (gq a b<=0)=decide (a<=b):=by
  rw[decide_eq_decide];unfold gq;split
  ·omega
  split<;>omega
 have HCM:=hD hcm;clear hR ha0 ha1 hb0 hb1 hc0 hc1 hcm;generalize decide (a<=b)=bv at*;exact gU
end Go.Proofs.YtjfhfaodbjecdaaGreat
