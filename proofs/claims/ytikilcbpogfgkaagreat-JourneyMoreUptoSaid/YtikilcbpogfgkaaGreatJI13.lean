/- Lemmas. -/
import Derived.Test.YtikilcbpogfgkaaGreatJI12
set_option maxHeartbeats 6400000
set_option maxRecDepth 100000
namespace Go.Proofs.YtikilcbpogfgkaaGreat
open Go.RowKit
def PatBox (w:World) (g:Nat) (v0 v1 m0 m1:Int):Prop:=w.heap[g]?=some (.cells #[.int .u64 v0, .int .u64 v1, .int .u64 m0, .int .u64 m1] 142 (0,0))
theorem PatBox.cells {w:World} {g:Nat} {v0 v1 m0 m1:Int} (h:PatBox w g v0 v1 m0 m1):w.cell? ⟨g,0,none⟩=some (.int .u64 v0)/\w.cell? ⟨g,1,none⟩=some (.int .u64 v1)/\w.cell? ⟨g,2,none⟩=some (.int .u64 m0)/\w.cell? ⟨g,3,none⟩=some (.int .u64 m1):=by
 unfold PatBox at h;refine ⟨?_,?_,?_,?_⟩<;>simp[World.cell?,h]
theorem PatBox.below {w w':World} {g:Nat} {v0 v1 m0 m1:Int} (h:PatBox w g v0 v1 m0 m1) (hb:Bl w w'):PatBox w' g v0 v1 m0 m1:=(hb.block g (gA_ h).1).trans h
def AnsB (q:Bool->Prop) (e:Ending):Prop:=∃b,e= .returned (.bool b)/\q b
def AnsNB (e:Ending):Prop:=∃(n:Int) (b:Bool),e= .returned (.tuple #[.int .i64 n, .bool b])
theorem bit01_is (v:Nat) (hv:v<B*B) (i:Int):∃b,∀W,Calls Tryz.prog 112 #[.agg #[.int .u64 ((v/B:Nat):Int), .int .u64 ((v%B:Nat):Int)], .int .i64 i] W fun e w'=>e= .returned (.bool b)/\Bl W w':=by
 refine ⟨bitB v i,fun W=>?_⟩;have h:=refBit_any v i hv W;obtain ⟨v1,v2,ev,ev1,ev2⟩:=numV_parts v;rw[ev] at h;rw[<- ev1, <-ev2];exact h
theorem may11_any (v m:Nat) (hv:v<B*B) (hm:m<B*B) (k:Int) (w:World):
 Calls Tryz.prog 85 #[.agg #[.int .u64 ((v/B:Nat):Int), .int .u64 ((v%B:Nat):Int), .int .u64 ((m/B:Nat):Int), .int .u64 ((m%B:Nat):Int)], .int .i64 k] w fun e w'=>AnsB (fun b=>b=true->1<=k/\k<=128) e/\Bl w w':=by
 have HV:=hD (bit01_is v hv);have HM:=hD (bit01_is m hm);clear hv hm;generalize ((v/B:Nat):Int)=v0 at*;generalize ((v%B:Nat):Int)=v1 at*;generalize ((m/B:Nat):Int)=m0 at*;generalize ((m%B:Nat):Int)=m1 at*;go_enter Tryz.func85,Tryz.ntmps85;go_upto_region 1 with fail;obtain ⟨W0,hW0⟩:=nm (w.alloc (.cells #[.int .u64 v0, .int .u64 v1, .int .u64 m0, .int .u64 m1] 142));have HB0:Hd (Bl w W0):=by show Below _ _ _;rw[hW0];exact bL
 have HPB:Hd (PatBox W0 w.heap.size v0 v1 m0 m1):=by show _=_;rw[hW0];exact heap_new _ _
 rw[<- hW0];clear hW0;by_cases hk:1<=k/\k<=128
 ·obtain ⟨k1,k2⟩:=hk;have k3:¬k<1:=om;have k4:¬128<k:=om;have HK:=hD (And.intro k1 k2);clear k1 k2;go_wp2_with fail;clear k3 k4;go_loopw [5] (fun i wr=>∃j:Nat,j<=128/\i= .int .i64 j/\Hd (Bl W0 wr)) (fun i _=>128-(intOf i).toNat)
  case atStart=>exact ⟨0,om,rfl,Below.refl _ _⟩
  case round=>
   obtain ⟨j,hj,rfl,HW⟩:=hrel;obtain ⟨q0,q1,q2,q3⟩:=(HPB.o.below HW.o).cells;by_cases hlt:j<128
   ·have hji:(j:Int)<128:=om;obtain ⟨x,hx⟩:=HV.o (j:Int);obtain ⟨y,hy⟩:=HM.o (j:Int);have HX:=hD hx;have HY:=hD hy;clear hx hy;rcases (show k<=(j:Int)\/¬k<=(j:Int) by omega) with hkj|hkj
    all_goals
     cases x<;>cases y
     all_goals
      go_wp2_with (first
       |(go_at_call 112;(with_reducible refine (HX.o _).mono ?_);rintro e w1 ⟨rfl,hb⟩;have HX2:=hD (HW.o.trans (hb.mono HW.o.size));obtain ⟨r0,r1,r2,r3⟩:=(HPB.o.below HX2.o).cells;clear hb)
       |(go_at_call 112;(with_reducible refine (HY.o _).mono ?_);rintro e w2 ⟨rfl,hb⟩;have HY2:Hd (Bl W0 w2):=(by first|exact HY2.o.trans (hb.mono HY2.o.size)|exact HX2.o.trans (hb.mono HX2.o.size)|exact HW.o.trans (hb.mono HW.o.size));obtain ⟨s0,s1,s2,s3⟩:=(HPB.o.below HY2.o).cells;clear hb))
      first
      |(go_ret;exact ⟨⟨_,rfl,fun h=>by cases h⟩,HB0.o.trans ((by first|exact HY2.o|exact HX2.o|exact HW.o:Bl W0 _).mono HB0.o.size)⟩)
      |(
       go_roundw
       case rel=>exact ⟨j+1,om,by go_num,by first|exact HY2.o|exact HX2.o|exact HW.o⟩
       case measure=>simp[intOf];omega)
   obtain rfl:j=128:=om;go_wp2_with fail;go_ret;exact ⟨⟨_,rfl,fun _=>HK.o⟩,HB0.o.trans (HW.o.mono HB0.o.size)⟩
 rcases (show k<1\/(¬ k<1/\128<k) by omega) with g1|⟨g1,g2⟩
 all_goals
  go_wp2_with fail;go_ret;exact ⟨⟨_,rfl,fun h=>by cases h⟩,HB0.o⟩
theorem length11_any (v m:Nat) (hv:v<B*B) (hm:m<B*B) (k:Int) (w:World):
 Calls Tryz.prog 86 #[.agg #[.int .u64 ((v/B:Nat):Int), .int .u64 ((v%B:Nat):Int), .int .u64 ((m/B:Nat):Int), .int .u64 ((m%B:Nat):Int)], .int .i64 k] w fun e w'=>AnsNB e/\Bl w w':=by
 have HMA:=hD (may11_any v m hv hm k);have HM:=hD (bit01_is m hm);clear hv hm;generalize ((v/B:Nat):Int)=v0 at*;generalize ((v%B:Nat):Int)=v1 at*;generalize ((m/B:Nat):Int)=m0 at*;generalize ((m%B:Nat):Int)=m1 at*;go_enter Tryz.func86,Tryz.ntmps86;go_upto_region 1 with fail;obtain ⟨W0,hW0⟩:=nm (w.alloc (.cells #[.int .u64 v0, .int .u64 v1, .int .u64 m0, .int .u64 m1] 142));have HB0:Hd (Bl w W0):=by show Below _ _ _;rw[hW0];exact bL
 have HPB:Hd (PatBox W0 w.heap.size v0 v1 m0 m1):=by show _=_;rw[hW0];exact heap_new _ _
 rw[<- hW0];clear hW0;obtain ⟨q0,q1,q2,q3⟩:=HPB.o.cells;go_wp2_with (go_at_call 85;(with_reducible refine (HMA.o _).mono ?_);rintro e W1 ⟨⟨b,rfl,hb2⟩,hb⟩;have HB1:=hD hb;have HBT:=hD hb2;clear hb hb2)
 ·go_ret2;exact ⟨⟨_,_,rfl⟩,HB0.o.trans (HB1.o.mono HB0.o.size)⟩
 rename_i hb _ _;obtain ⟨k1,k2⟩:=HBT.o (by simpa using hb);clear q0 q1 q2 q3 hb;go_loopw [6] (fun i wr=>∃j:Nat,(j:Int)<=k/\i= .int .i64 j/\Hd (Bl W0 wr)) (fun i _=>k.toNat-(intOf i).toNat)
 case atStart=>exact ⟨0,om,rfl,HB1.o⟩
 case round=>
  obtain ⟨j,hj,rfl,HW⟩:=hrel;obtain ⟨q0,q1,q2,q3⟩:=(HPB.o.below HW.o).cells;by_cases hlt:(j:Int)<k
  ·obtain ⟨y,hy⟩:=HM.o (k-1-(j:Int));have HY:=hD hy;clear hy;cases y
   ·go_wp2_with (go_at_call 112;(with_reducible refine (HY.o _).mono ?_);rintro e w2 ⟨rfl,hb⟩;have HW2:=hD (HW.o.trans (hb.mono HW.o.size));clear hb);go_loopw [7] (fun i wq=>∃q:Nat,(q:Int)<=k/\i= .int .i64 q/\Hd (Bl W0 wq)) (fun i _=>k.toNat-(intOf i).toNat)
    case atStart=>exact ⟨j,om,by first|rfl|(congr 1),HW2.o⟩
    case round=>
     exact gQ
   ·go_wp2_with (go_at_call 112;(with_reducible refine (HY.o _).mono ?_);rintro e w2 ⟨rfl,hb⟩;have HW2:=hD (HW.o.trans (hb.mono HW.o.size));clear hb);go_roundw
    case rel=>exact ⟨j+1,om,by go_num,HW2.o⟩
    case measure=>exact mz
  go_wp2_with fail;go_loopw [7] (fun i wq=>∃q:Nat,(q:Int)<=k/\i= .int .i64 q/\Hd (Bl W0 wq)) (fun i _=>k.toNat-(intOf i).toNat)
  case atStart=>exact ⟨j,om,by first|rfl|(congr 1),HW.o⟩
  case round=>
   exact gQ
open Go.RowKit
theorem refMask_any (c:Int) (w:World):
 Calls Tryz.prog 87 #[.int .i64 c] w (RetNum w (2 ^ sh c-1)):=by
 have hZ:Tryz.zeroCells146=rowA fun _=>false:=by kernel_rfl
 have hnew:=heap_new (w.alloc (.cells #[.int .u64 0, .int .u64 0] 82)) (.cells Tryz.zeroCells146 146);rw[World.size_alloc] at hnew;have hnum:((w.alloc (.cells #[.int .u64 0, .int .u64 0] 82)).alloc (.cells Tryz.zeroCells146 146)).heap[w.heap.size]?=some (.cells #[.int .u64 0, .int .u64 0] 82 (0,0)):=by
  rw[Below.heap_alloc _ _ _ sm,heap_new]
 obtain ⟨g,hg⟩:∃g:Nat->Bool,g=fun (i:Nat)=>decide ((i:Int)<c):=⟨_,rfl⟩
 have HG:Hd (∀ i:Nat,g i=decide ((i:Int)<c)):=fun i=>by rw[hg]
 have H0:Hd (InAt g (fun _=>false) w (w.heap.size+1) w.heap.size 0 ((w.alloc (.cells #[.int .u64 0, .int .u64 0] 82)).alloc (.cells Tryz.zeroCells146 146))):=
  ⟨by rw[hnew,hZ];congr 2,⟨_,_,hnum⟩,(br.alloc lr _).alloc sm _⟩
 have HE:Hd (ofBits g 128=2 ^ sh c-1):=by
  show _=_;have hs:sh c<=128:=by unfold sh;omega
  refine ofBits_eq (Nat.lt_of_lt_of_le (Nat.sub_lt (Nat.two_pow_pos _) dq) (Nat.pow_le_pow_right om hs)) fun i hi=>?_
  rw[HG.o,Nat.testBit_two_pow_sub_one,sh_bit c i hi]
 clear hZ hnew hnum hg;go_enter Tryz.func87,Tryz.ntmps87;go_wp2_with fail;generalize (w.alloc (.cells #[.int .u64 0, .int .u64 0] 82)).alloc (.cells Tryz.zeroCells146 146)=W2 at*;go_loopw [4] (fun i wr=>∃k:Nat,k<=128/\i= .int .i64 k/\Hd (InAt g (fun _=>false) w (w.heap.size+1) w.heap.size k wr)) (fun i _=>128-(intOf i).toNat)
 case atStart=>exact ⟨0,zl,rfl,H0⟩
 case round=>
  obtain ⟨k,hk,rfl,HK⟩:=hrel;by_cases hlt:k<128
  ·obtain ⟨r1,r2⟩:=HK.o.cells hlt;by_cases hc:(k:Int)<c;all_goals
    have HGK:Hd (g k=decide ((k:Int)<c)):=HG.o k;have HC:=hD hc;go_wp2_with fail;go_roundw
    case rel=>exact ⟨k+1,om,by go_num,HK.o.step om om (by rw[HGK.o];simp[HC.o])⟩
    case measure=>exact mz
  obtain rfl:k=128:=om;obtain ⟨r1,⟨x0,x1,r3⟩,r4⟩:=HK.o.done;have HNUM:Hd (∀ W,Calls Tryz.prog 113 #[.agg (rowA g)] W (RetNum W (2 ^ sh c-1))):=fun W=>by rw[<- HE.o];exact refNum_any _ W
  have HB4:=hD r4;have H3:=hD r3;clear r3 r4 HE HK H0 HG;have hRR:(rowA g).size=128:=rowA_size _;generalize rowA g=RR at r1 HNUM hRR;go_wp2_with (first
   |(refine wpList_load_row rfl 146 (.tmp 3) rfl (w.heap.size+1) rfl 146 RR (0,0) _ r1 Tryz.underlying146 rfl (by rw[hRR];exact infoRow) ?_))
  clear r1;obtain ⟨h3,l3,e3,-,-⟩:=numV_parts (2 ^ sh c-1);have HE3:=hD e3;have HNUM2:Hd (∀ W,CR 113 #[.agg RR] W (.agg #[.int .u64 (h3:Int), .int .u64 (l3:Int)])):=fun W=>by rw[<- HE3.o];exact HNUM.o W
  clear HNUM e3;refine (HNUM2.o _).mono ?_;rintro e w3 ⟨rfl,hb1⟩;have hr:=(hb1.block w.heap.size (lt_of_block H3.o)).trans H3.o;have q0:w3.cell? ⟨w.heap.size,0,none⟩=some x0:=by simp[World.cell?,hr]
  have q1:w3.cell? ⟨w.heap.size,1,none⟩=some x1:=by simp[World.cell?,hr]
  have qz:∀j,w3.frozen? ⟨w.heap.size,j,none⟩=false:=fun j=>by simp[World.frozen?,hr]
  have HR:=hD hr;have HB5:=hD (HB4.o.trans (hb1.mono HB4.o.size));clear hr hb1;go_wp2_with fail;have hg:=set_lo (.int .u64 (l3:Int)) (set_hi (.int .u64 (h3:Int)) HR.o);exact bodyPost_ret (v:= .agg #[.int .u64 (h3:Int), .int .u64 (l3:Int)]) (results_cell_row Tryz.results87 _ _ w.heap.size _ _ _ _ (by simp[go_sem]) hg Tryz.underlying82 rfl kq) rfl ⟨by rw[HE3.o],(HB5.o.setCell (by show w.heap.size<=w.heap.size;omega) _).setCell (by show w.heap.size<=w.heap.size;omega) _⟩
end Go.Proofs.YtikilcbpogfgkaaGreat
