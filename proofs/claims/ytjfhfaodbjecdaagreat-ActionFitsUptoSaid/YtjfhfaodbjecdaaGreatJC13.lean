/-
  Lemmas, joined: EntA, MaskA.
-/
import Derived.Test.YtjfhfaodbjecdaaGreatJC04
import Derived.Test.YtjfhfaodbjecdaaGreatJC12
import Derived.LoopN
import Derived.Test.YtjfhfaodbjecdaaGreatJC03
set_option maxHeartbeats 6400000
set_option maxRecDepth 100000
namespace Go.Proofs.YtjfhfaodbjecdaaGreat
open Go.RowKit
def PatBox (w:World) (g:Nat) (v0 v1 m0 m1:Int):Prop:=w.heap[g]?=some (.cells #[.int .u64 v0, .int .u64 v1, .int .u64 m0, .int .u64 m1] 128 (0,0))
theorem PatBox.cells {w:World} {g:Nat} {v0 v1 m0 m1:Int} (h:PatBox w g v0 v1 m0 m1):w.cell? ⟨g,0,none⟩=some (.int .u64 v0)/\w.cell? ⟨g,1,none⟩=some (.int .u64 v1)/\w.cell? ⟨g,2,none⟩=some (.int .u64 m0)/\w.cell? ⟨g,3,none⟩=some (.int .u64 m1):=by
 unfold PatBox at h;refine ⟨?_,?_,?_,?_⟩<;>simp[World.cell?,h]
theorem PatBox.below {w w':World} {g:Nat} {v0 v1 m0 m1:Int} (h:PatBox w g v0 v1 m0 m1) (hb:Below w.heap.size w w'):PatBox w' g v0 v1 m0 m1:=(hb.block g (Array.getElem?_eq_some_iff.1 h).1).trans h
def AnsB (q:Bool->Prop) (e:Ending):Prop:=∃b,e= .returned (.bool b)/\q b
def AnsNB (e:Ending):Prop:=∃(n:Int) (b:Bool),e= .returned (.tuple #[.int .i64 n, .bool b])
theorem bit01_is (v:Nat) (hv:v<B*B) (i:Int):∃b,∀W,Calls Tryz.prog 88 #[.agg #[.int .u64 ((v/B:Nat):Int), .int .u64 ((v%B:Nat):Int)], .int .i64 i] W fun e w'=>e= .returned (.bool b)/\Below W.heap.size W w':=by
 refine ⟨bitB v i,fun W=>?_⟩;have h:=refBit_any v i hv W;obtain ⟨v1,v2,ev,ev1,ev2⟩:=numV_parts v;rw[ev] at h;rw[<- ev1, <-ev2];exact h
theorem may11_any (v m:Nat) (hv:v<B*B) (hm:m<B*B) (k:Int) (w:World):
 Calls Tryz.prog 63 #[.agg #[.int .u64 ((v/B:Nat):Int), .int .u64 ((v%B:Nat):Int), .int .u64 ((m/B:Nat):Int), .int .u64 ((m%B:Nat):Int)], .int .i64 k] w fun e w'=>AnsB (fun b=>b=true->1<=k/\k<=128) e/\Below w.heap.size w w':=by
 have HV:=hD (bit01_is v hv);have HM:=hD (bit01_is m hm);clear hv hm;generalize ((v/B:Nat):Int)=v0 at*;generalize ((v%B:Nat):Int)=v1 at*;generalize ((m/B:Nat):Int)=m0 at*;generalize ((m%B:Nat):Int)=m1 at*;go_enter Tryz.func63,Tryz.ntmps63;go_upto_region 1 with fail
 obtain ⟨W0,hW0⟩:∃W0,W0=w.alloc (.cells #[.int .u64 v0, .int .u64 v1, .int .u64 m0, .int .u64 m1] 128):=⟨_,rfl⟩;have HB0:Hid (Below w.heap.size w W0):=by show Below _ _ _;rw[hW0];exact (by repeat (first|exact Below.refl _ _|assumption|refine Below.drew ?_|refine blA ?_|refine blS ?_|refine blT ?_ (by assumption)))
 have HPB:Hid (PatBox W0 w.heap.size v0 v1 m0 m1):=by show _=_;rw[hW0];exact heap_new _ _
 rw[<- hW0];clear hW0;by_cases hk:1<=k/\k<=128
 ·obtain ⟨k1,k2⟩:=hk;have k3:¬k<1:=by omega
  have k4:¬128<k:=by omega
  have HK:=hD (And.intro k1 k2);clear k1 k2;go_wp2_with fail;clear k3 k4;go_loopw [5] (fun i wr=>∃j:Nat,j<=128/\i= .int .i64 j/\Hid (Below W0.heap.size W0 wr)) (fun i _=>128-(intOf i).toNat)
  case atStart=>exact ⟨0,by omega,rfl,Below.refl _ _⟩
  case round=>
   obtain ⟨j,hj,rfl,HW⟩:=hrel;obtain ⟨q0,q1,q2,q3⟩:=(HPB.out.below HW.out).cells;by_cases hlt:j<128
   ·have hji:(j:Int)<128:=by omega
    obtain ⟨x,hx⟩:=HV.out (j:Int);obtain ⟨y,hy⟩:=HM.out (j:Int);have HX:=hD hx;have HY:=hD hy;clear hx hy;rcases (show k<=(j:Int)\/¬k<=(j:Int) by omega) with hkj|hkj
    all_goals
     cases x<;>cases y
     all_goals
      go_wp2_with (first
       |(go_at_call 88;(with_reducible refine (HX.out _).mono ?_);rintro e w1 ⟨rfl,hb⟩;have HX2:Hid (Below W0.heap.size W0 w1):=HW.out.trans (hb.mono HW.out.size);obtain ⟨r0,r1,r2,r3⟩:=(HPB.out.below HX2.out).cells;clear hb)
       |(go_at_call 88;(with_reducible refine (HY.out _).mono ?_);rintro e w2 ⟨rfl,hb⟩;have HY2:Hid (Below W0.heap.size W0 w2):=(by first|exact HY2.out.trans (hb.mono HY2.out.size)|exact HX2.out.trans (hb.mono HX2.out.size)|exact HW.out.trans (hb.mono HW.out.size));obtain ⟨s0,s1,s2,s3⟩:=(HPB.out.below HY2.out).cells;clear hb))
      first
      |(go_ret;exact ⟨⟨_,rfl,fun h=>by cases h⟩,HB0.out.trans ((by first|exact HY2.out|exact HX2.out|exact HW.out:Below W0.heap.size W0 _).mono HB0.out.size)⟩)
      |(
       go_roundw
       case rel=>exact ⟨j+1,by omega,by go_num,by first|exact HY2.out|exact HX2.out|exact HW.out⟩
       case measure=>simp[intOf];omega)
   ·obtain rfl:j=128:=by omega
    go_wp2_with fail;go_ret;exact ⟨⟨_,rfl,fun _=>HK.out⟩,HB0.out.trans (HW.out.mono HB0.out.size)⟩
 ·rcases (show k<1\/(¬ k<1/\128<k) by omega) with g1|⟨g1,g2⟩
  all_goals
   go_wp2_with fail;go_ret;exact ⟨⟨_,rfl,fun h=>by cases h⟩,HB0.out⟩
theorem length11_any (v m:Nat) (hv:v<B*B) (hm:m<B*B) (k:Int) (w:World):
 Calls Tryz.prog 64 #[.agg #[.int .u64 ((v/B:Nat):Int), .int .u64 ((v%B:Nat):Int), .int .u64 ((m/B:Nat):Int), .int .u64 ((m%B:Nat):Int)], .int .i64 k] w fun e w'=>AnsNB e/\Below w.heap.size w w':=by
 have HMA:=hD (may11_any v m hv hm k);have HM:=hD (bit01_is m hm);clear hv hm;generalize ((v/B:Nat):Int)=v0 at*;generalize ((v%B:Nat):Int)=v1 at*;generalize ((m/B:Nat):Int)=m0 at*;generalize ((m%B:Nat):Int)=m1 at*;go_enter Tryz.func64,Tryz.ntmps64;go_upto_region 1 with fail
 obtain ⟨W0,hW0⟩:∃W0,W0=w.alloc (.cells #[.int .u64 v0, .int .u64 v1, .int .u64 m0, .int .u64 m1] 128):=⟨_,rfl⟩;have HB0:Hid (Below w.heap.size w W0):=by show Below _ _ _;rw[hW0];exact (by repeat (first|exact Below.refl _ _|assumption|refine Below.drew ?_|refine blA ?_|refine blS ?_|refine blT ?_ (by assumption)))
 have HPB:Hid (PatBox W0 w.heap.size v0 v1 m0 m1):=by show _=_;rw[hW0];exact heap_new _ _
 rw[<- hW0];clear hW0;obtain ⟨q0,q1,q2,q3⟩:=HPB.out.cells;go_wp2_with (go_at_call 63;(with_reducible refine (HMA.out _).mono ?_);rintro e W1 ⟨⟨b,rfl,hb2⟩,hb⟩;have HB1:=hD hb;have HBT:=hD hb2;clear hb hb2)
 ·go_ret2;exact ⟨⟨_,_,rfl⟩,HB0.out.trans (HB1.out.mono HB0.out.size)⟩
 ·rename_i hb _ _;obtain ⟨k1,k2⟩:=HBT.out (by simpa using hb);clear q0 q1 q2 q3 hb;go_loopw [6] (fun i wr=>∃j:Nat,(j:Int)<=k/\i= .int .i64 j/\Hid (Below W0.heap.size W0 wr)) (fun i _=>k.toNat-(intOf i).toNat)
  case atStart=>exact ⟨0,by omega,rfl,HB1.out⟩
  case round=>
   obtain ⟨j,hj,rfl,HW⟩:=hrel;obtain ⟨q0,q1,q2,q3⟩:=(HPB.out.below HW.out).cells;by_cases hlt:(j:Int)<k
   ·obtain ⟨y,hy⟩:=HM.out (k-1-(j:Int));have HY:=hD hy;clear hy;cases y
    ·go_wp2_with (go_at_call 88;(with_reducible refine (HY.out _).mono ?_);rintro e w2 ⟨rfl,hb⟩;have HW2:Hid (Below W0.heap.size W0 w2):=HW.out.trans (hb.mono HW.out.size);clear hb);go_loopw [7] (fun i wq=>∃q:Nat,(q:Int)<=k/\i= .int .i64 q/\Hid (Below W0.heap.size W0 wq)) (fun i _=>k.toNat-(intOf i).toNat)
     case atStart=>exact ⟨j,by omega,by first|rfl|(congr 1),HW2.out⟩
     case round=>
      clear q0 q1 q2 q3;obtain ⟨q,hq,rfl,HQ⟩:=hrel;obtain ⟨q0,q1,q2,q3⟩:=(HPB.out.below HQ.out).cells;by_cases hql:(q:Int)<k
      ·obtain ⟨z,hz⟩:=HM.out (k-1-(q:Int));have HZ:=hD hz;clear hz;cases z
       ·go_wp2_with (go_at_call 88;(with_reducible refine (HZ.out _).mono ?_);rintro e w2 ⟨rfl,hb⟩;have HQ2:Hid (Below W0.heap.size W0 w2):=HQ.out.trans (hb.mono HQ.out.size);clear hb);go_roundw
        case rel=>exact ⟨q+1,by omega,by go_num,HQ2.out⟩
        case measure=>simp[intOf];omega
       ·go_wp2_with (go_at_call 88;(with_reducible refine (HZ.out _).mono ?_);rintro e w2 ⟨rfl,hb⟩;have HQ2:Hid (Below W0.heap.size W0 w2):=HQ.out.trans (hb.mono HQ.out.size);clear hb);go_ret2;exact ⟨⟨_,_,rfl⟩,HB0.out.trans (HQ2.out.mono HB0.out.size)⟩
      ·go_wp2_with fail;go_ret2;exact ⟨⟨_,_,rfl⟩,HB0.out.trans (HQ.out.mono HB0.out.size)⟩
    ·go_wp2_with (go_at_call 88;(with_reducible refine (HY.out _).mono ?_);rintro e w2 ⟨rfl,hb⟩;have HW2:Hid (Below W0.heap.size W0 w2):=HW.out.trans (hb.mono HW.out.size);clear hb);go_roundw
     case rel=>exact ⟨j+1,by omega,by go_num,HW2.out⟩
     case measure=>simp[intOf];omega
   ·
    go_wp2_with fail;go_loopw [7] (fun i wq=>∃q:Nat,(q:Int)<=k/\i= .int .i64 q/\Hid (Below W0.heap.size W0 wq)) (fun i _=>k.toNat-(intOf i).toNat)
    case atStart=>exact ⟨j,by omega,by first|rfl|(congr 1),HW.out⟩
    case round=>
     clear q0 q1 q2 q3;obtain ⟨q,hq,rfl,HQ⟩:=hrel;obtain ⟨q0,q1,q2,q3⟩:=(HPB.out.below HQ.out).cells;by_cases hql:(q:Int)<k
     ·obtain ⟨z,hz⟩:=HM.out (k-1-(q:Int));have HZ:=hD hz;clear hz;cases z
      ·go_wp2_with (go_at_call 88;(with_reducible refine (HZ.out _).mono ?_);rintro e w2 ⟨rfl,hb⟩;have HQ2:Hid (Below W0.heap.size W0 w2):=HQ.out.trans (hb.mono HQ.out.size);clear hb);go_roundw
       case rel=>exact ⟨q+1,by omega,by go_num,HQ2.out⟩
       case measure=>simp[intOf];omega
      ·go_wp2_with (go_at_call 88;(with_reducible refine (HZ.out _).mono ?_);rintro e w2 ⟨rfl,hb⟩;have HQ2:Hid (Below W0.heap.size W0 w2):=HQ.out.trans (hb.mono HQ.out.size);clear hb);go_ret2;exact ⟨⟨_,_,rfl⟩,HB0.out.trans (HQ2.out.mono HB0.out.size)⟩
     ·go_wp2_with fail;go_ret2;exact ⟨⟨_,_,rfl⟩,HB0.out.trans (HQ.out.mono HB0.out.size)⟩
open Go.RowKit
theorem refMask_any (c:Int) (w:World):
 Calls Tryz.prog 65 #[.int .i64 c] w (RetNum w (2 ^ sh c-1)):=by
 have hZ:Tryz.zeroCells114=rowA fun _=>false:=by kernel_rfl
 have hnew:=heap_new (w.alloc (.cells #[.int .u64 0, .int .u64 0] 60)) (.cells Tryz.zeroCells114 114);rw[World.size_alloc] at hnew;have hnum:((w.alloc (.cells #[.int .u64 0, .int .u64 0] 60)).alloc (.cells Tryz.zeroCells114 114)).heap[w.heap.size]?=some (.cells #[.int .u64 0, .int .u64 0] 60 (0,0)):=by
  rw[Below.heap_alloc _ _ _ (by simp),heap_new]
 obtain ⟨g,hg⟩:∃g:Nat->Bool,g=fun (i:Nat)=>decide ((i:Int)<c):=⟨_,rfl⟩
 have HG:Hid (∀ i:Nat,g i=decide ((i:Int)<c)):=fun i=>by rw[hg]
 have H0:Hid (InAt g (fun _=>false) w (w.heap.size+1) w.heap.size 0 ((w.alloc (.cells #[.int .u64 0, .int .u64 0] 60)).alloc (.cells Tryz.zeroCells114 114))):=
  ⟨by rw[hnew,hZ];congr 2,⟨_,_,hnum⟩,((Below.refl _ _).alloc (Nat.le_refl _) _).alloc (by simp) _⟩
 have HE:Hid (ofBits g 128=2 ^ sh c-1):=by
  show _=_;have hs:sh c<=128:=by unfold sh;omega
  refine ofBits_eq (Nat.lt_of_lt_of_le (Nat.sub_lt (Nat.two_pow_pos _) (by decide)) (Nat.pow_le_pow_right (by omega) hs)) fun i hi=>?_
  rw[HG.out,Nat.testBit_two_pow_sub_one,sh_bit c i hi]
 clear hZ hnew hnum hg;go_enter Tryz.func65,Tryz.ntmps65;go_wp2_with fail;generalize (w.alloc (.cells #[.int .u64 0, .int .u64 0] 60)).alloc (.cells Tryz.zeroCells114 114)=W2 at*;go_loopw [4] (fun i wr=>∃k:Nat,k<=128/\i= .int .i64 k/\Hid (InAt g (fun _=>false) w (w.heap.size+1) w.heap.size k wr)) (fun i _=>128-(intOf i).toNat)
 case atStart=>exact ⟨0,Nat.zero_le _,rfl,H0⟩
 case round=>
  obtain ⟨k,hk,rfl,HK⟩:=hrel;by_cases hlt:k<128
  ·obtain ⟨r1,r2⟩:=HK.out.cells hlt;by_cases hc:(k:Int)<c
   all_goals
    have HGK:Hid (g k=decide ((k:Int)<c)):=HG.out k;have HC:=hD hc;go_wp2_with fail;go_roundw
    case rel=>exact ⟨k+1,by omega,by go_num,HK.out.step (by omega) (by omega) (by rw[HGK.out];simp[HC.out])⟩
    case measure=>simp[intOf];omega
  ·obtain rfl:k=128:=by omega
   obtain ⟨r1,⟨x0,x1,r3⟩,r4⟩:=HK.out.done;have HNUM:Hid (∀ W,Calls Tryz.prog 53 #[.agg (rowA g)] W (RetNum W (2 ^ sh c-1))):=fun W=>by rw[<- HE.out];exact refNum_any _ W
   have HB4:=hD r4;have H3:=hD r3;clear r3 r4 HE HK H0 HG;have hRR:(rowA g).size=128:=rowA_size _;generalize rowA g=RR at r1 HNUM hRR;go_wp2_with (first
    |(refine wpList_load_row rfl 114 (.tmp 3) rfl (w.heap.size+1) rfl 114 RR (0,0) _ r1 Tryz.underlying114 rfl (by rw[hRR];exact infoRow) ?_))
   clear r1;obtain ⟨h3,l3,e3,-,-⟩:=numV_parts (2 ^ sh c-1);have HE3:=hD e3;have HNUM2:Hid (∀ W,Calls Tryz.prog 53 #[.agg RR] W fun e w'=>e= .returned (.agg #[.int .u64 (h3:Int), .int .u64 (l3:Int)])/\Below W.heap.size W w'):=fun W=>by rw[<- HE3.out];exact HNUM.out W
   clear HNUM e3;refine (HNUM2.out _).mono ?_;rintro e w3 ⟨rfl,hb1⟩;have hr:=(hb1.block w.heap.size (lt_of_block H3.out)).trans H3.out;have q0:w3.cell? ⟨w.heap.size,0,none⟩=some x0:=by simp[World.cell?,hr]
   have q1:w3.cell? ⟨w.heap.size,1,none⟩=some x1:=by simp[World.cell?,hr]
   have qz:∀j,w3.frozen? ⟨w.heap.size,j,none⟩=false:=fun j=>by simp[World.frozen?,hr]
   have HR:=hD hr;have HB5:Hid (Below w.heap.size w w3):=HB4.out.trans (hb1.mono HB4.out.size);clear hr hb1;go_wp2_with fail;have hg:=set_lo (.int .u64 (l3:Int)) (set_hi (.int .u64 (h3:Int)) HR.out);exact bodyPost_ret (v:= .agg #[.int .u64 (h3:Int), .int .u64 (l3:Int)]) (results_cell_row Tryz.results65 _ _ w.heap.size _ _ _ _ (by simp[go_sem]) hg Tryz.underlying60 rfl (by kernel_rfl)) rfl ⟨by rw[HE3.out],(HB5.out.setCell (by show w.heap.size<=w.heap.size;omega) _).setCell (by show w.heap.size<=w.heap.size;omega) _⟩
end Go.Proofs.YtjfhfaodbjecdaaGreat
