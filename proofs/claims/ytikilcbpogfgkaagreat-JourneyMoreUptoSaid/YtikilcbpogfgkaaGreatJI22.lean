/- Lemmas. -/
import Derived.Test.YtikilcbpogfgkaaGreatJI21
set_option maxHeartbeats 400000
set_option maxRecDepth 100000
namespace Go.Proofs.YtikilcbpogfgkaaGreat
open Go.RowKit
variable {w act:Int} {g k at' b E:Nat} {p:Prg} {c:List Ist} {ap:Pkt->Ist->Pkt} {args:List Nat} {x:Pkt} {n:Nod} {xs:List Value}
theorem numOf_val (n:Nat) (hn:n<B):Value.agg #[.int .u64 0, .int .u64 (n:Int)]=numV n:=by
 have he:=numV_mk 0 n hn;rw[Nat.zero_mul,Nat.zero_add] at he;exact he
theorem numOf_any (n:Nat) (hn:n<B) (w:World):
 Calls Tryz.prog 65 #[.int .u64 (n:Int)] w (RetNum w n):=by
 have H:=hD (numOf_val n hn);clear hn;go_enter Tryz.func65,Tryz.ntmps65;go_wp2;exact bodyPost_ret (v:= .agg #[.int .u64 0, .int .u64 (n:Int)]) (by simp[results,Tryz.results65,go_sem]) rfl ⟨by rw[H.o],bL⟩
theorem shr_val (n s:Nat) (hn:n<B*B):(s<64->∀h l:Nat,h=n/B->l=n%B->Value.agg #[.int .u64 ((h:Int)/2 ^ s), .int .u64 (bits .or .u64 ((l:Int)/2 ^ s) (IntKind.u64.wrap ((h:Int)*2 ^ (64-s))))]=numV (n/2 ^ s))/\
 (64<=s->∀h l:Nat,h=n/B->l=n%B->Value.agg #[.int .u64 0, .int .u64 ((h:Int)/2 ^ (s-64))]=numV (n/2 ^ s)):=by
 refine ⟨fun hs h l e1 e2=>?_,fun hs h l e1 e2=>?_⟩
 ·subst e1 e2;rw[shr_small _ _ _ (half_lt hn) (low_lt _) hs,parts_eq]
 subst e1 e2;rw[shr_great _ (n%B) _ (half_lt hn) (low_lt _) hs,parts_eq]
theorem numShr_any (n:Nat) (k:Int) (w:World) (hn:n<B*B):
 Calls Tryz.prog 95 #[numV n, .int .i64 k] w (RetNum w (n/2 ^ sh k)):=by
 have HV:=hD (shr_val n (sh k) hn);obtain ⟨y,z,he,hh,hl⟩:=numV_parts n;have HH:Hd (y=n/B/\z=n%B):=⟨hh,hl⟩;rw[he];clear he hh hl hn;rcases Int.lt_or_le 0 k with h0|h0
 ·obtain ⟨s,rfl⟩:=Int.eq_ofNat_of_zero_le (Int.le_of_lt h0);have h0':0<s:=om;clear h0;rcases Nat.lt_or_ge s 64 with h1|h1
  ·have HS:Hd (sh (s:Int)=s):=by show _=_;unfold sh;omega
   go_enter Tryz.func95,Tryz.ntmps95;go_wp2;exact bodyPost_ret (v:= .agg #[.int .u64 ((y:Int)/2 ^ s), .int .u64 (bits .or .u64 ((z:Int)/2 ^ s) (IntKind.u64.wrap ((y:Int)*2 ^ (64-s))))]) (by simp[results,Tryz.results95,go_sem]) rfl ⟨by rw[HS.o] at HV⊢;rw[HV.o.1 h1 y z HH.o.1 HH.o.2],bL⟩
  rcases Nat.lt_or_ge s 129 with h2|h2
  ·have HS:Hd (sh (s:Int)=s):=by show _=_;unfold sh;omega
   by_cases h3:s=128
   ·subst h3;go_enter Tryz.func95,Tryz.ntmps95;go_wp2;exact bodyPost_ret (v:= .agg #[.int .u64 0, .int .u64 ((y:Int)/18446744073709551616)]) (by simp[results,Tryz.results95,go_sem]) rfl ⟨by rw[HS.o] at HV⊢;rw[<- HV.o.2 h1 y z HH.o.1 HH.o.2];simp,bL⟩
   have h4:s<128:=om;clear h3 h2;go_enter Tryz.func95,Tryz.ntmps95;go_wp2;exact bodyPost_ret (v:= .agg #[.int .u64 0, .int .u64 ((y:Int)/2 ^ (s-64))]) (by simp[results,Tryz.results95,go_sem]) rfl ⟨by rw[HS.o] at HV⊢;rw[HV.o.2 h1 y z HH.o.1 HH.o.2],bL⟩
  have HS:Hd (sh (s:Int)=128):=by show _=_;unfold sh;omega
  go_enter Tryz.func95,Tryz.ntmps95;go_wp2;exact bodyPost_ret (v:= .agg #[.int .u64 0, .int .u64 ((y:Int)/18446744073709551616)]) (by simp[results,Tryz.results95,go_sem]) rfl ⟨by rw[HS.o] at HV⊢;rw[<- HV.o.2 om y z HH.o.1 HH.o.2];simp,bL⟩
 have HS:Hd (sh k=0):=by show _=_;unfold sh;omega
 go_enter Tryz.func95,Tryz.ntmps95;go_wp2;all_goals exact bodyPost_ret (v:= .agg #[.int .u64 (y:Int), .int .u64 (bits .or .u64 (z:Int) (IntKind.u64.wrap ((y:Int)*18446744073709551616)))]) (by simp[results,Tryz.results95,go_sem]) rfl ⟨by rw[HS.o] at HV⊢;rw[<- HV.o.1 om y z HH.o.1 HH.o.2];simp,bL⟩
theorem ones_val:Value.agg #[.int .u64 18446744073709551615, .int .u64 18446744073709551615]=numV (B*B-1):=by kernel_rfl
theorem BB_pow:B*B=2 ^ 128:=by rw[B_pow, <-Nat.pow_add]
theorem ones_div (t:Nat) (h:t<=128):(B*B-1)/2 ^ (128-t)=2 ^ t-1:=by
 have h1:B*B=2 ^ t*2 ^ (128-t):=by rw[BB_pow, <-Nat.pow_add];congr 1;omega
 have h2:0<2 ^ (128-t):=Nat.two_pow_pos _;have h3:0<2 ^ t:=Nat.two_pow_pos _;apply Nat.div_eq_of_lt_le
 ·rw[Nat.sub_mul,h1];omega
 rw[h1,Nat.sub_add_cancel h3];have:0<2 ^ t*2 ^ (128-t):=Nat.mul_pos h3 h2;omega
theorem mask_lt (w:Int):2 ^ sh w-1<B*B:=by
 have h1:2 ^ sh w<=2 ^ 128:=Nat.pow_le_pow_right om (sh_le w);have h2:0<2 ^ sh w:=Nat.two_pow_pos _;rw[BB_pow];omega
theorem numMask_any (k:Int) (w:World):Calls Tryz.prog 117 #[.int .i64 k] w (RetNum w (2 ^ sh k-1)):=by
 by_cases h0:k<1
 ·have HS:Hd (sh k=0):=by show _=_;unfold sh;omega
  go_enter Tryz.func117,Tryz.ntmps117;go_wp2_with fail;exact bodyPost_ret (v:= .agg #[.int .u64 0, .int .u64 0]) (by simp[results,Tryz.results117,go_sem]) rfl ⟨by rw[HS.o];rfl,bL⟩
 have HS:∀j:Int,(128<k->j=0)->(k<=128->j=128-k)->Hd ((B*B-1)/2 ^ sh j=2 ^ sh k-1):=by
  intro j h1 h2;show _=_;rw[<- ones_div _ (sh_le k)];have:sh j=128-sh k:=by unfold sh;omega
  rw[this]
 have HL:Hd (B*B-1<B*B):=by show _<_;unfold B;omega
 have HO:=hD ones_val;go_enter Tryz.func117,Tryz.ntmps117;go_wp2_with fail;all_goals
  rw[HO.o];refine (numShr_any _ _ _ HL.o).mono ?_;rintro e w1 ⟨rfl,hb⟩;obtain ⟨hc,hf⟩:=bcell hb;have hz:=hb.size;simp at hz;obtain ⟨y,z,he,-,-⟩:=numV_parts ((B*B-1)/2 ^ sh _);have HE:=hD he;rw[he];clear he;go_wp2_with fail;have L2:w.heap.size<w.heap.size+1+1:=om
  exact bodyPost_ret (v:= .agg #[.int .u64 (y:Int), .int .u64 (z:Int)]) (by simp[results,Tryz.results117,go_sem,hc,L2]) rfl ⟨by rw[<- HE.o];rw[(HS _ (by intro;omega) (by intro;omega)).o],bL⟩
theorem numCut_any (n:Nat) (k:Int) (w:World) (hn:n<B*B):Calls Tryz.prog 99 #[numV n, .int .i64 k] w (RetNum w (n%2 ^ sh k)):=by
 have HV:Hd (n &&& (2 ^ sh k-1)=n%2 ^ sh k):=Nat.and_two_pow_sub_one_eq_mod n (sh k);have HB:=hD (and_num n (2 ^ sh k-1) hn (mask_lt k));obtain ⟨y,z,he,hy,hz0⟩:=numV_parts n;obtain ⟨u,v,hm,hu,hv⟩:=numV_parts (2 ^ sh k-1);rw[<- hy, <-hz0, <-hu, <-hv] at HB;have HM:=hD hm;rw[he];clear he hy hz0 hm hu hv;go_enter Tryz.func99,Tryz.ntmps99;go_wp2_with fail;go_region_with (first
  |(go_at_call 117;refine (numMask_any _ _).mono ?_;rintro e w1 ⟨rfl,hb⟩;rw[HM.o];obtain ⟨hc,hf⟩:=bcell hb;have hz:=hb.size;simp at hz;have L1:w.heap.size+1<w1.heap.size:=by omega)
  |(go_at_call 101;refine (and_any _ _ _ _ _).mono ?_;rintro e w2 ⟨rfl,hb2⟩;obtain ⟨hc2,hf2⟩:=bcell hb2;have hz2:=hb2.size))
 all_goals go_wp2_with fail
 all_goals exact bodyPost_ret (v:= .agg #[.int .u64 (bits .and .u64 (y:Int) (u:Int)), .int .u64 (bits .and .u64 (z:Int) (v:Int))]) (by simp[results,Tryz.results99,go_sem,hc,hc2,L1]) rfl ⟨by rw[HB.o,HV.o],bL⟩
theorem numShl_any (n:Nat) (k j:Int) (w:World) (hn:n<B*B):Calls Tryz.prog 64 #[numV n, .int .i64 k, .int .i64 j] w (RetNum w (n*2 ^ sh k%(B*B)%2 ^ sh j)):=by
 have HC:Hd (n*2 ^ sh k%(B*B)<B*B):=Nat.mod_lt _ (by unfold B;omega);have HV1:sh k<64->∀y z:Nat,y=n/B->z=n%B->Value.agg #[.int .u64 (bits .or .u64 (IntKind.u64.wrap ((y:Int)*2 ^ sh k)) ((z:Int)/2 ^ (64-sh k))), .int .u64 (IntKind.u64.wrap ((z:Int)*2 ^ sh k))]=numV (n*2 ^ sh k%(B*B)):=by
  intro hs y z e1 e2;subst e1 e2;rw[shl_small _ _ _ (half_lt hn) (low_lt _) hs,parts_eq]
 have HV2:64<=sh k->∀z:Nat,z=n%B->Value.agg #[.int .u64 (IntKind.u64.wrap ((z:Int)*2 ^ (sh k-64))), .int .u64 0]=numV (n*2 ^ sh k%(B*B)):=by
  intro hs z e2;subst e2;rw[shl_great _ (n%B) _ (half_lt hn) (low_lt _) hs,parts_eq]
 have HA:=hD HV1;clear HV1;have HB:=hD HV2;clear HV2;obtain ⟨y,z,he,hy,hz0⟩:=numV_parts n;have HH:Hd (y=n/B/\z=n%B):=⟨hy,hz0⟩;rw[he];clear he hy hz0 hn;rcases Int.lt_or_le 0 k with h0|h0
 ·obtain ⟨s,rfl⟩:=Int.eq_ofNat_of_zero_le (Int.le_of_lt h0);have h0':0<s:=om;clear h0;rcases Nat.lt_or_ge s 64 with h1|h1
  ·have HS:Hd (sh (s:Int)=s):=by show _=_;unfold sh;omega
   have HE:Hd (Value.agg #[.int .u64 (bits .or .u64 (IntKind.u64.wrap ((y:Int)*2 ^ s)) ((z:Int)/2 ^ (64-s))), .int .u64 (IntKind.u64.wrap ((z:Int)*2 ^ s))]=numV (n*2 ^ sh (s:Int)%(B*B))):=by
    show _=_;rw[<- HA.o (by rw[HS.o];exact h1) y z HH.o.1 HH.o.2,HS.o]
   exact gF
  rcases Nat.lt_or_ge s 128 with h2|h2
  ·have HS:Hd (sh (s:Int)=s):=by show _=_;unfold sh;omega
   have HE:Hd (Value.agg #[.int .u64 (IntKind.u64.wrap ((z:Int)*2 ^ (s-64))), .int .u64 0]=numV (n*2 ^ sh (s:Int)%(B*B))):=by
    show _=_;rw[<- HB.o (by rw[HS.o];exact h1) z HH.o.2,HS.o]
   exact gF
  have HS:Hd (sh (s:Int)=128):=by show _=_;unfold sh;omega
  have HE:Hd (Value.agg #[.int .u64 (IntKind.u64.wrap ((z:Int)*18446744073709551616)), .int .u64 0]=numV (n*2 ^ sh (s:Int)%(B*B))):=by
   show _=_;rw[<- HB.o (by rw[HS.o];omega) z HH.o.2,HS.o];simp
  by_cases h3:s=128
  ·subst h3;exact gF
  have h4:128<s:=om;clear h3 h2;exact gF
 have HS:Hd (sh k=0):=by show _=_;unfold sh;omega
 have HE:Hd (Value.agg #[.int .u64 (bits .or .u64 (IntKind.u64.wrap (y:Int)) ((z:Int)/18446744073709551616)), .int .u64 (IntKind.u64.wrap ((z:Int)))]=numV (n*2 ^ sh k%(B*B))):=by
  show _=_;rw[<- HA.o (by rw[HS.o];omega) y z HH.o.1 HH.o.2,HS.o];simp
 exact gF
open Go.RowKit
def set9 (w:World) (g:Nat) (b0 b1 b2 b3 b4 b5 b6 b7 b8:Value):World:=(((((((((w.setCell ⟨g,0,none⟩ b0).setCell ⟨g,1,none⟩ b1).setCell ⟨g,2,none⟩ b2).setCell ⟨g,3,none⟩ b3).setCell ⟨g,4,none⟩ b4).setCell ⟨g,5,none⟩ b5).setCell ⟨g,6,none⟩ b6).setCell ⟨g,7,none⟩ b7).setCell ⟨g,8,none⟩ b8)
theorem set9_heap {w:World} {t:TypeId} {a0 a1 a2 a3 a4 a5 a6 a7 a8:Value} (b0 b1 b2 b3 b4 b5 b6 b7 b8:Value) (h:w.heap[g]?=some (.cells #[a0,a1,a2,a3,a4,a5,a6,a7,a8] t (0,0))):(set9 w g b0 b1 b2 b3 b4 b5 b6 b7 b8).heap[g]?=some (.cells #[b0,b1,b2,b3,b4,b5,b6,b7,b8] t (0,0)):=by
 have h0:(w.setCell ⟨g,0,none⟩ b0).heap[g]?=some (.cells #[b0,a1,a2,a3,a4,a5,a6,a7,a8] t (0,0)):=heap_setCell_same w g 0 _ t b0 h;have h1:((w.setCell ⟨g,0,none⟩ b0).setCell ⟨g,1,none⟩ b1).heap[g]?=some (.cells #[b0,b1,a2,a3,a4,a5,a6,a7,a8] t (0,0)):=heap_setCell_same (w.setCell ⟨g,0,none⟩ b0) g 1 _ t b1 h0;have h2:(((w.setCell ⟨g,0,none⟩ b0).setCell ⟨g,1,none⟩ b1).setCell ⟨g,2,none⟩ b2).heap[g]?=some (.cells #[b0,b1,b2,a3,a4,a5,a6,a7,a8] t (0,0)):=heap_setCell_same ((w.setCell ⟨g,0,none⟩ b0).setCell ⟨g,1,none⟩ b1) g 2 _ t b2 h1;have h3:((((w.setCell ⟨g,0,none⟩ b0).setCell ⟨g,1,none⟩ b1).setCell ⟨g,2,none⟩ b2).setCell ⟨g,3,none⟩ b3).heap[g]?=some (.cells #[b0,b1,b2,b3,a4,a5,a6,a7,a8] t (0,0)):=heap_setCell_same (((w.setCell ⟨g,0,none⟩ b0).setCell ⟨g,1,none⟩ b1).setCell ⟨g,2,none⟩ b2) g 3 _ t b3 h2;have h4:(((((w.setCell ⟨g,0,none⟩ b0).setCell ⟨g,1,none⟩ b1).setCell ⟨g,2,none⟩ b2).setCell ⟨g,3,none⟩ b3).setCell ⟨g,4,none⟩ b4).heap[g]?=some (.cells #[b0,b1,b2,b3,b4,a5,a6,a7,a8] t (0,0)):=heap_setCell_same ((((w.setCell ⟨g,0,none⟩ b0).setCell ⟨g,1,none⟩ b1).setCell ⟨g,2,none⟩ b2).setCell ⟨g,3,none⟩ b3) g 4 _ t b4 h3;have h5:((((((w.setCell ⟨g,0,none⟩ b0).setCell ⟨g,1,none⟩ b1).setCell ⟨g,2,none⟩ b2).setCell ⟨g,3,none⟩ b3).setCell ⟨g,4,none⟩ b4).setCell ⟨g,5,none⟩ b5).heap[g]?=some (.cells #[b0,b1,b2,b3,b4,b5,a6,a7,a8] t (0,0)):=heap_setCell_same (((((w.setCell ⟨g,0,none⟩ b0).setCell ⟨g,1,none⟩ b1).setCell ⟨g,2,none⟩ b2).setCell ⟨g,3,none⟩ b3).setCell ⟨g,4,none⟩ b4) g 5 _ t b5 h4;have h6:(((((((w.setCell ⟨g,0,none⟩ b0).setCell ⟨g,1,none⟩ b1).setCell ⟨g,2,none⟩ b2).setCell ⟨g,3,none⟩ b3).setCell ⟨g,4,none⟩ b4).setCell ⟨g,5,none⟩ b5).setCell ⟨g,6,none⟩ b6).heap[g]?=some (.cells #[b0,b1,b2,b3,b4,b5,b6,a7,a8] t (0,0)):=heap_setCell_same ((((((w.setCell ⟨g,0,none⟩ b0).setCell ⟨g,1,none⟩ b1).setCell ⟨g,2,none⟩ b2).setCell ⟨g,3,none⟩ b3).setCell ⟨g,4,none⟩ b4).setCell ⟨g,5,none⟩ b5) g 6 _ t b6 h5;have h7:((((((((w.setCell ⟨g,0,none⟩ b0).setCell ⟨g,1,none⟩ b1).setCell ⟨g,2,none⟩ b2).setCell ⟨g,3,none⟩ b3).setCell ⟨g,4,none⟩ b4).setCell ⟨g,5,none⟩ b5).setCell ⟨g,6,none⟩ b6).setCell ⟨g,7,none⟩ b7).heap[g]?=some (.cells #[b0,b1,b2,b3,b4,b5,b6,b7,a8] t (0,0)):=heap_setCell_same (((((((w.setCell ⟨g,0,none⟩ b0).setCell ⟨g,1,none⟩ b1).setCell ⟨g,2,none⟩ b2).setCell ⟨g,3,none⟩ b3).setCell ⟨g,4,none⟩ b4).setCell ⟨g,5,none⟩ b5).setCell ⟨g,6,none⟩ b6) g 7 _ t b7 h6;have h8:(((((((((w.setCell ⟨g,0,none⟩ b0).setCell ⟨g,1,none⟩ b1).setCell ⟨g,2,none⟩ b2).setCell ⟨g,3,none⟩ b3).setCell ⟨g,4,none⟩ b4).setCell ⟨g,5,none⟩ b5).setCell ⟨g,6,none⟩ b6).setCell ⟨g,7,none⟩ b7).setCell ⟨g,8,none⟩ b8).heap[g]?=some (.cells #[b0,b1,b2,b3,b4,b5,b6,b7,b8] t (0,0)):=heap_setCell_same ((((((((w.setCell ⟨g,0,none⟩ b0).setCell ⟨g,1,none⟩ b1).setCell ⟨g,2,none⟩ b2).setCell ⟨g,3,none⟩ b3).setCell ⟨g,4,none⟩ b4).setCell ⟨g,5,none⟩ b5).setCell ⟨g,6,none⟩ b6).setCell ⟨g,7,none⟩ b7) g 8 _ t b8 h7;exact h8
theorem set9_other (w:World) (b0 b1 b2 b3 b4 b5 b6 b7 b8:Value) (h:k≠g):(set9 w g b0 b1 b2 b3 b4 b5 b6 b7 b8).heap[k]?=w.heap[k]?:=by
 unfold set9;rw[setCell_heap h,setCell_heap h,setCell_heap h,setCell_heap h,setCell_heap h,setCell_heap h,setCell_heap h,setCell_heap h,setCell_heap h]
theorem set9_below {B:Nat} {w0 w:World} (b0 b1 b2 b3 b4 b5 b6 b7 b8:Value) (h:Below B w0 w) (hg:B<=g):Below B w0 (set9 w g b0 b1 b2 b3 b4 b5 b6 b7 b8):=by
 unfold set9;exact ((((((((h.setCell hg b0).setCell hg b1).setCell hg b2).setCell hg b3).setCell hg b4).setCell hg b5).setCell hg b6).setCell hg b7).setCell hg b8
open Stab
def JumpsOk (c:List Ist):Prop:=∀(j:Nat) (i:Ist),c[j]?=some i->(i.k=7\/i.k=8)->(j:Int)<i.to/\i.to<=(c.length:Int)
theorem mayInst_jump {i:Ist} {j many:Nat} (h:mayInstP p act i j many=true) (hk:i.k=7\/i.k=8):(j:Int)<i.to/\i.to<=(many:Int):=by
 unfold mayInstP at h;split at h
 ·cases h
 rw[Bool.and_eq_true,if_pos hk] at h;exact of_decide_eq_true h.1
theorem mayInsts_jumps {l:List Ist} (h:mayInstsP p act l=true):JumpsOk l:=by
 intro j i hj hk;unfold mayInstsP at h;rw[Bool.and_eq_true] at h;have:=allIdx_iff.1 h.2 j i hj;rw[Nat.zero_add] at this;exact mayInst_jump this hk
theorem mayInsts_len {l:List Ist} (h:mayInstsP p act l=true):l.length<=65536:=by
 unfold mayInstsP at h;rw[Bool.and_eq_true] at h;exact of_decide_eq_true h.1
theorem istAt_some (h:k<c.length):c[k]?=some (istAt c k):=some_getD _ h
theorem nextI_gt (hc:JumpsOk c) (args:List Nat) (x:Pkt) (h:at'<c.length):at'<nextI args x (istAt c at') at':=by
 exact gL3
theorem nextI_le (hc:JumpsOk c) (args:List Nat) (x:Pkt) (h:at'<c.length):nextI args x (istAt c at') at'<=c.length:=by
 exact gL3
theorem runF_fuel (hc:JumpsOk c):∀(k1 k2 at':Nat) (x:Pkt),c.length-at'<=k1->c.length-at'<=k2->runF p ap args c k1 at' x=runF p ap args c k2 at' x:=by
 intro k1;induction k1 with
 |zero=>
  intro k2 at' x h1 h2;cases k2 with
  |zero=>rfl
  |succ k2=>rw[runF,runF,if_neg om]
 |succ k1 ih=>
  intro k2 at' x h1 h2;cases k2 with
  |zero=>rw[runF,runF,if_neg om]
  |succ k2=>
   rw[runF,runF];by_cases hlt:at'<c.length
   ·rw[if_pos hlt,if_pos hlt];have:=nextI_gt hc args x hlt;exact ih k2 _ _ om om
   rw[if_neg hlt,if_neg hlt]
def doI (p:Prg) (ap:Pkt->Ist->Pkt) (args:List Nat) (x:Pkt) (i:Ist):Pkt:=if i.k=3 then ap x i else execB p args x i
def runFrom (p:Prg) (ap:Pkt->Ist->Pkt) (args:List Nat) (c:List Ist) (at':Nat) (x:Pkt):Pkt:=runF p ap args c c.length at' x
theorem runFrom_stop (h:c.length<=at'):runFrom p ap args c at' x=x:=by
 unfold runFrom;cases hk:c.length with
 |zero=>rfl
 |succ k=>rw[runF,if_neg om]
theorem runFrom_step (hc:JumpsOk c) (h:at'<c.length):runFrom p ap args c at' x=runFrom p ap args c (nextI args x (istAt c at') at') (doI p ap args x (istAt c at')):=by
 have hg:=nextI_gt hc args x h;unfold runFrom;obtain ⟨k,hk⟩:∃k,c.length=k+1:=⟨c.length-1,om⟩;rw[runF_fuel hc c.length (k+1) at' x om om,runF,if_pos h];exact runF_fuel hc _ _ _ _ om om
theorem instW_set {i:Ist} (h:instW p act i=some w) (hk:i.k=1):0<=i.a/\i.a<(p.heads.length:Int)/\0<=i.b/\i.b<((p.heads.getD i.a.toNat []).length:Int)/\w=(p.heads.getD i.a.toNat []).getD i.b.toNat 0:=by
 unfold instW at h;rw[if_pos hk] at h;split at h
 ·rename_i e;cases h;exact ⟨e.1,e.2.1,e.2.2.1,e.2.2.2,rfl⟩
 cases h
theorem instW_meta {i:Ist} (h:instW p act i=some w) (hk:i.k=2):0<=i.a/\i.a<(p.metas.length:Int)/\i.b=0/\w=p.metas.getD i.a.toNat 0:=by
 unfold instW at h;rw[if_neg om,if_pos hk] at h;split at h
 ·rename_i e;cases h;exact ⟨e.1,e.2.1,e.2.2,rfl⟩
 cases h
theorem instW_apply {i:Ist} (h:instW p act i=some w) (hk:i.k=3):act<0/\0<=i.a/\i.a<(p.tabs.length:Int)/\i.b=0/\w=0:=by
 unfold instW at h;rw[if_neg om,if_neg om,if_pos hk] at h;split at h
 ·rename_i e;cases h;exact ⟨e.1,e.2.1,e.2.2.1,e.2.2.2,rfl⟩
 cases h
theorem instW_valid {i:Ist} (h:instW p act i=some w) (hk:i.k=6):0<=i.a/\i.a<(p.heads.length:Int)/\(i.b=0\/i.b=1)/\w=0:=by
 unfold instW at h;rw[if_neg om,if_neg om,if_neg om,if_pos hk] at h;split at h
 ·rename_i e;cases h;exact ⟨e.1,e.2.1,e.2.2,rfl⟩
 cases h
theorem instW_rest {i:Ist} (h:instW p act i=some w) (h1:i.k≠1) (h2:i.k≠2) (h3:i.k≠3) (h6:i.k≠6):(i.k=7/\w=1)\/(i.k=5/\w=9)\/(i.k=4/\w=0)\/(i.k=8/\w=0):=by
 unfold instW at h;rw[if_neg h1,if_neg h2,if_neg h3,if_neg h6] at h;split at h
 ·rename_i hk;split at h
  ·cases h;rcases hk with hk|hk|hk|hk
   ·exact .inl ⟨hk,by rw[if_pos hk]⟩
   ·exact .inr (.inl ⟨hk,by rw[if_neg om,if_pos hk]⟩)
   ·exact .inr (.inr (.inl ⟨hk,by rw[if_neg om,if_neg om]⟩))
   ·exact .inr (.inr (.inr ⟨hk,by rw[if_neg om,if_neg om]⟩))
  cases h
 cases h
theorem ofP_pos {l:List Int} {i:Int} (h:0<ofP l i):0<=i/\i<(l.length:Int):=by
 unfold ofP at h;split at h
 ·omega
 omega
theorem leaf_field (h:plain0P p act n=n.w) (hok:okP n.w=true) (hk:n.op=2):0<=n.a/\n.a<(p.heads.length:Int)/\0<=n.b/\n.b<((p.heads.getD n.a.toNat []).length:Int):=by
 rw[okP_iff] at hok;unfold plain0P at h;rw[if_neg om] at h;split at h
 ·omega
 split at h
 ·rename_i e;have:=ofP_pos (l:=p.heads.getD n.a.toNat []) (i:=n.b) om;exact ⟨e.1,e.2,this.1,this.2⟩
 omega
theorem leaf_meta (h:plain0P p act n=n.w) (hok:okP n.w=true) (hk:n.op=3):0<=n.a/\n.a<(p.metas.length:Int):=by
 rw[okP_iff] at hok;unfold plain0P at h;rw[if_neg om] at h;split at h
 ·omega
 exact ofP_pos om
theorem leaf_param (h:plain0P p act n=n.w) (hok:okP n.w=true) (hk:n.op=4):0<=act/\act<(p.acts.length:Int)/\0<=n.a/\n.a<(((p.acts.getD act.toNat ⟨[],[]⟩).params.length:Nat):Int):=by
 rw[okP_iff] at hok;unfold plain0P at h;rw[if_neg om] at h;split at h
 ·omega
 rw[if_neg (show ¬n.op=2 by omega),if_neg (show ¬n.op=3 by omega)] at h;split at h
 ·rename_i e;have:=ofP_pos (l:=(p.acts.getD act.toNat ⟨[],[]⟩).params) (i:=n.a) om;exact ⟨e.1,e.2,this.1,this.2⟩
 omega
theorem leaf_valid (h:plain0P p act n=n.w) (hok:okP n.w=true) (hk:n.op=6):0<=n.a/\n.a<(p.heads.length:Int):=by
 rw[okP_iff] at hok;unfold plain0P at h;rw[if_neg om] at h;split at h
 ·omega
 rw[if_neg (show ¬n.op=2 by omega),if_neg (show ¬n.op=3 by omega),if_neg (show ¬n.op=4 by omega),if_neg (show ¬n.op=5 by omega)] at h;split at h
 ·assumption
 omega
open Go.RowKit
section
variable {b:Nat} {c0 c1:Int} {c:List Value} {W W':World}
theorem lt_some {W:World} {o:Obj} (h:W.heap[g]?=some o):g<W.heap.size:=(gA_ h).1
end
open Go.RowKit
theorem own_sh {w:World} {sz n:Nat} {v:Value} (h:w.ownsRow b E sz v n xs):∃p c,v= .slice p n c:=by
 obtain ⟨-,⟨rfl,rfl⟩|⟨g,cap,cur,rfl,-⟩⟩:=h
 ·exact ⟨_,_,rfl⟩
 exact ⟨_,_,rfl⟩
def AnsO (po eg:Int) (dr se ac:Bool) (base:Nat) (w:World) (x:Pkt) (e:Ending):Prop:=∃r v f m fs,e= .returned (.agg #[.int .i64 po,r,v,f,m, .bool dr, .bool se, .int .i64 eg, .bool ac])/\PktO base w x r v f m fs
open Go.RowKit
theorem own_raise {w:World} {b' size n:Nat} {v:Value} (h:w.ownsRow b E size v n xs) (hb:∀k,v.ownBlock=some k->b'<=k):w.ownsRow b' E size v n xs:=by
 obtain ⟨h1,h2⟩:=h;refine ⟨h1,?_⟩;rcases h2 with h2|⟨g,cap,cur,h3,h4,h5⟩
 ·exact .inl h2
 exact .inr ⟨g,cap,cur,h3,hb g (by rw[h3];rfl),h5⟩
end Go.Proofs.YtikilcbpogfgkaaGreat
