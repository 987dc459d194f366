/-
  Layer 21's document, walked: value of a node that asks two numbers.
-/
import Derived.Test.YtjfhfaodbjecdaaGreatJK31
set_option maxHeartbeats 25600000
set_option maxRecDepth 100000
namespace Go.Proofs.YtjfhfaodbjecdaaGreat
open Go.RowKit
theorem ja (b:Bool):aU b<B*B:=by cases b<;>decide
theorem yB (n:Nod) (a b:Nat) (wb:Int) (ha:a<B*B) (hb:b<B*B) (hop:n.op=10\/n.op=11\/n.op=12\/n.op=15\/n.op=16\/n.op=17\/n.op=18\/n.op=19\/n.op=20):eT n a b wb<B*B:=by
 have two:(2:Nat) ^ 128=B*B:=vD;unfold eT;rcases hop with h|h|h|h|h|h|h|h|h
 all_goals simp only[h,show ¬(11:Int)=10 by decide,show ¬(12:Int)=10 by decide,show ¬(12:Int)=11 by decide,show ¬(15:Int)=10 by decide,show ¬(15:Int)=11 by decide,show ¬(15:Int)=12 by decide,show ¬(16:Int)=10 by decide,show ¬(16:Int)=11 by decide,show ¬(16:Int)=12 by decide,show ¬(16:Int)=15 by decide,show ¬(17:Int)=10 by decide,show ¬(17:Int)=11 by decide,show ¬(17:Int)=12 by decide,show ¬(17:Int)=15 by decide,show ¬(17:Int)=16 by decide,show ¬(18:Int)=10 by decide,show ¬(18:Int)=11 by decide,show ¬(18:Int)=12 by decide,show ¬(18:Int)=15 by decide,show ¬(18:Int)=16 by decide,show ¬(18:Int)=17 by decide,show ¬(19:Int)=10 by decide,show ¬(19:Int)=11 by decide,show ¬(19:Int)=12 by decide,show ¬(19:Int)=15 by decide,show ¬(19:Int)=16 by decide,show ¬(19:Int)=17 by decide,show ¬(19:Int)=18 by decide,show ¬(20:Int)=10 by decide,show ¬(20:Int)=11 by decide,show ¬(20:Int)=12 by decide,show ¬(20:Int)=15 by decide,show ¬(20:Int)=16 by decide,show ¬(20:Int)=17 by decide,show ¬(20:Int)=18 by decide,show ¬(20:Int)=19 by decide,if_true,if_false]
 ·rw[<- two];exact Nat.or_lt_two_pow (Nat.lt_of_lt_of_le (Nat.mod_lt _ (Nat.two_pow_pos _)) (Nat.pow_le_pow_right om (ld 128))) (Nat.lt_of_lt_of_le (Nat.mod_lt _ (Nat.two_pow_pos _)) (Nat.pow_le_pow_right om (ld wb)))
 ·exact A0
 ·exact A0
 ·exact Nat.lt_of_le_of_lt Nat.and_le_left ha
 ·rw[<- two] at *;exact Nat.xor_lt_two_pow ha hb
 ·rw[<- two] at *;exact Nat.or_lt_two_pow ha hb
 ·exact ja _
 ·exact ja _
 ·exact ja _
theorem yC {p:Prg} {act:Int} {x:Pkt} {args:List Nat} {cl:List Nod} {q:KS} {cp gp:Option Addr} {cn cc gn gc:Nat} {w:World} (op k na nb wb:Int) (v last ms ma mb:Nat) (nl:Nod) (dr se ac ab ab2:Bool) (eg:Int) (hE:VEnv p act x args cl q cp cn cc gp gn gc w) (hop:op=10\/op=11\/op=12\/op=15\/op=16\/op=17\/op=18\/op=19\/op=20) (hn:cl[last]?=some ⟨op,k,na,nb,v⟩) (h1:1<=last) (hnl:cl[last-1]?=some nl) (hwb:nl.w=wb) (hma:ma<B*B) (hmb:mb<B*B) (hms:1<=ms)
 (hbeg:∀W,Bl w W->Calls Tryz.prog 74 #[.slice cp cn cc, .int .i64 ((last:Int)-1)] W fun e w'=>e= .returned (.int .i64 (ms:Nat))/\w'=W)
 (iha:∀W,Bl w W->Calls Tryz.prog 50 #[kV q x.port dr se eg ac, .slice cp cn cc, .int .i64 ((ms:Int)-1), .slice gp gn gc] W fun e w'=>AnsV ma (kV q x.port dr se eg ab) e/\Bl W w')
 (ihb:∀W,Bl w W->Calls Tryz.prog 50 #[kV q x.port dr se eg ab, .slice cp cn cc, .int .i64 ((last:Int)-1), .slice gp gn gc] W fun e w'=>AnsV mb (kV q x.port dr se eg ab2) e/\Bl W w') (hmsl:ms<=last):
 Calls Tryz.prog 50 #[kV q x.port dr se eg ac, .slice cp cn cc, .int .i64 (last:Int), .slice gp gn gc] w fun e w'=>AnsV (eT ⟨op,k,na,nb,v⟩ ma mb wb%2 ^ sh k) (kV q x.port dr se eg ab2) e/\Bl w w':=by
 obtain ⟨b,o,hps,hb,y0,y1,y2,y3,hvB,y4,y5⟩:=hE.hc.get hn;obtain ⟨b',o',hps',-,-,t1,-⟩:=hE.hc.get hnl;rw[hps] at hps';cases hps';rw[hwb] at t1;dsimp only at y0 y1 y2 y3 hvB y4 y5;obtain ⟨l1,rfl⟩:∃l1,last=l1+1:=⟨last-1,om⟩;rw[Nat.add_sub_cancel] at t1;have hlc:(((l1+1:Nat):Int)-1)=(l1:Int):=om;rw[hlc] at hbeg ihb;have hli:((l1+1:Nat):Int)<(cn:Int):=by have:=hE.hc.ln.1;have:=(bO hn).1;omega
 have hl1:(l1:Int)<(cn:Int):=om;have hlb:l1<=1000000:=by have:=hE.hl;have:=(bO hn).1;omega
 have hmsb:ms<=1000001:=om;obtain ⟨M,hM⟩:=nm (eT ⟨op,k,na,nb,v⟩ ma mb wb);have hMB:M<B*B:=by rw[hM];exact yB _ ma mb wb hma hmb hop
 rw[<- hM];have HCut:=hD (dN M hMB k);obtain ⟨a0,ha0⟩:=nm ((M/B:Nat):Int);obtain ⟨a1,ha1⟩:=nm ((M%B:Nat):Int);obtain ⟨b0,hb0⟩:=nm ((ma/B:Nat):Int);obtain ⟨b1,hb1⟩:=nm ((ma%B:Nat):Int);obtain ⟨g0,hg0⟩:=nm ((mb/B:Nat):Int);obtain ⟨g1,hg1⟩:=nm ((mb%B:Nat):Int);obtain ⟨c0,hc0⟩:=nm ((M%2 ^ sh k/B:Nat):Int);obtain ⟨c1,hc1⟩:=nm ((M%2 ^ sh k%B:Nat):Int);rw[<- ha0, <-ha1, <-hc0, <-hc1] at HCut;obtain ⟨v0,hv0⟩:=nm ((v/B:Nat):Int);obtain ⟨v1,hv1⟩:=nm ((v%B:Nat):Int);rw[<- hv0] at y4;rw[<- hv1] at y5;have HE:=hD (And.intro hc0 hc1);have HTW:Hd (∀ W,CR 81 #[.agg #[.int .u8 op, .int .i64 k, .int .i64 na, .int .i64 nb, .int .u64 v0, .int .u64 v1], .agg #[.int .u64 b0, .int .u64 b1], .agg #[.int .u64 g0, .int .u64 g1], .int .i64 wb] W (.agg #[.int .u64 a0, .int .u64 a1])):=fun W=>by
  rw[hv0,hv1,hb0,hb1,hg0,hg1,ha0,ha1,hM];exact uj ⟨op,k,na,nb,v⟩ ma mb wb W hma hmb hop
 have HAS:Hd (∀ W,Calls Tryz.prog 73 #[.int .u8 op] W fun e w'=>e= .returned (.int .i64 2)/\w'=W):=fun W=>by
  have h:=bF op W;have e:fi op=2:=by rcases hop with rfl|rfl|rfl|rfl|rfl|rfl|rfl|rfl|rfl<;>rfl
  rw[e] at h;exact h
 have HIA:Hd (∀ W,Bl w W->Calls Tryz.prog 50 #[kV q x.port dr se eg ac, .slice cp cn cc, .int .i64 ((ms:Int)-1), .slice gp gn gc] W fun e w'=>fW b0 b1 (kV q x.port dr se eg ab) e/\Bl W w'):=fun W h=>by rw[hb0,hb1];exact iha W h
 have HIB:Hd (∀ W,Bl w W->Calls Tryz.prog 50 #[kV q x.port dr se eg ab, .slice cp cn cc, .int .i64 (l1:Int), .slice gp gn gc] W fun e w'=>fW g0 g1 (kV q x.port dr se eg ab2) e/\Bl W w'):=fun W h=>by rw[hg0,hg1];exact ihb W h
 have hw1:IntKind.i64.wrap (l1:Int)=(l1:Int):=IntWalk.i64_in _ om;have hw2:IntKind.i64.wrap ((ms:Int)-1)=(ms:Int)-1:=IntWalk.i64_in _ om;have HBG2:Hd (∀ W,Bl w W->Calls Tryz.prog 74 #[.slice cp cn cc, .int .i64 (IntKind.i64.wrap (l1:Int))] W fun e w'=>e= .returned (.int .i64 (ms:Nat))/\w'=W):=by rw[hw1];exact hbeg
 have HIA2:Hd (∀ W,Bl w W->Calls Tryz.prog 50 #[kV q x.port dr se eg ac, .slice cp cn cc, .int .i64 (IntKind.i64.wrap ((ms:Int)-1)), .slice gp gn gc] W fun e w'=>fW b0 b1 (kV q x.port dr se eg ab) e/\Bl W w'):=by rw[hw2];exact HIA.o
 have HY:Hd (∀ W,Bl w W->(Cl W b (o+(l1+1)*6) (.int .u8 op)/\Cl W b (o+(l1+1)*6+1) (.int .i64 k)/\Cl W b (o+(l1+1)*6+2) (.int .i64 na)/\Cl W b (o+(l1+1)*6+3) (.int .i64 nb)/\Cl W b (o+(l1+1)*6+4) (.int .u64 v0)/\Cl W b (o+(l1+1)*6+4+1) (.int .u64 v1))/\Cl W b (o+l1*6+1) (.int .i64 wb)):=fun W h=>
  ⟨⟨(h.cell (p:=⟨b,o+(l1+1)*6,none⟩) hb).trans y0,(h.cell (p:=⟨b,o+(l1+1)*6+1,none⟩) hb).trans y1,(h.cell (p:=⟨b,o+(l1+1)*6+2,none⟩) hb).trans y2,(h.cell (p:=⟨b,o+(l1+1)*6+3,none⟩) hb).trans y3,(h.cell (p:=⟨b,o+(l1+1)*6+4,none⟩) hb).trans y4,(h.cell (p:=⟨b,o+(l1+1)*6+4+1,none⟩) hb).trans y5⟩,(h.cell (p:=⟨b,o+l1*6+1,none⟩) hb).trans t1⟩
 generalize x.port=po at*;have HW3:Hd (Bl w (((w.alloc (.cells (kA q po dr se eg ac) 40)).alloc (.cells #[.int .u64 0, .int .u64 0] 60)).alloc (.cells zA 40))):=by show Below _ _ _;exact bL
 obtain ⟨⟨y0,y1,y2,y3,y4,y5⟩,-⟩:=HY.o _ HW3.o;have hopn:Hd (op=10\/op=11\/op=12\/op=15\/op=16\/op=17\/op=18\/op=19\/op=20):=hop;have HMS:=hD hms;have n1:¬op=1:=by rcases hop with h|h|h|h|h|h|h|h|h<;>omega
 have nb1:(op==1)=false:=by rw[beq_eq_false_iff_ne];exact n1
 have n2:¬op=2:=by rcases hop with h|h|h|h|h|h|h|h|h<;>omega
 have nb2:(op==2)=false:=by rw[beq_eq_false_iff_ne];exact n2
 have n3:¬op=3:=by rcases hop with h|h|h|h|h|h|h|h|h<;>omega
 have nb3:(op==3)=false:=by rw[beq_eq_false_iff_ne];exact n3
 have n4:¬op=4:=by rcases hop with h|h|h|h|h|h|h|h|h<;>omega
 have nb4:(op==4)=false:=by rw[beq_eq_false_iff_ne];exact n4
 have n5:¬op=5:=by rcases hop with h|h|h|h|h|h|h|h|h<;>omega
 have nb5:(op==5)=false:=by rw[beq_eq_false_iff_ne];exact n5
 have n6:¬op=6:=by rcases hop with h|h|h|h|h|h|h|h|h<;>omega
 have nb6:(op==6)=false:=by rw[beq_eq_false_iff_ne];exact n6
 have n7:¬op=7:=by rcases hop with h|h|h|h|h|h|h|h|h<;>omega
 have nb7:(op==7)=false:=by rw[beq_eq_false_iff_ne];exact n7
 have n8:¬op=8:=by rcases hop with h|h|h|h|h|h|h|h|h<;>omega
 have nb8:(op==8)=false:=by rw[beq_eq_false_iff_ne];exact n8
 have n9:¬op=9:=by rcases hop with h|h|h|h|h|h|h|h|h<;>omega
 have nb9:(op==9)=false:=by rw[beq_eq_false_iff_ne];exact n9
 have n13:¬op=13:=by rcases hop with h|h|h|h|h|h|h|h|h<;>omega
 have nb13:(op==13)=false:=by rw[beq_eq_false_iff_ne];exact n13
 have n14:¬op=14:=by rcases hop with h|h|h|h|h|h|h|h|h<;>omega
 have nb14:(op==14)=false:=by rw[beq_eq_false_iff_ne];exact n14
 subst hps;clear hw1 hw2 HIA hn hvB hE hb HW3 iha ihb hbeg ha0 ha1 hb0 hb1 hg0 hg1 hc0 hc1 hv0 hv1 hM hMB hma hmb t1 hop hwb hnl h1 hlc;unfold kV at HIA2 HIB⊢;go_enter Tryz.func50,Tryz.ntmps50;go_upto_region 4 with fail;obtain ⟨W0,hW0⟩:=nm ((((((w.alloc (.cells (kA q po dr se eg ac) 40)).alloc (.cells #[.int .u64 0, .int .u64 0] 60)).alloc (.cells zA 40)).alloc (.cells #[.int .u8 op, .int .i64 k, .int .i64 na, .int .i64 nb, .int .u64 v0, .int .u64 v1] 65)).alloc (.cells #[.int .u64 0, .int .u64 0] 60)).alloc (.cells #[.int .u64 0, .int .u64 0] 60));obtain ⟨z0,z1,z2,z3,z4,z5,zb,zs⟩:=six _ _ _ _ _ _ W0 hW0;have HX0:Hd (Bx W0 (w.heap.size) (kL q po dr se eg ac)):=z0;have HR0:Hd (NB W0 (w.heap.size+1) (.int .u64 0) (.int .u64 0)):=z1;have HZ0:Hd (Bx W0 (w.heap.size+1+1) zL):=z2;have HD0:Hd (NBox W0 (w.heap.size+1+1+1) op k na nb v0 v1):=z3;have HA0:Hd (NB W0 (w.heap.size+1+1+1+1) (.int .u64 0) (.int .u64 0)):=z4;have HC0:Hd (NB W0 (w.heap.size+1+1+1+1+1) (.int .u64 0) (.int .u64 0)):=z5;have HB0:=hD zb;rw[<- hW0];clear hW0 z0 z1 z2 z3 z4 z5 zb zs;obtain ⟨d0,d1,d2,d3,d4,d5⟩:=HD0.o.cells;obtain ⟨e0,e1,e2,e3,e4,e5,e6,e7,e8⟩:=HX0.o.c9;obtain ⟨-,y9⟩:=HY.o W0 HB0.o;go_upto_region 6 with (go_at_call 73;(with_reducible refine (HAS.o _).mono ?_);rintro e w1 ⟨rfl,hw⟩;obtain rfl:=hw.symm);have x0:=HA0.o.c0;have x1:=HA0.o.c1;have x2:=HA0.o.free 0;have x3:=HA0.o.free 1;clear d0 d1 d2 d3 d4 d5 y9;go_region_with (first
  |(go_at_call 74;(with_reducible refine (HBG2.o _ (HB0.o.trans (Below.drew br))).mono ?_);rintro e w1 ⟨rfl,hw⟩;obtain rfl:=hw.symm)
  |(go_at_call 50;(with_reducible refine (HIA2.o _ (HB0.o.trans (Below.drew br))).mono ?_);rintro e w2 ⟨he,hb2'⟩;unfold fW at he;subst he;have hb2:Bl W0 w2:=(Below.drew br).trans hb2';clear hb2';have HX2:=hD (HX0.o.below hb2);have HR2:=hD (HR0.o.below hb2);have HZ2:=hD (HZ0.o.below hb2);have HD2:=hD (HD0.o.below hb2);have HA2:=hD (HA0.o.below hb2);have HC2:=hD (HC0.o.below hb2);have HB2:=hD (HB0.o.trans (hb2.mono HB0.o.size));have x0:=HA2.o.c0;have x1:=HA2.o.c1;have x2:=HA2.o.free 0;have x3:=HA2.o.free 1;have s0:=HC2.o.c0;have s1:=HC2.o.c1;have s2:=HC2.o.free 0;have s3:=HC2.o.free 1;obtain ⟨d0,d1,d2,d3,d4,d5⟩:=HD2.o.cells;obtain ⟨e0,e1,e2,e3,e4,e5,e6,e7,e8⟩:=HX2.o.c9;obtain ⟨f0,f1,f2,f3,f4,f5,f6,f7,f8⟩:=HX2.o.f9;clear hb2))
 ·exact gA
 ·exact gA
end Go.Proofs.YtjfhfaodbjecdaaGreat
