/- Lemmas. -/
import Derived.Test.YtikilcbpogfgkaaGreatJI27
set_option maxHeartbeats 4000000
set_option maxRecDepth 100000
namespace Go.Proofs.YtikilcbpogfgkaaGreat
open Go.RowKit Go.Maps
variable {w w':World} {n0 m g R a b:Nat} {st:List (Nat×Int)} {S:Nat->Prop}
theorem Stk.lt {x:Value×Value} (h:Stk w n0 m x st):m<w.heap.size:=by
 obtain ⟨v,h1,-⟩:=h;exact (gA_ h1).1
theorem Stk.kept {x:Value×Value} {cs:Array Value} (h:Stk w n0 m x st) (hg:w.heap[g]?=some (.cells cs 82 (0,0))) (hm:m≠g) (hk:∀k,k≠g->w'.heap[k]?=w.heap[k]?):Stk w' n0 m x st:=by
 obtain ⟨v,h1,h2,h3,h4,h5⟩:=h;refine ⟨v,(hk m hm).trans h1,?_,h3,h4,h5⟩;obtain ⟨q0,q|⟨g',cap,cur,q1,q2,q3,q4⟩⟩:=h2
 ·exact ⟨q0, .inl q⟩
 exact ⟨q0, .inr ⟨g',cap,cur,q1,q2,(hk g' (fun e=>by rw[e,hg] at q3;simp at q3)).trans q3,q4⟩⟩
theorem not_lt (a:Nat) (k:Int) (ha:a<B*B):(a%2 ^ sh k) ^^^ (2 ^ sh k-1)<B*B:=by
 have h1:a%2 ^ sh k<2 ^ 128:=by rw[<- BB_pow];exact Nat.lt_of_le_of_lt (Nat.mod_le _ _) ha
 have h2:2 ^ sh k-1<2 ^ 128:=by rw[<- BB_pow];exact mask_lt k
 rw[BB_pow];exact Nat.xor_lt_two_pow h1 h2
theorem node_one (n0 m:Nat) (x:Value×Value) (st:List (Nat×Int)) (a:Nat) (j:Int) (op k c2 c3 c4 c5:Int) (w:World) (hS:Stk w n0 m x (st++[(a,j)])) (hlen:st.length<99990) {fk:Nat} (hop:7<=op) (hwf:(Lit.int .u8 op).wf=true) (hin:∀g,(op,fnV fk g)∈aloneM g) (hmb:∀g,∀q∈bothM g,q.1≠op) (hcf:∀vs V,(callFunc fk vs).run Tryz.prog V= .ok (.enter fk vs) V) (hR:R<B*B)
 (hC:∀W g,NodeAt W g op k c2 c3 c4 c5->Calls Tryz.prog fk #[szV a j, .pointer (some ⟨g,0,none⟩)] W (RetNum W R)):
 Calls Tryz.prog 118 #[.pointer (some ⟨m,0,none⟩),nodeV op k c2 c3 c4 c5] w fun e w'=>e= .returned (.tuple #[])/\Stk w' n0 m x (st++[(R%2 ^ sh k,k)])/\Below n0 w w':=by
 have HS:=hD hS;have HLEN:Hd (st.length<100000):=(by show _<_;omega);have HL:Hd (∀ W,CR 125 #[.pointer (some ⟨m,0,none⟩),nodeV op k c2 c3 c4 c5] W (.tuple #[.agg #[.int .u64 0, .int .u64 0], .bool false])):=fun W=>leaf_none m op k c2 c3 _ _ W om
 have HA:Hd (∀ W,Calls Tryz.prog 126 #[nodeV op k c2 c3 c4 c5] W fun e w'=>∃mm,e= .returned (.map (some mm))/\UMap w' mm (aloneM W.heap.size)/\NodeAt w' W.heap.size op k c2 c3 c4 c5/\Bl W w'):=fun W=>alone_any _ _ _ _ _ _ W
 have HBO:Hd (∀ W,Calls Tryz.prog 127 #[nodeV op k c2 c3 c4 c5] W fun e w'=>∃mm,e= .returned (.map (some mm))/\UMap w' mm (bothM W.heap.size)/\NodeAt w' W.heap.size op k c2 c3 c4 c5/\Bl W w'):=fun W=>both_any _ _ _ _ _ _ W
 have HNA:Hd (NodeAt (w.alloc (.cells #[.int .u8 op, .int .i64 k, .int .i64 c2, .int .i64 c3, .int .u64 c4, .int .u64 c5] 84)) w.heap.size op k c2 c3 c4 c5):=heap_new w _;have HRL:=hD hR;have HCL:=hD hC;have HFK:=hD hin;have HMB:=hD hmb;have HOP:=hD hwf;have HPOP:Hd (∀ W,Stk W n0 m x (st++[(a,j)])->Calls Tryz.prog 119 #[.pointer (some ⟨m,0,none⟩)] W fun e w'=>e= .returned (szV a j)/\Stk w' n0 m x st/\Below n0 W w'/\Apart m W w'):=fun W h=>pop_any n0 m x st a j W h
 obtain ⟨y3,z3,he3,ey3,ez3⟩:=numV_parts R;have HE3:Hd (y3=R/B/\z3=R%B):=⟨ey3,ez3⟩;unfold RetNum at HCL;rw[he3] at HCL;unfold szV at HCL HPOP;obtain ⟨ay,hay⟩:∃ay:Int,ay=((a/B:Nat):Int):=⟨_,rfl⟩;obtain ⟨az,haz⟩:∃az:Int,az=((a%B:Nat):Int):=⟨_,rfl⟩;rw[<- hay, <-haz] at HCL HPOP;clear he3 ey3 ez3 hay haz;clear hS hlen hop hwf hin hmb hR hC;unfold nodeV at HL HA HBO⊢;go_enter Tryz.func118,Tryz.ntmps118;go_wp2_with (go_at_call 125;refine (HL.o _).mono ?_;rintro e w1 ⟨rfl,hb1⟩;have HB1:=hD hb1;have hz1:=hb1.size;simp at hz1;clear hb1);obtain ⟨W2,hW2⟩:=nm (w1.alloc (.cells #[.int .u64 0, .int .u64 0] 82));have HB2:Hd (Bl w W2):=by
  exact gJ4
 have HN2:Hd (NodeAt W2 w.heap.size op k c2 c3 c4 c5):=by
  exact gM4
 have H42:Hd (W2.heap[w1.heap.size]?=some (.cells #[.int .u64 0, .int .u64 0] 82 (0,0))):=by
  show _=_;rw[hW2];exact heap_new w1 _
 rw[<- hW2];have hz2:w1.heap.size<W2.heap.size:=by rw[hW2];simp
 have hz0:w.heap.size<w1.heap.size:=om;clear hW2 HB1 HNA hz1;generalize w1.heap.size=g4 at*;clear w1;have HMW:Hd (m<w.heap.size):=HS.o.lt;obtain ⟨q0,q1,q2,q3,q4,q5⟩:=HN2.o.cells;have HS2:Hd ((fun Wk=>Below (W2.heap.size) (W2) Wk/\Cl Wk w.heap.size 0 (.int .u8 op)/\Cl Wk w.heap.size 1 (.int .i64 k)/\Cl Wk w.heap.size 2 (.int .i64 c2)/\Cl Wk w.heap.size 3 (.int .i64 c3)/\Cl Wk w.heap.size 4 (.int .u64 c4)/\Cl Wk w.heap.size 5 (.int .u64 c5)) W2.drew):=⟨below_drewN br 1,q0,q1,q2,q3,q4,q5⟩;go_region_held3 (fun Wk=>Below (W2.heap.size) (W2) Wk/\Wk.cell? ⟨w.heap.size,0,none⟩=some (.int .u8 op)/\Wk.cell? ⟨w.heap.size,1,none⟩=some (.int .i64 k)/\Wk.cell? ⟨w.heap.size,2,none⟩=some (.int .i64 c2)/\Wk.cell? ⟨w.heap.size,3,none⟩=some (.int .i64 c3)/\Wk.cell? ⟨w.heap.size,4,none⟩=some (.int .u64 c4)/\Wk.cell? ⟨w.heap.size,5,none⟩=some (.int .u64 c5))
  (first|exact HS2.o|assumption|exact held_6_0 hb1 (by assumption))
  (first
  |(go_at_call 126;refine (HA.o _).mono ?_;rintro e w1 ⟨mm,rfl,hU,hNB,hb1⟩;have hlk:=hU.look (P:=Tryz.prog) (k:=5) (T:=196) (e:=194) Tryz.underlying5 Tryz.underlying196 (x:=op) (v:=fnV fk W2.heap.size) (HFK.o _);unfold fnV at hlk))
 rename_i hH;obtain ⟨hb2,q0,q1,q2,q3,q4,q5⟩:=hH;have HB3:=hD hb2;have hz3:=hb2.size;have HNB:Hd (NodeAt w1 W2.heap.size op k c2 c3 c4 c5):=hNB;have HS3:Hd (Stk w1 n0 m x (st++[(a,j)])):=HS.o.below (HB2.o.trans (HB3.o.mono HB2.o.size));have HN3:Hd (NodeAt w1 w.heap.size op k c2 c3 c4 c5):=HN2.o.below HB3.o;have H43:Hd (w1.heap[g4]?=some (.cells #[.int .u64 0, .int .u64 0] 82 (0,0))):=(HB3.o.block _ hz2).trans H42.o;clear hU hlk hb1 hb2 hNB q0 q1 q2 q3 q4 q5;go_wp2_with fail;refine (HPOP.o _ HS3.o).mono ?_;rintro e w3 ⟨rfl,hs3,hbn3,hap3⟩;have HAP:Hd (Apart m w1 w3):=hap3;have HSA:=hD hs3;have HBN3:Hd (Below n0 w1 w3):=hbn3;clear hs3 hbn3 hap3;have HNB2:Hd (NodeAt w3 W2.heap.size op k c2 c3 c4 c5):=(HAP.o.1 _ (gA_ HNB.o).1 (by have:=HMW.o;omega)).trans HNB.o;have HN4:Hd (NodeAt w3 w.heap.size op k c2 c3 c4 c5):=(HAP.o.1 _ (gA_ HN3.o).1 (by have:=HMW.o;omega)).trans HN3.o;have H44:Hd (w3.heap[g4]?=some (.cells #[.int .u64 0, .int .u64 0] 82 (0,0))):=(HAP.o.1 _ (gA_ H43.o).1 (by have:=HMW.o;omega)).trans H43.o;go_wp2_with fail;refine (HCL.o _ _ HNB2.o).mono ?_;rintro e w4 ⟨rfl,hb4⟩;have HB4:=hD hb4;have hg4:w4.heap[g4]?=some (.cells #[.int .u64 0, .int .u64 0] 82 (0,0)):=(hb4.block _ (gA_ H44.o).1).trans H44.o;have HG4:=hD hg4;have k0:w4.cell? ⟨g4,0,none⟩=some (.int .u64 0):=by simp[World.cell?,hg4]
 have k1:w4.cell? ⟨g4,1,none⟩=some (.int .u64 0):=by simp[World.cell?,hg4]
 have k2:w4.frozen? ⟨g4,0,none⟩=false:=by simp[World.frozen?,hg4]
 have k3:w4.frozen? ⟨g4,1,none⟩=false:=by simp[World.frozen?,hg4]
 clear hg4 hb4;go_wp2_with fail;obtain ⟨W5,hW5⟩:=nm ((w4.setCell ⟨g4,0,none⟩ (.int .u64 (y3:Int))).setCell ⟨g4,1,none⟩ (.int .u64 (z3:Int)));have hk5:∀k,k≠g4->W5.heap[k]?=w4.heap[k]?:=fun k hk=>by rw[hW5,setCell_heap hk,setCell_heap hk]
 have hs5:W5.heap.size=w4.heap.size:=by rw[hW5];simp
 have HG5:Hd (W5.heap[g4]?=some (.cells #[.int .u64 (y3:Int), .int .u64 (z3:Int)] 82 (0,0))):=by show _=_;rw[hW5];exact set_lo _ (set_hi _ HG4.o)
 have HN5:Hd (NodeAt W5 w.heap.size op k c2 c3 c4 c5):=(hk5 _ om).trans (HN4.o.below HB4.o);have HS5:Hd (Stk W5 n0 m x st):=(HSA.o.below HB4.o).kept HG4.o (by have:=HMW.o;omega) hk5;have HBN5:Hd (Below n0 w W5):=by
  have hn0:n0<=w.heap.size:=HS.o.base;have hB:Below n0 w w4:=(((HB2.o.trans (HB3.o.mono HB2.o.size)).mono hn0).trans HBN3.o).trans (HB4.o.mono (Nat.le_trans hn0 (by have:=HB2.o.size;have:=HB3.o.size;have:=HAP.o.2;omega)));show Below _ _ _;rw[hW5];exact (hB.setCell (by show n0<=g4;omega) _).setCell (by show n0<=g4;omega) _
 rw[<- hW5];clear k0 k1 k2 k3 hW5 hk5;have hl5:g4<W5.heap.size:=(gA_ HG5.o).1;obtain ⟨q0,q1,q2,q3,q4,q5⟩:=HN5.o.cells;have HS6b:Hd ((fun Wk=>Below (W5.heap.size) (W5) Wk/\Cl Wk w.heap.size 0 (.int .u8 op)/\Cl Wk w.heap.size 1 (.int .i64 k)/\Cl Wk w.heap.size 2 (.int .i64 c2)/\Cl Wk w.heap.size 3 (.int .i64 c3)/\Cl Wk w.heap.size 4 (.int .u64 c4)/\Cl Wk w.heap.size 5 (.int .u64 c5)) W5.drew):=⟨below_drewN br 1,q0,q1,q2,q3,q4,q5⟩;go_region_held3 (fun Wk=>Below (W5.heap.size) (W5) Wk/\Wk.cell? ⟨w.heap.size,0,none⟩=some (.int .u8 op)/\Wk.cell? ⟨w.heap.size,1,none⟩=some (.int .i64 k)/\Wk.cell? ⟨w.heap.size,2,none⟩=some (.int .i64 c2)/\Wk.cell? ⟨w.heap.size,3,none⟩=some (.int .i64 c3)/\Wk.cell? ⟨w.heap.size,4,none⟩=some (.int .u64 c4)/\Wk.cell? ⟨w.heap.size,5,none⟩=some (.int .u64 c5))
  (first|exact HS6b.o|assumption|exact held_6_0 hb1 (by assumption))
  (first
  |(go_at_call 127;refine (HBO.o _).mono ?_;rintro e W6 ⟨mm2,rfl,hU,hNB,hb1⟩;have hlk:=hU.miss (P:=Tryz.prog) (k:=5) (T:=200) (e:=198) Tryz.underlying5 Tryz.underlying200 (Tryz.zeroValue198 _) (x:=op) HOP.o (HMB.o _)))
 rename_i hH;obtain ⟨hb2,q0,q1,q2,q3,q4,q5⟩:=hH;have HB6:=hD hb2;have hz6:=hb2.size;have HS6:Hd (Stk W6 n0 m x st):=HS5.o.below HB6.o;have HN6:Hd (NodeAt W6 w.heap.size op k c2 c3 c4 c5):=HN5.o.below HB6.o;have H46:Hd (W6.heap[g4]?=some (.cells #[.int .u64 ((R/B:Nat):Int), .int .u64 ((R%B:Nat):Int)] 82 (0,0))):=by
  show _=_;rw[<- HE3.o.1, <-HE3.o.2];exact (HB6.o.block _ hl5).trans HG5.o
 have HBN6:Hd (Below n0 w W6):=HBN5.o.trans (HB6.o.mono (Nat.le_trans HS.o.base HBN5.o.size));clear hU hlk hb1 hb2 hNB q0 q1 q2 q3 q4 q5;go_wp2_with fail;refine push_region n0 m w.heap.size g4 x st R op k c2 c3 c4 c5 W6 HS6 HN6 H46 HRL HLEN _ _ _ _ _ _ _ _ _ _ _ _ _ _ _ _ _ _ _ _ _ _ _ _ _ _ _ _ _ _ _ _ _ _ _ _ _ _ _ _ _ _ _ _ _ _ _ _ _ _ _ _ _ _ _ _ _ _ _ _ _ _ _ _ _ _ _ _ ?_;exact gA3
theorem node_not (n0 m:Nat) (x:Value×Value) (st:List (Nat×Int)) (a:Nat) (j:Int) (k c2 c3 c4 c5:Int) (w:World) (hS:Stk w n0 m x (st++[(a,j)])) (hlen:st.length<99990) (ha:a<B*B):
 Calls Tryz.prog 118 #[.pointer (some ⟨m,0,none⟩),nodeV 7 k c2 c3 c4 c5] w fun e w'=>e= .returned (.tuple #[])/\Stk w' n0 m x (st++[(((a%2 ^ sh k) ^^^ (2 ^ sh k-1))%2 ^ sh k,k)])/\Below n0 w w':=
 node_one n0 m x st a j 7 k c2 c3 c4 c5 w hS hlen (fk:=133) dq rfl (fun g=>by simp[aloneM]) (fun g=>by simp[bothM]) (fun _ _=>by kernel_rfl) (not_lt a k ha) fun W g hg=>clos_not g 7 k c2 c3 c4 c5 a j W ha hg
theorem node_neg (n0 m:Nat) (x:Value×Value) (st:List (Nat×Int)) (a:Nat) (j:Int) (k c2 c3 c4 c5:Int) (w:World) (hS:Stk w n0 m x (st++[(a,j)])) (hlen:st.length<99990) (ha:a<B*B):
 Calls Tryz.prog 118 #[.pointer (some ⟨m,0,none⟩),nodeV 8 k c2 c3 c4 c5] w fun e w'=>e= .returned (.tuple #[])/\Stk w' n0 m x (st++[(((0+(B*B-a))%(B*B)%2 ^ sh k)%2 ^ sh k,k)])/\Below n0 w w':=
 node_one n0 m x st a j 8 k c2 c3 c4 c5 w hS hlen (fk:=135) dq rfl (fun g=>by simp[aloneM]) (fun g=>by simp[bothM]) (fun _ _=>by kernel_rfl) (Nat.lt_of_le_of_lt (Nat.mod_le _ _) (Nat.mod_lt _ (by unfold B;omega))) fun W g hg=>clos_neg g 8 k c2 c3 c4 c5 a j W ha hg
theorem node_slice (n0 m:Nat) (x:Value×Value) (st:List (Nat×Int)) (a:Nat) (j:Int) (k c2 c3 c4 c5:Int) (w:World) (hS:Stk w n0 m x (st++[(a,j)])) (hlen:st.length<99990) (ha:a<B*B) (h0:0<=c3) (h1:c3<=c2) (h2:c2<128):
 Calls Tryz.prog 118 #[.pointer (some ⟨m,0,none⟩),nodeV 9 k c2 c3 c4 c5] w fun e w'=>e= .returned (.tuple #[])/\Stk w' n0 m x (st++[((a/2 ^ sh c3%2 ^ sh (c2-c3+1))%2 ^ sh k,k)])/\Below n0 w w':=
 node_one n0 m x st a j 9 k c2 c3 c4 c5 w hS hlen (fk:=137) dq rfl (fun g=>by simp[aloneM]) (fun g=>by simp[bothM]) (fun _ _=>by kernel_rfl) (Nat.lt_of_le_of_lt (Nat.mod_le _ _) (Nat.lt_of_le_of_lt (Nat.div_le_self _ _) ha)) fun W g hg=>clos_slice g 9 k c2 c3 c4 c5 a j W ha hg h0 h1 h2
theorem node_shl (n0 m:Nat) (x:Value×Value) (st:List (Nat×Int)) (a:Nat) (j:Int) (k c2 c3 c4 c5:Int) (w:World) (hS:Stk w n0 m x (st++[(a,j)])) (hlen:st.length<99990) (ha:a<B*B):
 Calls Tryz.prog 118 #[.pointer (some ⟨m,0,none⟩),nodeV 13 k c2 c3 c4 c5] w fun e w'=>e= .returned (.tuple #[])/\Stk w' n0 m x (st++[((a*2 ^ sh c2%(B*B)%2 ^ sh k)%2 ^ sh k,k)])/\Below n0 w w':=
 node_one n0 m x st a j 13 k c2 c3 c4 c5 w hS hlen (fk:=139) dq rfl (fun g=>by simp[aloneM]) (fun g=>by simp[bothM]) (fun _ _=>by kernel_rfl) (Nat.lt_of_le_of_lt (Nat.mod_le _ _) (Nat.mod_lt _ (by unfold B;omega))) fun W g hg=>clos_shl g 13 k c2 c3 c4 c5 a j W ha hg
theorem node_shr (n0 m:Nat) (x:Value×Value) (st:List (Nat×Int)) (a:Nat) (j:Int) (k c2 c3 c4 c5:Int) (w:World) (hS:Stk w n0 m x (st++[(a,j)])) (hlen:st.length<99990) (ha:a<B*B):
 Calls Tryz.prog 118 #[.pointer (some ⟨m,0,none⟩),nodeV 14 k c2 c3 c4 c5] w fun e w'=>e= .returned (.tuple #[])/\Stk w' n0 m x (st++[((a/2 ^ sh c2)%2 ^ sh k,k)])/\Below n0 w w':=
 node_one n0 m x st a j 14 k c2 c3 c4 c5 w hS hlen (fk:=140) dq rfl (fun g=>by simp[aloneM]) (fun g=>by simp[bothM]) (fun _ _=>by kernel_rfl) (Nat.lt_of_le_of_lt (Nat.div_le_self _ _) ha) fun W g hg=>clos_shr g 14 k c2 c3 c4 c5 a j W ha hg
open Go.RowKit Go.Maps
section
variable {W w1:World} {gX g4 m:Nat} {a b c:Value}
def SB (gX g4:Nat) (a b c:Value) (Wk:World):Prop:=Wk.cell? ⟨gX,0,none⟩=some a/\Wk.cell? ⟨gX,1,none⟩=some b/\Wk.cell? ⟨gX,2,none⟩=some c/\(∃ x,Wk.cell? ⟨g4,0,none⟩=some x)/\(∃ x,Wk.cell? ⟨g4,1,none⟩=some x)/\Wk.frozen? ⟨g4,0,none⟩=false/\Wk.frozen? ⟨g4,1,none⟩=false
theorem SB.apart (h:SB gX g4 a b c W) (ha:Apart m W w1) (hX:gX≠m) (h4:g4≠m):SB gX g4 a b c w1:=by
 obtain ⟨q0,q1,q2,⟨x0,q3⟩,⟨x1,q4⟩,q5,q6⟩:=h;exact ⟨ha.cell (p:=⟨gX,0,none⟩) hX q0,ha.cell (p:=⟨gX,1,none⟩) hX q1,ha.cell (p:=⟨gX,2,none⟩) hX q2,⟨x0,ha.cell (p:=⟨g4,0,none⟩) h4 q3⟩,⟨x1,ha.cell (p:=⟨g4,1,none⟩) h4 q4⟩,(ha.frozen (p:=⟨g4,0,none⟩) h4 q3).trans q5,(ha.frozen (p:=⟨g4,1,none⟩) h4 q4).trans q6⟩
theorem SB.below (h:SB gX g4 a b c W) (hb:Bl W w1):SB gX g4 a b c w1:=by
 obtain ⟨q0,q1,q2,⟨x0,q3⟩,⟨x1,q4⟩,q5,q6⟩:=h;exact ⟨(hb.cell (cell_there q0).1).trans q0,(hb.cell (cell_there q1).1).trans q1,(hb.cell (cell_there q2).1).trans q2,⟨x0,(hb.cell (cell_there q3).1).trans q3⟩,⟨x1,(hb.cell (cell_there q4).1).trans q4⟩,(hb.frozen (cell_there q3).1).trans q5,(hb.frozen (cell_there q4).1).trans q6⟩
theorem SB.set (h:SB gX g4 a b c W) (hX:gX≠g4) (u v:Value):SB gX g4 a b c ((W.setCell ⟨g4,0,none⟩ u).setCell ⟨g4,1,none⟩ v):=by
 obtain ⟨q0,q1,q2,q3,q4,q5,q6⟩:=h;exact ⟨cell?_apart hX (cell?_apart hX q0),cell?_apart hX (cell?_apart hX q1),cell?_apart hX (cell?_apart hX q2),cell?_some_after _ (cell?_some_after _ q3),cell?_some_after _ (cell?_some_after _ q4),by simp only[World.frozen?_setCell];exact q5,by simp only[World.frozen?_setCell];exact q6⟩
end
theorem NodeAt.apart {op c1 c2 c3 c4 c5:Int} (h:NodeAt w g op c1 c2 c3 c4 c5) (ha:Apart m w w') (hne:g≠m):NodeAt w' g op c1 c2 c3 c4 c5:=(ha.1 _ (gA_ h).1 hne).trans h
theorem cat_lt (a b:Nat) (j:Int) (hb:b<B*B):(a*2 ^ sh j%(B*B)%2 ^ sh 128) ||| (b%2 ^ sh j)<B*B:=by
 have h1:a*2 ^ sh j%(B*B)%2 ^ sh 128<2 ^ 128:=by rw[<- BB_pow];exact Nat.lt_of_le_of_lt (Nat.mod_le _ _) (Nat.mod_lt _ (by unfold B;omega))
 have h2:b%2 ^ sh j<2 ^ 128:=by rw[<- BB_pow];exact Nat.lt_of_le_of_lt (Nat.mod_le _ _) hb
 rw[BB_pow];exact Nat.or_lt_two_pow (by rw[<- BB_pow];rw[<- BB_pow] at h1;exact h1) h2
theorem xor_lt (ha:a<B*B) (hb:b<B*B):a ^^^ b<B*B:=by
 rw[BB_pow] at ha hb⊢;exact Nat.xor_lt_two_pow ha hb
theorem or_lt (ha:a<B*B) (hb:b<B*B):a ||| b<B*B:=by
 rw[BB_pow] at ha hb⊢;exact Nat.or_lt_two_pow ha hb
theorem one_lt (b:Bool):oneN b<B*B:=by cases b<;>(unfold oneN B;decide)
theorem node_two (n0 m:Nat) (x:Value×Value) (st:List (Nat×Int)) (a b:Nat) (i j:Int) (op k c2 c3 c4 c5:Int) (w:World) (hS:Stk w n0 m x (st++[(a,i)]++[(b,j)])) (hlen:st.length<99990) {fk:Nat} (cp:Nat->Array Value) (hop:7<=op) (hwf:(Lit.int .u8 op).wf=true) (hin:∀g,(op, .func (Fn.func fk) #[] (cp g))∈bothM g) (hma:∀g,∀q∈aloneM g,q.1≠op) (hcf:∀vs V,(callFunc fk vs).run Tryz.prog V= .ok (.enter fk vs) V) (hR:R<B*B)
 (hC:∀W g,NodeAt W g op k c2 c3 c4 c5->Calls Tryz.prog fk (#[szV a i,szV b j]++cp g) W (RetNum W R)):
 Calls Tryz.prog 118 #[.pointer (some ⟨m,0,none⟩),nodeV op k c2 c3 c4 c5] w fun e w'=>e= .returned (.tuple #[])/\Stk w' n0 m x (st++[(R%2 ^ sh k,k)])/\Below n0 w w':=by
 have HS:=hD hS;have HLEN:Hd (st.length<100000):=(by show _<_;omega);have HL:Hd (∀ W,CR 125 #[.pointer (some ⟨m,0,none⟩),nodeV op k c2 c3 c4 c5] W (.tuple #[.agg #[.int .u64 0, .int .u64 0], .bool false])):=fun W=>leaf_none m op k c2 c3 _ _ W om
 have HA:Hd (∀ W,Calls Tryz.prog 126 #[nodeV op k c2 c3 c4 c5] W fun e w'=>∃mm,e= .returned (.map (some mm))/\UMap w' mm (aloneM W.heap.size)/\NodeAt w' W.heap.size op k c2 c3 c4 c5/\Bl W w'):=fun W=>alone_any _ _ _ _ _ _ W
 have HBO:Hd (∀ W,Calls Tryz.prog 127 #[nodeV op k c2 c3 c4 c5] W fun e w'=>∃mm,e= .returned (.map (some mm))/\UMap w' mm (bothM W.heap.size)/\NodeAt w' W.heap.size op k c2 c3 c4 c5/\Bl W w'):=fun W=>both_any _ _ _ _ _ _ W
 have HNA:Hd (NodeAt (w.alloc (.cells #[.int .u8 op, .int .i64 k, .int .i64 c2, .int .i64 c3, .int .u64 c4, .int .u64 c5] 84)) w.heap.size op k c2 c3 c4 c5):=heap_new w _;have HRL:=hD hR;have HCL:=hD hC;have HFK:=hD hin;have HMA:=hD hma;have HOP:=hD hwf;have HTB:Hd (∀ W,Stk W n0 m x (st++[(a,i)]++[(b,j)])->Calls Tryz.prog 119 #[.pointer (some ⟨m,0,none⟩)] W fun e w'=>e= .returned (szV b j)/\Stk w' n0 m x (st++[(a,i)])/\Below n0 W w'/\Apart m W w'):=fun W h=>pop_any n0 m x (st++[(a,i)]) b j W h
 have HTA:Hd (∀ W,Stk W n0 m x (st++[(a,i)])->Calls Tryz.prog 119 #[.pointer (some ⟨m,0,none⟩)] W fun e w'=>e= .returned (szV a i)/\Stk w' n0 m x (st)/\Below n0 W w'/\Apart m W w'):=fun W h=>pop_any n0 m x (st) a i W h
 obtain ⟨y3,z3,he3,ey3,ez3⟩:=numV_parts R;have HE3:Hd (y3=R/B/\z3=R%B):=⟨ey3,ez3⟩;unfold RetNum at HCL;rw[he3] at HCL;unfold szV at HCL HTA HTB;obtain ⟨ay,hay⟩:∃ay:Int,ay=((a/B:Nat):Int):=⟨_,rfl⟩;obtain ⟨az,haz⟩:∃az:Int,az=((a%B:Nat):Int):=⟨_,rfl⟩;obtain ⟨bY,hby⟩:∃bY:Int,bY=((b/B:Nat):Int):=⟨_,rfl⟩;obtain ⟨bZ,hbz⟩:∃bZ:Int,bZ=((b%B:Nat):Int):=⟨_,rfl⟩;rw[<- hay, <-haz, <-hby, <-hbz] at HCL;rw[<- hay, <-haz] at HTA;rw[<- hby, <-hbz] at HTB;clear he3 ey3 ez3 hay haz hby hbz;clear hS hlen hop hwf hin hma hR hC;unfold nodeV at HL HA HBO⊢;go_enter Tryz.func118,Tryz.ntmps118;go_wp2_with (go_at_call 125;refine (HL.o _).mono ?_;rintro e w1 ⟨rfl,hb1⟩;have HB1:=hD hb1;have hz1:=hb1.size;simp at hz1;clear hb1);obtain ⟨W2,hW2⟩:=nm (w1.alloc (.cells #[.int .u64 0, .int .u64 0] 82));have HB2:Hd (Bl w W2):=by
  exact gJ4
 have HN2:Hd (NodeAt W2 w.heap.size op k c2 c3 c4 c5):=by
  exact gM4
 have H42:Hd (W2.heap[w1.heap.size]?=some (.cells #[.int .u64 0, .int .u64 0] 82 (0,0))):=by
  show _=_;rw[hW2];exact heap_new w1 _
 rw[<- hW2];have hz2:w1.heap.size<W2.heap.size:=by rw[hW2];simp
 have hz0:w.heap.size<w1.heap.size:=om;clear hW2 HB1 HNA hz1;generalize w1.heap.size=g4 at*;clear w1;have HMW:Hd (m<w.heap.size):=HS.o.lt;obtain ⟨q0,q1,q2,q3,q4,q5⟩:=HN2.o.cells;have HS2:Hd ((fun Wk=>Below (W2.heap.size) (W2) Wk/\Cl Wk w.heap.size 0 (.int .u8 op)/\Cl Wk w.heap.size 1 (.int .i64 k)/\Cl Wk w.heap.size 2 (.int .i64 c2)/\Cl Wk w.heap.size 3 (.int .i64 c3)/\Cl Wk w.heap.size 4 (.int .u64 c4)/\Cl Wk w.heap.size 5 (.int .u64 c5)) W2.drew):=⟨below_drewN br 1,q0,q1,q2,q3,q4,q5⟩;go_region_held3 (fun Wk=>Below (W2.heap.size) (W2) Wk/\Wk.cell? ⟨w.heap.size,0,none⟩=some (.int .u8 op)/\Wk.cell? ⟨w.heap.size,1,none⟩=some (.int .i64 k)/\Wk.cell? ⟨w.heap.size,2,none⟩=some (.int .i64 c2)/\Wk.cell? ⟨w.heap.size,3,none⟩=some (.int .i64 c3)/\Wk.cell? ⟨w.heap.size,4,none⟩=some (.int .u64 c4)/\Wk.cell? ⟨w.heap.size,5,none⟩=some (.int .u64 c5))
  (first|exact HS2.o|assumption|exact held_6_0 hb1 (by assumption))
  (first
  |(go_at_call 126;refine (HA.o _).mono ?_;rintro e w1 ⟨mm,rfl,hU,hNB,hb1⟩;have hlk:=hU.miss (P:=Tryz.prog) (k:=5) (T:=196) (e:=194) Tryz.underlying5 Tryz.underlying196 (Tryz.zeroValue194 _) (x:=op) HOP.o (HMA.o _)))
 rename_i hH;obtain ⟨hb2,q0,q1,q2,q3,q4,q5⟩:=hH;have HB3:=hD hb2;have hz3:=hb2.size;have HS3:Hd (Stk w1 n0 m x (st++[(a,i)]++[(b,j)])):=HS.o.below (HB2.o.trans (HB3.o.mono HB2.o.size));have HN3:Hd (NodeAt w1 w.heap.size op k c2 c3 c4 c5):=HN2.o.below HB3.o;have H43:Hd (w1.heap[g4]?=some (.cells #[.int .u64 0, .int .u64 0] 82 (0,0))):=(HB3.o.block _ hz2).trans H42.o;clear hU hlk hb1 hb2 hNB;go_wp2_with fail;have HS3b:Hd ((fun Wk=>Below (w1.heap.size) (w1) Wk/\Cl Wk w.heap.size 0 (.int .u8 op)/\Cl Wk w.heap.size 1 (.int .i64 k)/\Cl Wk w.heap.size 2 (.int .i64 c2)/\Cl Wk w.heap.size 3 (.int .i64 c3)/\Cl Wk w.heap.size 4 (.int .u64 c4)/\Cl Wk w.heap.size 5 (.int .u64 c5)) w1.drew):=⟨below_drewN br 1,q0,q1,q2,q3,q4,q5⟩;go_region_held3 (fun Wk=>Below (w1.heap.size) (w1) Wk/\Wk.cell? ⟨w.heap.size,0,none⟩=some (.int .u8 op)/\Wk.cell? ⟨w.heap.size,1,none⟩=some (.int .i64 k)/\Wk.cell? ⟨w.heap.size,2,none⟩=some (.int .i64 c2)/\Wk.cell? ⟨w.heap.size,3,none⟩=some (.int .i64 c3)/\Wk.cell? ⟨w.heap.size,4,none⟩=some (.int .u64 c4)/\Wk.cell? ⟨w.heap.size,5,none⟩=some (.int .u64 c5))
  (first|exact HS3b.o|assumption|exact held_6_0 hb1 (by assumption))
  (first
  |(go_at_call 127;refine (HBO.o _).mono ?_;rintro e w3 ⟨mm2,rfl,hU,hNB,hb1⟩;have hlk:=hU.look (P:=Tryz.prog) (k:=5) (T:=200) (e:=198) Tryz.underlying5 Tryz.underlying200 (x:=op) (v:= .func (Fn.func fk) #[] (cp w1.heap.size)) (HFK.o _)))
 rename_i hH;obtain ⟨hb2,q0,q1,q2,q3,q4,q5⟩:=hH;have HB4:=hD hb2;have hz4:=hb2.size;have hl1:g4<w1.heap.size:=(gA_ H43.o).1;have HNB:Hd (NodeAt w3 w1.heap.size op k c2 c3 c4 c5):=hNB;have HS4:Hd (Stk w3 n0 m x (st++[(a,i)]++[(b,j)])):=HS3.o.below HB4.o;have HN4:Hd (NodeAt w3 w.heap.size op k c2 c3 c4 c5):=HN3.o.below HB4.o;have H44:Hd (w3.heap[g4]?=some (.cells #[.int .u64 0, .int .u64 0] 82 (0,0))):=(HB4.o.block _ hl1).trans H43.o;clear hU hlk hb1 hb2 hNB q0 q1 q2 q3 q4 q5;go_wp2_with fail;refine (HTB.o _ HS4.o).mono ?_;rintro e w4 ⟨rfl,hs4,hbn4,hap4⟩;have HAP4:=hD hap4;have HSA:=hD hs4;have HBN4:=hD hbn4;clear hs4 hbn4 hap4;go_wp2_with fail;obtain ⟨W5,hW5⟩:=nm (w4.alloc (.cells #[.int .u64 bY, .int .u64 bZ, .int .i64 j] 187));have hbA:Bl w4 W5:=by rw[hW5];exact br.alloc lr _
 have hX5:W5.heap[w4.heap.size]?=some (.cells #[.int .u64 bY, .int .u64 bZ, .int .i64 j] 187 (0,0)):=by rw[hW5];exact heap_new w4 _
 rw[<- hW5];have HBA:=hD hbA;have hszs:m<w.heap.size/\w.heap.size<g4/\g4<w1.heap.size/\w1.heap.size<w3.heap.size/\w3.heap.size<=w4.heap.size:=⟨HMW.o,hz0,hl1,(gA_ HNB.o).1,HAP4.o.2⟩;have HSZ:=hD hszs;have HNB5:Hd (NodeAt W5.drew w1.heap.size op k c2 c3 c4 c5):=((HNB.o.apart HAP4.o om).below hbA).below (below_drewN br 1);have HN5:Hd (NodeAt W5.drew w.heap.size op k c2 c3 c4 c5):=((HN4.o.apart HAP4.o om).below hbA).below (below_drewN br 1);have h45:W5.heap[g4]?=some (.cells #[.int .u64 0, .int .u64 0] 82 (0,0)):=(hbA.block _ om).trans ((HAP4.o.1 _ om om).trans H44.o);have HS5:Hd (Stk W5.drew n0 m x (st++[(a,i)])):=(HSA.o.below hbA).below (below_drewN br 1);have H45:Hd (W5.drew.heap[g4]?=some (.cells #[.int .u64 0, .int .u64 0] 82 (0,0))):=h45;have x0:W5.cell? ⟨w4.heap.size,0,none⟩=some (.int .u64 bY):=by simp[World.cell?,hX5]
 have x1:W5.cell? ⟨w4.heap.size,1,none⟩=some (.int .u64 bZ):=by simp[World.cell?,hX5]
 have x2:W5.cell? ⟨w4.heap.size,2,none⟩=some (.int .i64 j):=by simp[World.cell?,hX5]
 have x3:W5.cell? ⟨g4,0,none⟩=some (.int .u64 0):=by simp[World.cell?,h45]
 have x4:W5.cell? ⟨g4,1,none⟩=some (.int .u64 0):=by simp[World.cell?,h45]
 have x5:W5.frozen? ⟨g4,0,none⟩=false:=by simp[World.frozen?,h45]
 have x6:W5.frozen? ⟨g4,1,none⟩=false:=by simp[World.frozen?,h45]
 have HSB:Hd (SB w4.heap.size g4 (.int .u64 bY) (.int .u64 bZ) (.int .i64 j) W5.drew):=⟨x0,x1,x2,⟨_,x3⟩,⟨_,x4⟩,x5,x6⟩;clear hW5 h45 hX5 hbA hszs;go_region_held3 (fun Wk=>Wk.cell? ⟨w4.heap.size,0,none⟩=some (.int .u64 bY)/\Wk.cell? ⟨w4.heap.size,1,none⟩=some (.int .u64 bZ)/\Wk.cell? ⟨w4.heap.size,2,none⟩=some (.int .i64 j)/\(∃ x,Wk.cell? ⟨g4,0,none⟩=some x)/\(∃ x,Wk.cell? ⟨g4,1,none⟩=some x)/\Wk.frozen? ⟨g4,0,none⟩=false/\Wk.frozen? ⟨g4,1,none⟩=false)
  (first|exact HSB.o|exact SB.apart HSB.o HAP6.o (by have:=HSZ.o;omega) (by have:=HSZ.o;omega)|exact SB.below HSB6.o HB7.o|exact SB.set HSB7.o (by have:=HSZ.o;omega) _ _|assumption)
  (first
  |(go_at_call 119;refine (HTA.o _ HS5.o).mono ?_;rintro e w6 ⟨rfl,hs6,hbn6,hap6⟩;have HAP6:=hD hap6;have HSA6:=hD hs6;have HBN6':=hD hbn6;have HSB6:Hd (SB w4.heap.size g4 (.int .u64 bY) (.int .u64 bZ) (.int .i64 j) w6):=SB.apart HSB.o HAP6.o (by have:=HSZ.o;omega) (by have:=HSZ.o;omega);clear hap6 hs6 hbn6)
  |(refine (HCL.o _ _ (HNB5.o.apart HAP6.o (by have:=HSZ.o;omega))).mono ?_;rintro e w7 ⟨rfl,hb7⟩;have HB7:=hD hb7;have HSB7:Hd (SB w4.heap.size g4 (.int .u64 bY) (.int .u64 bZ) (.int .i64 j) w7):=SB.below HSB6.o hb7;obtain ⟨-,-,-,⟨xa,g0⟩,⟨xb,g1⟩,g2,g3⟩:=HSB7.o;clear hb7))
 rename_i hH;clear hH g0 g1 g2 g3 x0 x1 x2 x3 x4 x5 x6;have HG7:Hd (w7.heap[g4]?=some (.cells #[.int .u64 0, .int .u64 0] 82 (0,0))):=(HB7.o.block _ (by have:=HSZ.o;have:=HAP6.o.2;have:=HBA.o.size;show g4<w6.heap.size;have h9:W5.drew.heap.size=W5.heap.size:=rfl;omega)).trans ((HAP6.o.1 _ (gA_ H45.o).1 (by have:=HSZ.o;omega)).trans H45.o);have HN7:Hd (NodeAt w7 w.heap.size op k c2 c3 c4 c5):=(HN5.o.apart HAP6.o (by have:=HSZ.o;omega)).below HB7.o;have HS7:Hd (Stk w7 n0 m x st):=HSA6.o.below HB7.o;have HBN7:Hd (Below n0 w w7):=by
  have hn0:n0<=w.heap.size:=HS.o.base;have h9:W5.drew.heap.size=W5.heap.size:=rfl;have hs:=HSZ.o;have h1:Below n0 w w3:=((HB2.o.trans (HB3.o.mono HB2.o.size)).trans (HB4.o.mono om)).mono hn0;have h2:Below n0 w W5:=(h1.trans HBN4.o).trans (HBA.o.mono om);have h3:Below n0 w w6:=(h2.trans (below_drewN br 1)).trans HBN6'.o;exact h3.trans (HB7.o.mono (by have:=HAP6.o.2;have:=HBA.o.size;omega))
 obtain ⟨W8,hW8⟩:=nm ((w7.setCell ⟨g4,0,none⟩ (.int .u64 (y3:Int))).setCell ⟨g4,1,none⟩ (.int .u64 (z3:Int)));have hk8:∀k,k≠g4->W8.heap[k]?=w7.heap[k]?:=fun k hk=>by rw[hW8,setCell_heap hk,setCell_heap hk]
 have HS6:Hd (Stk W8 n0 m x st):=HS7.o.kept HG7.o (by have:=HSZ.o;omega) hk8;have HN6:Hd (NodeAt W8 w.heap.size op k c2 c3 c4 c5):=(hk8 _ (by have:=HSZ.o;omega)).trans HN7.o;have H46:Hd (W8.heap[g4]?=some (.cells #[.int .u64 ((R/B:Nat):Int), .int .u64 ((R%B:Nat):Int)] 82 (0,0))):=by
  show _=_;rw[hW8, <-HE3.o.1, <-HE3.o.2];exact set_lo _ (set_hi _ HG7.o)
 have HBN6:Hd (Below n0 w W8):=by
  have hn0:n0<=w.heap.size:=HS.o.base;have:=HSZ.o;show Below _ _ _;rw[hW8];exact (HBN7.o.setCell (by show n0<=g4;omega) _).setCell (by show n0<=g4;omega) _
 rw[<- hW8];clear hW8 hk8;go_wp2_with fail;refine push_region n0 m w.heap.size g4 x st R op k c2 c3 c4 c5 W8 HS6 HN6 H46 HRL HLEN _ _ _ _ _ _ _ _ _ _ _ _ _ _ _ _ _ _ _ _ _ _ _ _ _ _ _ _ _ _ _ _ _ _ _ _ _ _ _ _ _ _ _ _ _ _ _ _ _ _ _ _ _ _ _ _ _ _ _ _ _ _ _ _ _ _ _ _ ?_;exact gA3
theorem node_cat (n0 m:Nat) (x:Value×Value) (st:List (Nat×Int)) (a b:Nat) (i j:Int) (k c2 c3 c4 c5:Int) (w:World) (hS:Stk w n0 m x (st++[(a,i)]++[(b,j)])) (hlen:st.length<99990) (ha:a<B*B) (hb:b<B*B):
 Calls Tryz.prog 118 #[.pointer (some ⟨m,0,none⟩),nodeV 10 k c2 c3 c4 c5] w fun e w'=>e= .returned (.tuple #[])/\Stk w' n0 m x (st++[(((a*2 ^ sh j%(B*B)%2 ^ sh 128) ||| (b%2 ^ sh j))%2 ^ sh k,k)])/\Below n0 w w':=
 node_two n0 m x st a b i j 10 k c2 c3 c4 c5 w hS hlen (fk:=141) (fun _=>#[]) dq rfl (fun g=>by simp[bothM,fnV,fn0]) (fun g=>by simp[aloneM]) (fun _ _=>by kernel_rfl) (cat_lt a b j hb) (fun W g hg=>clos_cat a b i j W ha hb)
theorem node_add (n0 m:Nat) (x:Value×Value) (st:List (Nat×Int)) (a b:Nat) (i j:Int) (k c2 c3 c4 c5:Int) (w:World) (hS:Stk w n0 m x (st++[(a,i)]++[(b,j)])) (hlen:st.length<99990) (ha:a<B*B) (hb:b<B*B):
 Calls Tryz.prog 118 #[.pointer (some ⟨m,0,none⟩),nodeV 11 k c2 c3 c4 c5] w fun e w'=>e= .returned (.tuple #[])/\Stk w' n0 m x (st++[(((a+b)%(B*B)%2 ^ sh k)%2 ^ sh k,k)])/\Below n0 w w':=
 node_two n0 m x st a b i j 11 k c2 c3 c4 c5 w hS hlen (fk:=143) (fun g=>#[.pointer (some ⟨g,0,none⟩)]) dq rfl (fun g=>by simp[bothM,fnV,fn0]) (fun g=>by simp[aloneM]) (fun _ _=>by kernel_rfl) (Nat.lt_of_le_of_lt (Nat.mod_le _ _) (Nat.mod_lt _ (by unfold B;omega))) (fun W g hg=>clos_add g 11 k c2 c3 c4 c5 a b i j W ha hb hg)
theorem node_sub (n0 m:Nat) (x:Value×Value) (st:List (Nat×Int)) (a b:Nat) (i j:Int) (k c2 c3 c4 c5:Int) (w:World) (hS:Stk w n0 m x (st++[(a,i)]++[(b,j)])) (hlen:st.length<99990) (ha:a<B*B) (hb:b<B*B):
 Calls Tryz.prog 118 #[.pointer (some ⟨m,0,none⟩),nodeV 12 k c2 c3 c4 c5] w fun e w'=>e= .returned (.tuple #[])/\Stk w' n0 m x (st++[(((a+(B*B-b))%(B*B)%2 ^ sh k)%2 ^ sh k,k)])/\Below n0 w w':=
 node_two n0 m x st a b i j 12 k c2 c3 c4 c5 w hS hlen (fk:=145) (fun g=>#[.pointer (some ⟨g,0,none⟩)]) dq rfl (fun g=>by simp[bothM,fnV,fn0]) (fun g=>by simp[aloneM]) (fun _ _=>by kernel_rfl) (Nat.lt_of_le_of_lt (Nat.mod_le _ _) (Nat.mod_lt _ (by unfold B;omega))) (fun W g hg=>clos_sub g 12 k c2 c3 c4 c5 a b i j W ha hb hg)
theorem node_and (n0 m:Nat) (x:Value×Value) (st:List (Nat×Int)) (a b:Nat) (i j:Int) (k c2 c3 c4 c5:Int) (w:World) (hS:Stk w n0 m x (st++[(a,i)]++[(b,j)])) (hlen:st.length<99990) (ha:a<B*B) (hb:b<B*B):
 Calls Tryz.prog 118 #[.pointer (some ⟨m,0,none⟩),nodeV 15 k c2 c3 c4 c5] w fun e w'=>e= .returned (.tuple #[])/\Stk w' n0 m x (st++[((a &&& b)%2 ^ sh k,k)])/\Below n0 w w':=
 node_two n0 m x st a b i j 15 k c2 c3 c4 c5 w hS hlen (fk:=146) (fun _=>#[]) dq rfl (fun g=>by simp[bothM,fnV,fn0]) (fun g=>by simp[aloneM]) (fun _ _=>by kernel_rfl) (Nat.lt_of_le_of_lt Nat.and_le_left ha) (fun W g hg=>clos_and a b i j W ha hb)
theorem node_xor (n0 m:Nat) (x:Value×Value) (st:List (Nat×Int)) (a b:Nat) (i j:Int) (k c2 c3 c4 c5:Int) (w:World) (hS:Stk w n0 m x (st++[(a,i)]++[(b,j)])) (hlen:st.length<99990) (ha:a<B*B) (hb:b<B*B):
 Calls Tryz.prog 118 #[.pointer (some ⟨m,0,none⟩),nodeV 16 k c2 c3 c4 c5] w fun e w'=>e= .returned (.tuple #[])/\Stk w' n0 m x (st++[((a ^^^ b)%2 ^ sh k,k)])/\Below n0 w w':=
 node_two n0 m x st a b i j 16 k c2 c3 c4 c5 w hS hlen (fk:=147) (fun _=>#[]) dq rfl (fun g=>by simp[bothM,fnV,fn0]) (fun g=>by simp[aloneM]) (fun _ _=>by kernel_rfl) (xor_lt ha hb) (fun W g hg=>clos_xor a b i j W ha hb)
theorem node_or (n0 m:Nat) (x:Value×Value) (st:List (Nat×Int)) (a b:Nat) (i j:Int) (k c2 c3 c4 c5:Int) (w:World) (hS:Stk w n0 m x (st++[(a,i)]++[(b,j)])) (hlen:st.length<99990) (ha:a<B*B) (hb:b<B*B):
 Calls Tryz.prog 118 #[.pointer (some ⟨m,0,none⟩),nodeV 17 k c2 c3 c4 c5] w fun e w'=>e= .returned (.tuple #[])/\Stk w' n0 m x (st++[((a ||| b)%2 ^ sh k,k)])/\Below n0 w w':=
 node_two n0 m x st a b i j 17 k c2 c3 c4 c5 w hS hlen (fk:=149) (fun _=>#[]) dq rfl (fun g=>by simp[bothM,fnV,fn0]) (fun g=>by simp[aloneM]) (fun _ _=>by kernel_rfl) (or_lt ha hb) (fun W g hg=>clos_or a b i j W ha hb)
theorem node_eq (n0 m:Nat) (x:Value×Value) (st:List (Nat×Int)) (a b:Nat) (i j:Int) (k c2 c3 c4 c5:Int) (w:World) (hS:Stk w n0 m x (st++[(a,i)]++[(b,j)])) (hlen:st.length<99990) (ha:a<B*B) (hb:b<B*B):
 Calls Tryz.prog 118 #[.pointer (some ⟨m,0,none⟩),nodeV 18 k c2 c3 c4 c5] w fun e w'=>e= .returned (.tuple #[])/\Stk w' n0 m x (st++[((oneN (decide (a=b)))%2 ^ sh k,k)])/\Below n0 w w':=
 node_two n0 m x st a b i j 18 k c2 c3 c4 c5 w hS hlen (fk:=150) (fun _=>#[]) dq rfl (fun g=>by simp[bothM,fnV,fn0]) (fun g=>by simp[aloneM]) (fun _ _=>by kernel_rfl) (one_lt _) (fun W g hg=>clos_eq a b i j W ha hb)
theorem node_lt (n0 m:Nat) (x:Value×Value) (st:List (Nat×Int)) (a b:Nat) (i j:Int) (k c2 c3 c4 c5:Int) (w:World) (hS:Stk w n0 m x (st++[(a,i)]++[(b,j)])) (hlen:st.length<99990) (ha:a<B*B) (hb:b<B*B):
 Calls Tryz.prog 118 #[.pointer (some ⟨m,0,none⟩),nodeV 19 k c2 c3 c4 c5] w fun e w'=>e= .returned (.tuple #[])/\Stk w' n0 m x (st++[((oneN (decide (a<b)))%2 ^ sh k,k)])/\Below n0 w w':=
 node_two n0 m x st a b i j 19 k c2 c3 c4 c5 w hS hlen (fk:=151) (fun _=>#[]) dq rfl (fun g=>by simp[bothM,fnV,fn0]) (fun g=>by simp[aloneM]) (fun _ _=>by kernel_rfl) (one_lt _) (fun W g hg=>clos_lt a b i j W ha hb)
theorem node_le (n0 m:Nat) (x:Value×Value) (st:List (Nat×Int)) (a b:Nat) (i j:Int) (k c2 c3 c4 c5:Int) (w:World) (hS:Stk w n0 m x (st++[(a,i)]++[(b,j)])) (hlen:st.length<99990) (ha:a<B*B) (hb:b<B*B):
 Calls Tryz.prog 118 #[.pointer (some ⟨m,0,none⟩),nodeV 20 k c2 c3 c4 c5] w fun e w'=>e= .returned (.tuple #[])/\Stk w' n0 m x (st++[((oneN (decide (a<=b)))%2 ^ sh k,k)])/\Below n0 w w':=
 node_two n0 m x st a b i j 20 k c2 c3 c4 c5 w hS hlen (fk:=153) (fun _=>#[]) dq rfl (fun g=>by simp[bothM,fnV,fn0]) (fun g=>by simp[aloneM]) (fun _ _=>by kernel_rfl) (one_lt _) (fun W g hg=>clos_le a b i j W ha hb)
open Go.RowKit Go.Maps
theorem Stk.fr {x:Value×Value} (h:Stk w n0 m x st) (hf:Fr S w w') (hs:∀k,S k->k<n0):Stk w' n0 m x st:=by
 obtain ⟨v,h1,h2,h3,h4,h5⟩:=h;have hm:∀k,n0<=k->k<w.heap.size->w'.heap[k]?=w.heap[k]?:=fun k h1 h2=>hf.block k h2 fun e=>by have:=hs k e;omega
 refine ⟨v,(hm m h4 (gA_ h1).1).trans h1,own_far h2 fun k e=>?_,h3,h4,h5⟩;have:=own_size h2 e;exact hm k this.1 this.2
theorem Fr.mono0 (h:Below n0 w w'):Fr (fun k=>S k\/n0<=k) w w':=⟨h.os,h.tape,h.output,h.size,fun k _hk hn=>h.block k (Nat.lt_of_not_le fun e=>hn (.inr e))⟩
theorem node_leaf {base X:Nat} {px:Pkt} {r v f mm:Value} {fs:List Value} (n0 m:Nat) (x:Value×Value) (st:List (Nat×Int)) (op k c2 c3 c4 c5:Int) (n:Nat) (A:Bool) (w:World) (hop:1<=op) (hop6:op<=6) (hP:PktB base w X px r v f mm fs) (hS:Stk w n0 m x st) (hT:∀k,PS X r v f mm fs k->k<n0) (hn:n<B*B) (hlen:st.length<100000)
 (hL:∀W,Bl w W->PktB base W X px r v f mm fs->Stk W n0 m x st->Calls Tryz.prog 125 #[.pointer (some ⟨m,0,none⟩),nodeV op k c2 c3 c4 c5] W (LeafR base X px r v f mm fs (·=X) W n A)):
 Calls Tryz.prog 118 #[.pointer (some ⟨m,0,none⟩),nodeV op k c2 c3 c4 c5] w fun e w'=>e= .returned (.tuple #[])/\Stk w' n0 m x (st++[(n%2 ^ sh k,k)])/\PktB base w' X (px.acc A) r v f mm fs/\Fr (fun k=>k=X\/n0<=k) w w':=by
 have HS:=hD hS;have HP:=hD hP;have HT:=hD hT;have HN:=hD hn;have HLEN:=hD hlen;have hXn:X<n0:=hT X (.inl rfl);have hn0w:n0<=w.heap.size:=hS.base;have HL:=hD hL;have HA:Hd (∀ W,Calls Tryz.prog 126 #[nodeV op k c2 c3 c4 c5] W fun e w'=>∃mm,e= .returned (.map (some mm))/\UMap w' mm (aloneM W.heap.size)/\NodeAt w' W.heap.size op k c2 c3 c4 c5/\Bl W w'):=fun W=>alone_any _ _ _ _ _ _ W
 have HBO:Hd (∀ W,Calls Tryz.prog 127 #[nodeV op k c2 c3 c4 c5] W fun e w'=>∃mm,e= .returned (.map (some mm))/\UMap w' mm (bothM W.heap.size)/\NodeAt w' W.heap.size op k c2 c3 c4 c5/\Bl W w'):=fun W=>both_any _ _ _ _ _ _ W
 have HNA:Hd (NodeAt (w.alloc (.cells #[.int .u8 op, .int .i64 k, .int .i64 c2, .int .i64 c3, .int .u64 c4, .int .u64 c5] 84)) w.heap.size op k c2 c3 c4 c5):=heap_new w _;have HMA:Hd (∀ g,∀q∈aloneM g,q.1≠op):=fun g q hq=>by simp only[aloneM,List.mem_cons,List.not_mem_nil,or_false] at hq;rcases hq with rfl|rfl|rfl|rfl|rfl<;>(simp only[ne_eq];omega)
 have HMB:Hd (∀ g,∀q∈bothM g,q.1≠op):=fun g q hq=>by simp only[bothM,List.mem_cons,List.not_mem_nil,or_false] at hq;rcases hq with rfl|rfl|rfl|rfl|rfl|rfl|rfl|rfl|rfl<;>(simp only[ne_eq];omega)
 have HOP:Hd ((Lit.int .u8 op).wf=true):=by
  have h:op=1\/op=2\/op=3\/op=4\/op=5\/op=6:=om;rcases h with rfl|rfl|rfl|rfl|rfl|rfl<;>rfl
 obtain ⟨y,hy⟩:∃y:Int,y=((n/B:Nat):Int):=⟨_,rfl⟩;obtain ⟨z,hz⟩:∃z:Int,z=((n%B:Nat):Int):=⟨_,rfl⟩;have HY:=hD hy;have HZ:=hD hz;have HNV:Hd (numV n= .agg #[.int .u64 y, .int .u64 z]):=by show _=_;rw[hy,hz];rfl
 clear hS hn hlen hy hz hL hP hT hop hop6;unfold nodeV at HL HA HBO⊢;have hml:w.heap.size<w.heap.size+1:=om;go_enter Tryz.func118,Tryz.ntmps118;go_wp2_with (go_at_call 125;refine (HL.o _ (br.alloc lr _) (HP.o.below (br.alloc lr _)) (HS.o.below (br.alloc lr _))).mono ?_;rintro e w1 ⟨rfl,hp1,hf1⟩;rw[HNV.o];have HP1:=hD hp1;have HF1:=hD hf1;have hz1:=hf1.size;simp at hz1;clear hf1 hp1);obtain ⟨W2,hW2⟩:=nm (w1.alloc (.cells #[.int .u64 y, .int .u64 z] 82));have HF2:Hd (Fr (·=X) w W2):=by
  show Fr _ _ _;rw[hW2];exact ((Fr.of_below (br.alloc lr _)).trans HF1.o).trans (Fr.of_below (br.alloc lr _))
 have HP2:Hd (PktB base W2 X (px.acc A) r v f mm fs):=by
  show PktB _ _ _ _ _ _ _ _ _;rw[hW2];exact HP1.o.below (br.alloc lr _)
 have HN2:Hd (NodeAt W2 w.heap.size op k c2 c3 c4 c5):=by
  show NodeAt _ _ _ _ _ _ _ _;rw[hW2];exact NodeAt.below ((HF1.o.block _ sm (by show ¬w.heap.size=X;omega)).trans HNA.o) (br.alloc lr _)
 have H42:Hd (W2.heap[w1.heap.size]?=some (.cells #[.int .u64 y, .int .u64 z] 82 (0,0))):=by
  show _=_;rw[hW2];exact heap_new w1 _
 have HSW:Hd (Stk W2 n0 m x st):=HS.o.fr HF2.o fun k e=>by rw[show k=X from e];exact hXn
 rw[<- hW2];have hz2:w1.heap.size<W2.heap.size:=by rw[hW2];simp
 clear hW2 HF1 HP1 HNA;generalize w1.heap.size=g4 at*;clear w1;have hcs:=HN2.o.cells;obtain ⟨q0,q1,q2,q3,q4,q5⟩:=hcs;have HS2:Hd ((fun Wk=>Below (W2.heap.size) (W2) Wk/\Cl Wk w.heap.size 0 (.int .u8 op)/\Cl Wk w.heap.size 1 (.int .i64 k)/\Cl Wk w.heap.size 2 (.int .i64 c2)/\Cl Wk w.heap.size 3 (.int .i64 c3)/\Cl Wk w.heap.size 4 (.int .u64 c4)/\Cl Wk w.heap.size 5 (.int .u64 c5)) W2.drew):=⟨below_drewN br 1,q0,q1,q2,q3,q4,q5⟩;go_region_held3 (fun Wk=>Below (W2.heap.size) (W2) Wk/\Wk.cell? ⟨w.heap.size,0,none⟩=some (.int .u8 op)/\Wk.cell? ⟨w.heap.size,1,none⟩=some (.int .i64 k)/\Wk.cell? ⟨w.heap.size,2,none⟩=some (.int .i64 c2)/\Wk.cell? ⟨w.heap.size,3,none⟩=some (.int .i64 c3)/\Wk.cell? ⟨w.heap.size,4,none⟩=some (.int .u64 c4)/\Wk.cell? ⟨w.heap.size,5,none⟩=some (.int .u64 c5))
  (first|exact HS2.o|assumption|exact held_6_0 hb1 (by assumption))
  (first
  |(go_at_call 126;refine (HA.o _).mono ?_;rintro e w1 ⟨mm,rfl,hU,-,hb1⟩;have hlk:=hU.miss (P:=Tryz.prog) (k:=5) (T:=196) (e:=194) Tryz.underlying5 Tryz.underlying196 (Tryz.zeroValue194 _) (x:=op) HOP.o (HMA.o _)))
 rename_i hH;obtain ⟨hb2,q0,q1,q2,q3,q4,q5⟩:=hH;have HB3:=hD hb2;have hz3:=hb2.size;clear hU hlk hb1 hb2;go_wp2_with fail;have HS3:Hd ((fun Wk=>Below (W2.heap.size) (W2) Wk/\Cl Wk w.heap.size 0 (.int .u8 op)/\Cl Wk w.heap.size 1 (.int .i64 k)/\Cl Wk w.heap.size 2 (.int .i64 c2)/\Cl Wk w.heap.size 3 (.int .i64 c3)/\Cl Wk w.heap.size 4 (.int .u64 c4)/\Cl Wk w.heap.size 5 (.int .u64 c5)) w1.drew):=⟨below_drewN HB3.o 1,q0,q1,q2,q3,q4,q5⟩;go_region_held3 (fun Wk=>Below (W2.heap.size) (W2) Wk/\Wk.cell? ⟨w.heap.size,0,none⟩=some (.int .u8 op)/\Wk.cell? ⟨w.heap.size,1,none⟩=some (.int .i64 k)/\Wk.cell? ⟨w.heap.size,2,none⟩=some (.int .i64 c2)/\Wk.cell? ⟨w.heap.size,3,none⟩=some (.int .i64 c3)/\Wk.cell? ⟨w.heap.size,4,none⟩=some (.int .u64 c4)/\Wk.cell? ⟨w.heap.size,5,none⟩=some (.int .u64 c5))
  (first|exact HS3.o|assumption|exact held_6_0 hb1 (by assumption))
  (first
  |(go_at_call 127;refine (HBO.o _).mono ?_;rintro e w3 ⟨mm2,rfl,hU,-,hb1⟩;have hlk:=hU.miss (P:=Tryz.prog) (k:=5) (T:=200) (e:=198) Tryz.underlying5 Tryz.underlying200 (Tryz.zeroValue198 _) (x:=op) HOP.o (HMB.o _)))
 rename_i hH;obtain ⟨hb2,q0,q1,q2,q3,q4,q5⟩:=hH;have HB4:=hD hb2;have hz4:=hb2.size;clear hU hlk hb1 hb2;go_wp2_with fail;have HS4:Hd (Stk w3 n0 m x st):=HSW.o.below HB4.o;have HN4:Hd (NodeAt w3 w.heap.size op k c2 c3 c4 c5):=HN2.o.below HB4.o;have H44:Hd (w3.heap[g4]?=some (.cells #[.int .u64 ((n/B:Nat):Int), .int .u64 ((n%B:Nat):Int)] 82 (0,0))):=by
  show _=_;rw[<- HY.o, <-HZ.o];exact (HB4.o.block _ hz2).trans H42.o
 refine push_region n0 m w.heap.size g4 x st n op k c2 c3 c4 c5 w3 HS4 HN4 H44 HN HLEN _ _ _ _ _ _ _ _ _ _ _ _ _ _ _ _ _ _ _ _ _ _ _ _ _ _ _ _ _ _ _ _ _ _ _ _ _ _ _ _ _ _ _ _ _ _ _ _ _ _ _ _ _ _ _ _ _ _ _ _ _ _ _ _ _ _ _ _ ?_;intro u54 u55 u56 u57 u58 u59 u60 u61 u62 u63 u64 u65 u66 u67 u68 u69 w9 h9 hb9;dsimp only;go_wp2_with fail;go_end0;have hbA:Below n0 W2 w9:=(HB4.o.mono (Nat.le_trans hn0w HF2.o.size)).trans hb9;refine ⟨rfl,h9,HP2.o.kept fun k hk=>hbA.block k (HT.o k hk),?_⟩;exact (HF2.o.more fun k e=> .inl e).trans (Fr.mono0 hbA)
end Go.Proofs.YtikilcbpogfgkaaGreat
