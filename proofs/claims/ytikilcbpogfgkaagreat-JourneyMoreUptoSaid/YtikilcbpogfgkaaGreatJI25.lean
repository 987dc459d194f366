/- Lemmas. -/
import Derived.Test.YtikilcbpogfgkaaGreatJI24
import Derived.Test.YtikilcbpogfgkaaGreatJI23
set_option maxHeartbeats 6400000
set_option maxRecDepth 100000
namespace Go.Proofs.YtikilcbpogfgkaaGreat
open Go.RowKit Go.Maps
variable {w:World} {n:Nod} {p:Prg} {act wt:Int} {r f mm ga:Value} {x:Pkt} {base X m:Nat} {fs:List Value}
def szV (n:Nat) (k:Int):Value:= .agg #[.int .u64 ((n/B:Nat):Int), .int .u64 ((n%B:Nat):Int), .int .i64 k]
def oneN (b:Bool):Nat:=if b then 1 else 0
def NodeAt (w:World) (g:Nat) (op c1 c2 c3 c4 c5:Int):Prop:=w.heap[g]?=some (.cells #[.int .u8 op, .int .i64 c1, .int .i64 c2, .int .i64 c3, .int .u64 c4, .int .u64 c5] 84 (0,0))
theorem NodeAt.below {w':World} {g:Nat} {op c1 c2 c3 c4 c5:Int} (h:NodeAt w g op c1 c2 c3 c4 c5) (hb:Bl w w'):NodeAt w' g op c1 c2 c3 c4 c5:=(hb.block g (gA_ h).1).trans h
theorem one_any (b:Bool) (w:World):Calls Tryz.prog 132 #[.bool b] w (RetNum w (oneN b)):=by
 have H1:Hd (∀ W,CR 65 #[.int .u64 1] W (.agg #[.int .u64 0, .int .u64 1])):=fun W=>numOf_any 1 (by unfold B;omega) W
 cases b
 ·go_enter Tryz.func132,Tryz.ntmps132;go_wp2_with fail;exact bodyPost_ret (v:= .agg #[.int .u64 0, .int .u64 0]) (by simp[results,Tryz.results132,go_sem]) rfl ⟨rfl,bL⟩
 ·go_enter Tryz.func132,Tryz.ntmps132;go_wp2_with (go_at_call 65;refine (H1.o _).mono ?_;rintro e w1 ⟨rfl,hb⟩;obtain ⟨hc,hf⟩:=bcell hb;have hz:=hb.size;simp at hz);exact bodyPost_ret (v:= .agg #[.int .u64 0, .int .u64 1]) (by simp[results,Tryz.results132,go_sem,hc]) rfl ⟨rfl,bL⟩
theorem clos_not (g:Nat) (op c1 c2 c3 c4 c5:Int) (a:Nat) (k:Int) (w:World) (ha:a<B*B) (hg:NodeAt w g op c1 c2 c3 c4 c5):
 Calls Tryz.prog 133 #[szV a k, .pointer (some ⟨g,0,none⟩)] w (RetNum w ((a%2 ^ sh c1) ^^^ (2 ^ sh c1-1))):=by
 have HC:Hd (∀ W,Calls Tryz.prog 134 #[numV a, .int .i64 c1] W (RetNum W ((a%2 ^ sh c1) ^^^ (2 ^ sh c1-1)))):=fun W=>numNot_any a c1 W ha
 unfold NodeAt at hg;have hgl:g<w.heap.size:=(gA_ hg).1;have q1:w.cell? ⟨g,1,none⟩=some (.int .i64 c1):=by simp[World.cell?,hg]
 have q2:w.cell? ⟨g,2,none⟩=some (.int .i64 c2):=by simp[World.cell?,hg]
 have q3:w.cell? ⟨g,3,none⟩=some (.int .i64 c3):=by simp[World.cell?,hg]
 generalize (a%2 ^ sh c1) ^^^ (2 ^ sh c1-1)=r at*;obtain ⟨y3,z3,he3,-,-⟩:=numV_parts r;obtain ⟨y,z,he,ey,ez⟩:=numV_parts a;have HR:=hD he3;unfold szV;rw[<- ey, <-ez];unfold RetNum at HC;rw[he3,he] at HC;have HZ:Hd (numV 0= .agg #[.int .u64 0, .int .u64 0]):=rfl;try rw[HZ.o] at HC
 clear he he3 ey ez hg ha;go_enter Tryz.func133,Tryz.ntmps133;go_wp2_with (go_at_call 134;refine (HC.o _).mono ?_;rintro e w1 ⟨rfl,hb⟩;obtain ⟨hc,hf⟩:=bcell hb;have hz:=hb.size;simp at hz;have L1:w.heap.size+1<w1.heap.size:=by omega);exact bodyPost_ret (v:= .agg #[.int .u64 (y3:Int), .int .u64 (z3:Int)]) (by simp[results,Tryz.results133,go_sem,hc]) rfl ⟨by rw[HR.o],bL⟩
theorem clos_neg (g:Nat) (op c1 c2 c3 c4 c5:Int) (a:Nat) (k:Int) (w:World) (ha:a<B*B) (hg:NodeAt w g op c1 c2 c3 c4 c5):
 Calls Tryz.prog 135 #[szV a k, .pointer (some ⟨g,0,none⟩)] w (RetNum w ((0+(B*B-a))%(B*B)%2 ^ sh c1)):=by
 have HC:Hd (∀ W,Calls Tryz.prog 136 #[numV 0,numV a, .int .i64 c1] W (RetNum W ((0+(B*B-a))%(B*B)%2 ^ sh c1))):=fun W=>numSub_any 0 a c1 W (by unfold B;omega) ha
 unfold NodeAt at hg;have hgl:g<w.heap.size:=(gA_ hg).1;have q1:w.cell? ⟨g,1,none⟩=some (.int .i64 c1):=by simp[World.cell?,hg]
 have q2:w.cell? ⟨g,2,none⟩=some (.int .i64 c2):=by simp[World.cell?,hg]
 have q3:w.cell? ⟨g,3,none⟩=some (.int .i64 c3):=by simp[World.cell?,hg]
 generalize (0+(B*B-a))%(B*B)%2 ^ sh c1=r at*;obtain ⟨y3,z3,he3,-,-⟩:=numV_parts r;obtain ⟨y,z,he,ey,ez⟩:=numV_parts a;have HR:=hD he3;unfold szV;rw[<- ey, <-ez];unfold RetNum at HC;rw[he3,he] at HC;have HZ:Hd (numV 0= .agg #[.int .u64 0, .int .u64 0]):=rfl;try rw[HZ.o] at HC
 clear he he3 ey ez hg ha;go_enter Tryz.func135,Tryz.ntmps135;go_wp2_with (go_at_call 136;refine (HC.o _).mono ?_;rintro e w1 ⟨rfl,hb⟩;obtain ⟨hc,hf⟩:=bcell hb;have hz:=hb.size;simp at hz;have L1:w.heap.size+1<w1.heap.size:=by omega);exact bodyPost_ret (v:= .agg #[.int .u64 (y3:Int), .int .u64 (z3:Int)]) (by simp[results,Tryz.results135,go_sem,hc]) rfl ⟨by rw[HR.o],bL⟩
theorem clos_slice (g:Nat) (op c1 c2 c3 c4 c5:Int) (a:Nat) (k:Int) (w:World) (ha:a<B*B) (hg:NodeAt w g op c1 c2 c3 c4 c5) (h0:0<=c3) (h1:c3<=c2) (h2:c2<128):
 Calls Tryz.prog 137 #[szV a k, .pointer (some ⟨g,0,none⟩)] w (RetNum w (a/2 ^ sh c3%2 ^ sh (c2-c3+1))):=by
 have HC:Hd (∀ W,Calls Tryz.prog 138 #[numV a, .int .i64 c2, .int .i64 c3] W (RetNum W (a/2 ^ sh c3%2 ^ sh (c2-c3+1)))):=fun W=>numSlice_any a c2 c3 W ha h0 h1 h2
 unfold NodeAt at hg;have hgl:g<w.heap.size:=(gA_ hg).1;have q1:w.cell? ⟨g,1,none⟩=some (.int .i64 c1):=by simp[World.cell?,hg]
 have q2:w.cell? ⟨g,2,none⟩=some (.int .i64 c2):=by simp[World.cell?,hg]
 have q3:w.cell? ⟨g,3,none⟩=some (.int .i64 c3):=by simp[World.cell?,hg]
 generalize a/2 ^ sh c3%2 ^ sh (c2-c3+1)=r at*;obtain ⟨y3,z3,he3,-,-⟩:=numV_parts r;obtain ⟨y,z,he,ey,ez⟩:=numV_parts a;have HR:=hD he3;unfold szV;rw[<- ey, <-ez];unfold RetNum at HC;rw[he3,he] at HC;have HZ:Hd (numV 0= .agg #[.int .u64 0, .int .u64 0]):=rfl;try rw[HZ.o] at HC
 clear he he3 ey ez hg ha;go_enter Tryz.func137,Tryz.ntmps137;go_wp2_with (go_at_call 138;refine (HC.o _).mono ?_;rintro e w1 ⟨rfl,hb⟩;obtain ⟨hc,hf⟩:=bcell hb;have hz:=hb.size;simp at hz;have L1:w.heap.size+1<w1.heap.size:=by omega);exact bodyPost_ret (v:= .agg #[.int .u64 (y3:Int), .int .u64 (z3:Int)]) (by simp[results,Tryz.results137,go_sem,hc]) rfl ⟨by rw[HR.o],bL⟩
theorem clos_shl (g:Nat) (op c1 c2 c3 c4 c5:Int) (a:Nat) (k:Int) (w:World) (ha:a<B*B) (hg:NodeAt w g op c1 c2 c3 c4 c5):
 Calls Tryz.prog 139 #[szV a k, .pointer (some ⟨g,0,none⟩)] w (RetNum w (a*2 ^ sh c2%(B*B)%2 ^ sh c1)):=by
 have HC:Hd (∀ W,Calls Tryz.prog 64 #[numV a, .int .i64 c2, .int .i64 c1] W (RetNum W (a*2 ^ sh c2%(B*B)%2 ^ sh c1))):=fun W=>numShl_any a c2 c1 W ha
 unfold NodeAt at hg;have hgl:g<w.heap.size:=(gA_ hg).1;have q1:w.cell? ⟨g,1,none⟩=some (.int .i64 c1):=by simp[World.cell?,hg]
 have q2:w.cell? ⟨g,2,none⟩=some (.int .i64 c2):=by simp[World.cell?,hg]
 have q3:w.cell? ⟨g,3,none⟩=some (.int .i64 c3):=by simp[World.cell?,hg]
 generalize a*2 ^ sh c2%(B*B)%2 ^ sh c1=r at*;obtain ⟨y3,z3,he3,-,-⟩:=numV_parts r;obtain ⟨y,z,he,ey,ez⟩:=numV_parts a;have HR:=hD he3;unfold szV;rw[<- ey, <-ez];unfold RetNum at HC;rw[he3,he] at HC;have HZ:Hd (numV 0= .agg #[.int .u64 0, .int .u64 0]):=rfl;try rw[HZ.o] at HC
 clear he he3 ey ez hg ha;go_enter Tryz.func139,Tryz.ntmps139;go_wp2_with (go_at_call 64;refine (HC.o _).mono ?_;rintro e w1 ⟨rfl,hb⟩;obtain ⟨hc,hf⟩:=bcell hb;have hz:=hb.size;simp at hz;have L1:w.heap.size+1<w1.heap.size:=by omega);exact bodyPost_ret (v:= .agg #[.int .u64 (y3:Int), .int .u64 (z3:Int)]) (by simp[results,Tryz.results139,go_sem,hc]) rfl ⟨by rw[HR.o],bL⟩
theorem clos_shr (g:Nat) (op c1 c2 c3 c4 c5:Int) (a:Nat) (k:Int) (w:World) (ha:a<B*B) (hg:NodeAt w g op c1 c2 c3 c4 c5):
 Calls Tryz.prog 140 #[szV a k, .pointer (some ⟨g,0,none⟩)] w (RetNum w (a/2 ^ sh c2)):=by
 have HC:Hd (∀ W,Calls Tryz.prog 95 #[numV a, .int .i64 c2] W (RetNum W (a/2 ^ sh c2))):=fun W=>numShr_any a c2 W ha
 unfold NodeAt at hg;have hgl:g<w.heap.size:=(gA_ hg).1;have q1:w.cell? ⟨g,1,none⟩=some (.int .i64 c1):=by simp[World.cell?,hg]
 have q2:w.cell? ⟨g,2,none⟩=some (.int .i64 c2):=by simp[World.cell?,hg]
 have q3:w.cell? ⟨g,3,none⟩=some (.int .i64 c3):=by simp[World.cell?,hg]
 generalize a/2 ^ sh c2=r at*;obtain ⟨y3,z3,he3,-,-⟩:=numV_parts r;obtain ⟨y,z,he,ey,ez⟩:=numV_parts a;have HR:=hD he3;unfold szV;rw[<- ey, <-ez];unfold RetNum at HC;rw[he3,he] at HC;have HZ:Hd (numV 0= .agg #[.int .u64 0, .int .u64 0]):=rfl;try rw[HZ.o] at HC
 clear he he3 ey ez hg ha;go_enter Tryz.func140,Tryz.ntmps140;go_wp2_with (go_at_call 95;refine (HC.o _).mono ?_;rintro e w1 ⟨rfl,hb⟩;obtain ⟨hc,hf⟩:=bcell hb;have hz:=hb.size;simp at hz;have L1:w.heap.size+1<w1.heap.size:=by omega);exact bodyPost_ret (v:= .agg #[.int .u64 (y3:Int), .int .u64 (z3:Int)]) (by simp[results,Tryz.results140,go_sem,hc]) rfl ⟨by rw[HR.o],bL⟩
theorem clos_cat (a b:Nat) (k j:Int) (w:World) (ha:a<B*B) (hb:b<B*B):
 Calls Tryz.prog 141 #[szV a k,szV b j] w (RetNum w ((a*2 ^ sh j%(B*B)%2 ^ sh 128) ||| (b%2 ^ sh j))):=by
 have HC:Hd (∀ W,Calls Tryz.prog 142 #[numV a,numV b, .int .i64 j] W (RetNum W ((a*2 ^ sh j%(B*B)%2 ^ sh 128) ||| (b%2 ^ sh j)))):=fun W=>numCat_any a b j W ha hb
 generalize (a*2 ^ sh j%(B*B)%2 ^ sh 128) ||| (b%2 ^ sh j)=r at*
 obtain ⟨y3,z3,he3,-,-⟩:=numV_parts r;obtain ⟨y,z,he,ey,ez⟩:=numV_parts a;obtain ⟨y1,z1,he1,ey1,ez1⟩:=numV_parts b;have HR:=hD he3;unfold szV;rw[<- ey, <-ez, <-ey1, <-ez1];unfold RetNum at HC;rw[he3,he,he1] at HC;clear he he1 he3 ey ez ey1 ez1 ha hb;go_enter Tryz.func141,Tryz.ntmps141;go_wp2_with (go_at_call 142;refine (HC.o _).mono ?_;rintro e w1 ⟨rfl,hb⟩;obtain ⟨hc,hf⟩:=bcell hb;have hz:=hb.size;simp at hz;have L1:w.heap.size+1<w1.heap.size:=by omega);exact bodyPost_ret (v:= .agg #[.int .u64 (y3:Int), .int .u64 (z3:Int)]) (by simp[results,Tryz.results141,go_sem,hc]) rfl ⟨by rw[HR.o],bL⟩
theorem clos_add (g:Nat) (op c1 c2 c3 c4 c5:Int) (a b:Nat) (k j:Int) (w:World) (ha:a<B*B) (hb:b<B*B) (hg:NodeAt w g op c1 c2 c3 c4 c5):
 Calls Tryz.prog 143 #[szV a k,szV b j, .pointer (some ⟨g,0,none⟩)] w (RetNum w ((a+b)%(B*B)%2 ^ sh c1)):=by
 have HC:Hd (∀ W,Calls Tryz.prog 144 #[numV a,numV b, .int .i64 c1] W (RetNum W ((a+b)%(B*B)%2 ^ sh c1))):=fun W=>numAdd_any a b c1 W ha hb
 unfold NodeAt at hg;have hgl:g<w.heap.size:=(gA_ hg).1;have hgl1:g<w.heap.size+1:=om;have hgl2:g<w.heap.size+1+1:=om;have q1:w.cell? ⟨g,1,none⟩=some (.int .i64 c1):=by simp[World.cell?,hg]
 clear hg;generalize (a+b)%(B*B)%2 ^ sh c1=r at*;obtain ⟨y3,z3,he3,-,-⟩:=numV_parts r;obtain ⟨y,z,he,ey,ez⟩:=numV_parts a;obtain ⟨y1,z1,he1,ey1,ez1⟩:=numV_parts b;have HR:=hD he3;unfold szV;rw[<- ey, <-ez, <-ey1, <-ez1];unfold RetNum at HC;rw[he3,he,he1] at HC;clear he he1 he3 ey ez ey1 ez1 ha hb;go_enter Tryz.func143,Tryz.ntmps143;go_wp2_with (go_at_call 144;refine (HC.o _).mono ?_;rintro e w1 ⟨rfl,hb⟩;obtain ⟨hc,hf⟩:=bcell hb;have hz:=hb.size;simp at hz;have L1:w.heap.size+1<w1.heap.size:=by omega);exact bodyPost_ret (v:= .agg #[.int .u64 (y3:Int), .int .u64 (z3:Int)]) (by simp[results,Tryz.results143,go_sem,hc]) rfl ⟨by rw[HR.o],bL⟩
theorem clos_sub (g:Nat) (op c1 c2 c3 c4 c5:Int) (a b:Nat) (k j:Int) (w:World) (ha:a<B*B) (hb:b<B*B) (hg:NodeAt w g op c1 c2 c3 c4 c5):
 Calls Tryz.prog 145 #[szV a k,szV b j, .pointer (some ⟨g,0,none⟩)] w (RetNum w ((a+(B*B-b))%(B*B)%2 ^ sh c1)):=by
 have HC:Hd (∀ W,Calls Tryz.prog 136 #[numV a,numV b, .int .i64 c1] W (RetNum W ((a+(B*B-b))%(B*B)%2 ^ sh c1))):=fun W=>numSub_any a b c1 W ha hb
 unfold NodeAt at hg;have hgl:g<w.heap.size:=(gA_ hg).1;have hgl1:g<w.heap.size+1:=om;have hgl2:g<w.heap.size+1+1:=om;have q1:w.cell? ⟨g,1,none⟩=some (.int .i64 c1):=by simp[World.cell?,hg]
 clear hg;generalize (a+(B*B-b))%(B*B)%2 ^ sh c1=r at*;obtain ⟨y3,z3,he3,-,-⟩:=numV_parts r;obtain ⟨y,z,he,ey,ez⟩:=numV_parts a;obtain ⟨y1,z1,he1,ey1,ez1⟩:=numV_parts b;have HR:=hD he3;unfold szV;rw[<- ey, <-ez, <-ey1, <-ez1];unfold RetNum at HC;rw[he3,he,he1] at HC;clear he he1 he3 ey ez ey1 ez1 ha hb;go_enter Tryz.func145,Tryz.ntmps145;go_wp2_with (go_at_call 136;refine (HC.o _).mono ?_;rintro e w1 ⟨rfl,hb⟩;obtain ⟨hc,hf⟩:=bcell hb;have hz:=hb.size;simp at hz;have L1:w.heap.size+1<w1.heap.size:=by omega);exact bodyPost_ret (v:= .agg #[.int .u64 (y3:Int), .int .u64 (z3:Int)]) (by simp[results,Tryz.results145,go_sem,hc]) rfl ⟨by rw[HR.o],bL⟩
theorem clos_and (a b:Nat) (k j:Int) (w:World) (ha:a<B*B) (hb:b<B*B):
 Calls Tryz.prog 146 #[szV a k,szV b j] w (RetNum w (a &&& b)):=by
 have HC:Hd (∀ W,Calls Tryz.prog 101 #[numV a,numV b] W (RetNum W (a &&& b))):=fun W=>numAnd_any a b W ha hb
 generalize a &&& b=r at*;obtain ⟨y3,z3,he3,-,-⟩:=numV_parts r;obtain ⟨y,z,he,ey,ez⟩:=numV_parts a;obtain ⟨y1,z1,he1,ey1,ez1⟩:=numV_parts b;have HR:=hD he3;unfold szV;rw[<- ey, <-ez, <-ey1, <-ez1];unfold RetNum at HC;rw[he3,he,he1] at HC;clear he he1 he3 ey ez ey1 ez1 ha hb;go_enter Tryz.func146,Tryz.ntmps146;go_wp2_with (go_at_call 101;refine (HC.o _).mono ?_;rintro e w1 ⟨rfl,hb⟩;obtain ⟨hc,hf⟩:=bcell hb;have hz:=hb.size;simp at hz;have L1:w.heap.size+1<w1.heap.size:=by omega);exact bodyPost_ret (v:= .agg #[.int .u64 (y3:Int), .int .u64 (z3:Int)]) (by simp[results,Tryz.results146,go_sem,hc]) rfl ⟨by rw[HR.o],bL⟩
theorem clos_xor (a b:Nat) (k j:Int) (w:World) (ha:a<B*B) (hb:b<B*B):
 Calls Tryz.prog 147 #[szV a k,szV b j] w (RetNum w (a ^^^ b)):=by
 have HC:Hd (∀ W,Calls Tryz.prog 148 #[numV a,numV b] W (RetNum W (a ^^^ b))):=fun W=>numXor_any a b W ha hb
 generalize a ^^^ b=r at*;obtain ⟨y3,z3,he3,-,-⟩:=numV_parts r;obtain ⟨y,z,he,ey,ez⟩:=numV_parts a;obtain ⟨y1,z1,he1,ey1,ez1⟩:=numV_parts b;have HR:=hD he3;unfold szV;rw[<- ey, <-ez, <-ey1, <-ez1];unfold RetNum at HC;rw[he3,he,he1] at HC;clear he he1 he3 ey ez ey1 ez1 ha hb;go_enter Tryz.func147,Tryz.ntmps147;go_wp2_with (go_at_call 148;refine (HC.o _).mono ?_;rintro e w1 ⟨rfl,hb⟩;obtain ⟨hc,hf⟩:=bcell hb;have hz:=hb.size;simp at hz;have L1:w.heap.size+1<w1.heap.size:=by omega);exact bodyPost_ret (v:= .agg #[.int .u64 (y3:Int), .int .u64 (z3:Int)]) (by simp[results,Tryz.results147,go_sem,hc]) rfl ⟨by rw[HR.o],bL⟩
theorem clos_or (a b:Nat) (k j:Int) (w:World) (ha:a<B*B) (hb:b<B*B):
 Calls Tryz.prog 149 #[szV a k,szV b j] w (RetNum w (a ||| b)):=by
 have HC:Hd (∀ W,Calls Tryz.prog 63 #[numV a,numV b] W (RetNum W (a ||| b))):=fun W=>numOr_any a b W ha hb
 generalize a ||| b=r at*
 obtain ⟨y3,z3,he3,-,-⟩:=numV_parts r;obtain ⟨y,z,he,ey,ez⟩:=numV_parts a;obtain ⟨y1,z1,he1,ey1,ez1⟩:=numV_parts b;have HR:=hD he3;unfold szV;rw[<- ey, <-ez, <-ey1, <-ez1];unfold RetNum at HC;rw[he3,he,he1] at HC;clear he he1 he3 ey ez ey1 ez1 ha hb;go_enter Tryz.func149,Tryz.ntmps149;go_wp2_with (go_at_call 63;refine (HC.o _).mono ?_;rintro e w1 ⟨rfl,hb⟩;obtain ⟨hc,hf⟩:=bcell hb;have hz:=hb.size;simp at hz;have L1:w.heap.size+1<w1.heap.size:=by omega);exact bodyPost_ret (v:= .agg #[.int .u64 (y3:Int), .int .u64 (z3:Int)]) (by simp[results,Tryz.results149,go_sem,hc]) rfl ⟨by rw[HR.o],bL⟩
theorem clos_lt (a b:Nat) (k j:Int) (w:World) (ha:a<B*B) (hb:b<B*B):
 Calls Tryz.prog 151 #[szV a k,szV b j] w (RetNum w (oneN (decide (a<b)))):=by
 have HC:Hd (∀ W,CR 152 #[numV a,numV b] W (.int .i64 (cmpI a b))):=fun W=>numCmp_any a b W ha hb
 have HO:Hd (∀ (t:Bool) W,Calls Tryz.prog 132 #[.bool t] W (RetNum W (oneN t))):=fun t W=>one_any t W
 have HT:Hd (decide (cmpI a b<0)=decide (a<b)):=by
  show _=_;unfold cmpI;split
  ·simp;omega
  split<;>simp<;>omega
 obtain ⟨y,z,he,ey,ez⟩:=numV_parts a;obtain ⟨y1,z1,he1,ey1,ez1⟩:=numV_parts b;unfold szV;rw[<- ey, <-ez, <-ey1, <-ez1];rw[he,he1] at HC;generalize cmpI a b=c at*;clear he he1 ey ez ey1 ez1 ha hb;go_enter Tryz.func151,Tryz.ntmps151;go_wp2_with (go_at_call 152;refine (HC.o _).mono ?_;rintro e w1 ⟨rfl,hb⟩;obtain ⟨hc,hf⟩:=bcell hb;have hz:=hb.size;simp at hz;have L1:w.heap.size+1<w1.heap.size:=by omega);rw[HT.o];have HO1:=HO.o (decide (a<b));generalize oneN (decide (a<b))=r at*;obtain ⟨y3,z3,he3,-,-⟩:=numV_parts r;have HR:=hD he3;unfold RetNum at HO1;rw[he3] at HO1;refine (HO1 _).mono ?_;rintro e w2 ⟨rfl,hb2⟩;obtain ⟨hc2,hf2⟩:=bcell hb2;have hz2:=hb2.size;have L2:w.heap.size+1<w2.heap.size:=om;have L3:w.heap.size+1+1<w1.heap.size:=om;have L4:w.heap.size+1+1<w2.heap.size:=om;clear HO1;go_wp2_with fail;exact bodyPost_ret (v:= .agg #[.int .u64 (y3:Int), .int .u64 (z3:Int)]) (by simp[results,Tryz.results151,go_sem,hc,hc2,L3]) rfl ⟨by rw[HR.o],bL⟩
theorem clos_le (a b:Nat) (k j:Int) (w:World) (ha:a<B*B) (hb:b<B*B):
 Calls Tryz.prog 153 #[szV a k,szV b j] w (RetNum w (oneN (decide (a<=b)))):=by
 have HC:Hd (∀ W,CR 152 #[numV a,numV b] W (.int .i64 (cmpI a b))):=fun W=>numCmp_any a b W ha hb
 have HO:Hd (∀ (t:Bool) W,Calls Tryz.prog 132 #[.bool t] W (RetNum W (oneN t))):=fun t W=>one_any t W
 have HT:Hd (decide (cmpI a b<=0)=decide (a<=b)):=by
  show _=_;unfold cmpI;split
  ·simp;omega
  split<;>simp<;>omega
 obtain ⟨y,z,he,ey,ez⟩:=numV_parts a;obtain ⟨y1,z1,he1,ey1,ez1⟩:=numV_parts b;unfold szV;rw[<- ey, <-ez, <-ey1, <-ez1];rw[he,he1] at HC;generalize cmpI a b=c at*;clear he he1 ey ez ey1 ez1 ha hb;go_enter Tryz.func153,Tryz.ntmps153;go_wp2_with (go_at_call 152;refine (HC.o _).mono ?_;rintro e w1 ⟨rfl,hb⟩;obtain ⟨hc,hf⟩:=bcell hb;have hz:=hb.size;simp at hz;have L1:w.heap.size+1<w1.heap.size:=by omega);rw[HT.o];have HO1:=HO.o (decide (a<=b));generalize oneN (decide (a<=b))=r at*;obtain ⟨y3,z3,he3,-,-⟩:=numV_parts r;have HR:=hD he3;unfold RetNum at HO1;rw[he3] at HO1;refine (HO1 _).mono ?_;rintro e w2 ⟨rfl,hb2⟩;obtain ⟨hc2,hf2⟩:=bcell hb2;have hz2:=hb2.size;have L2:w.heap.size+1<w2.heap.size:=om;have L3:w.heap.size+1+1<w1.heap.size:=om;have L4:w.heap.size+1+1<w2.heap.size:=om;clear HO1;go_wp2_with fail;exact bodyPost_ret (v:= .agg #[.int .u64 (y3:Int), .int .u64 (z3:Int)]) (by simp[results,Tryz.results153,go_sem,hc,hc2,L3]) rfl ⟨by rw[HR.o],bL⟩
theorem eqp (x y z u:Nat) (W:World):(Go.binOp .eql 82 (.agg #[.int .u64 (x:Int), .int .u64 (y:Int)]) (.agg #[.int .u64 (z:Int), .int .u64 (u:Int)])).run Tryz.prog W= .ok (.bool (decide (x=z/\y=u))) W:=by
 exact gQ2
theorem clos_eq (a b:Nat) (k j:Int) (w:World) (_ha:a<B*B) (hb:b<B*B):
 Calls Tryz.prog 150 #[szV a k,szV b j] w (RetNum w (oneN (decide (a=b)))):=by
 have HO1:Hd (∀ W,Calls Tryz.prog 132 #[.bool (decide (a=b))] W (RetNum W (oneN (decide (a=b))))):=fun W=>one_any _ W
 obtain ⟨y,z,he,ey,ez⟩:=numV_parts a;obtain ⟨y1,z1,he1,ey1,ez1⟩:=numV_parts b;have HT:decide (a=b)=decide (y=y1/\z=z1):=by
  rw[decide_eq_decide,ey,ez,ey1,ez1];exact gB4
 have heq:=fun W=>eqp y z y1 z1 W
 rw[<- HT] at heq;unfold szV;rw[<- ey, <-ez, <-ey1, <-ez1];generalize decide (a=b)=t at*;generalize oneN t=r at*;obtain ⟨y3,z3,he3,-,-⟩:=numV_parts r;have HR:=hD he3;unfold RetNum at HO1;rw[he3] at HO1;clear he he1 he3 ey ez ey1 ez1 _ha hb HT;go_enter Tryz.func150,Tryz.ntmps150;go_wp2_with (go_at_call 132;refine (HO1.o _).mono ?_;rintro e w1 ⟨rfl,hb⟩;obtain ⟨hc,hf⟩:=bcell hb;have hz:=hb.size;simp at hz;have L1:w.heap.size+1<w1.heap.size:=by omega);exact bodyPost_ret (v:= .agg #[.int .u64 (y3:Int), .int .u64 (z3:Int)]) (by simp[results,Tryz.results150,go_sem,hc]) rfl ⟨by rw[HR.o],bL⟩
open Stab
def stkE (x:Pkt) (args:List Nat) (c:List Nod) (k:Nat):List (Nat×Int):=(c.take k).foldl (stepE x args) []
inductive NStep (p:Prg) (act:Int) (x:Pkt) (args:List Nat) (n:Nod):List (Nat×Int)->List (Nat×Int)->Prop
 |leaf (st):1<=n.op->n.op<=6->plain0P p act n=n.w->okP n.w=true->NStep p act x args n st ((leafP x args n%2 ^ sh n.w,n.w)::st)
 |un (a:Nat) (j:Int) (r):isUn n.op->a<B*B->okP j=true->single0P n j=n.w->okP n.w=true->NStep p act x args n ((a,j)::r) ((un1 n a%2 ^ sh n.w,n.w)::r)
 |bin (a:Nat) (i:Int) (b:Nat) (j:Int) (r):¬isUn n.op->(n.op=10\/(11<=n.op/\n.op<=17)\/n.op=18\/n.op=19\/n.op=20)->a<B*B->b<B*B->NStep p act x args n ((b,j)::(a,i)::r) ((bin2 n a b j%2 ^ sh n.w,n.w)::r)
theorem mod_ltBB (v:Nat) (k:Int):v%2 ^ sh k<B*B:=sh_ltBB (k:=k) (Nat.mod_lt _ (Nat.two_pow_pos _))
theorem stkE_succ (x:Pkt) (args:List Nat) (c:List Nod) {k:Nat} (hn:c[k]?=some n):stkE x args c (k+1)=stepE x args (stkE x args c k) n:=by
 unfold stkE;rw[List.take_add_one,hn,List.foldl_append];rfl
def StkOk (p:Prg) (act:Int) (c:List Nod) (k:Nat) (st:List (Nat×Int)):Prop:=foldW p act [] (c.take k)=some (st.map Prod.snd)/\∀e∈st,e.1<B*B/\okP e.2=true
theorem foldW_some {c d:List Nod} {st r:List Int} (h:foldW p act st (c++d)=some r):∃s,foldW p act st c=some s/\foldW p act s d=some r:=by
 rw[foldW_app] at h;cases hq:foldW p act st c with
 |none=>rw[hq] at h;cases h
 |some s=>rw[hq] at h;exact ⟨s,rfl,h⟩
theorem stk_step {c:List Nod} (x:Pkt) (args:List Nat) (hw:widthP p act c=some wt) {k:Nat} (hn:c[k]?=some n) (hs:StkOk p act c k (stkE x args c k)):
 NStep p act x args n (stkE x args c k) (stkE x args c (k+1))/\StkOk p act c (k+1) (stkE x args c (k+1)):=by
 rw[stkE_succ x args c hn];generalize stkE x args c k=st at*;obtain ⟨h1,h2⟩:=hs;have hc:foldW p act [] c=some [wt]:=by
  unfold widthP at hw;split at hw
  ·cases hw
  split at hw
  ·rename_i w' hq;cases hw;exact hq
  cases hw
 have htk:c.take (k+1)=c.take k++[n]:=by rw[List.take_add_one,hn];rfl
 have hd:c=c.take (k+1)++c.drop (k+1):=(List.take_append_drop _ _).symm;obtain ⟨s2,h3,-⟩:=foldW_some (c:=c.take (k+1)) (d:=c.drop (k+1)) (by rw[<- hd];exact hc);have h3':=h3;rw[htk] at h3';obtain ⟨s1,h4,h5⟩:=foldW_some h3';rw[h1] at h4;cases h4;rw[foldW] at h5;cases hq:stepW p act (st.map Prod.snd) n with
 |none=>rw[hq] at h5;cases h5
 |some s3=>
  rw[hq] at h5;simp only[foldW,Option.some.injEq] at h5;subst h5;unfold StkOk;rw[h3];unfold stepW at hq;simp only at hq;split at hq
  ·rename_i hop;split at hq
   ·rename_i hp;cases hq;have e:stepE x args st n=(leafP x args n%2 ^ sh n.w,n.w)::st:=by unfold stepE;rw[if_pos hop.2]
    rw[e];have hok:okP n.w=true:=by rw[<- hp.1];exact hp.2
    refine ⟨.leaf st hop.1 hop.2 hp.1 hok,by simp[hp.1],fun e he=>?_⟩;rcases List.mem_cons.1 he with rfl|he
    ·exact ⟨mod_ltBB _ _,hok⟩
    ·exact h2 e he
   cases hq
  rename_i hop;split at hq
  ·cases hq
  split at hq
  ·rename_i hun;split at hq
   ·cases hq
   rename_i t r hst;split at hq
   ·rename_i hp;cases hq;match st,hst with
    |(a,j)::st,hst=>
     simp only[List.map_cons,List.cons.injEq] at hst;obtain ⟨rfl,rfl⟩:=hst;have e:stepE x args ((a,j)::st) n=(un1 n a%2 ^ sh n.w,n.w)::st:=by unfold stepE;rw[if_neg (isUn_gt hun),if_pos hun]
     rw[e];have hok:okP n.w=true:=by rw[<- hp.1];exact hp.2
     have ha:=h2 (a,j) sm;refine ⟨.un a j st hun ha.1 ha.2 hp.1 hok,by simp[hp.1],fun e he=>?_⟩;rcases List.mem_cons.1 he with rfl|he
     ·exact ⟨mod_ltBB _ _,hok⟩
     exact h2 e (by simp[he])
   cases hq
  rename_i hun;split at hq
  ·rename_i b a r hst;split at hq
   ·rename_i hp;cases hq;match st,hst with
    |(b',j)::(a',i)::st,hst=>
     simp only[List.map_cons,List.cons.injEq] at hst;obtain ⟨rfl,rfl,rfl⟩:=hst;have hok:okP n.w=true:=by rw[<- hp.1];exact hp.2
     have hb:=bin_op hp.1 hok;have e:stepE x args ((b',j)::(a',i)::st) n=(bin2 n a' b' j%2 ^ sh n.w,n.w)::st:=by unfold stepE;rw[if_neg om,if_neg hun]
     rw[e];refine ⟨.bin a' i b' j st hun hb (h2 (a',i) sm).1 (h2 (b',j) sm).1,by simp[hp.1],fun e he=>?_⟩;rcases List.mem_cons.1 he with rfl|he
     ·exact ⟨mod_ltBB _ _,hok⟩
     exact h2 e (by simp[he])
   cases hq
  cases hq
theorem stk_ok {c:List Nod} (x:Pkt) (args:List Nat) (hw:widthP p act c=some wt):∀k,k<=c.length->StkOk p act c k (stkE x args c k)
 |0,_=>⟨by simp[stkE,foldW],by simp[stkE]⟩
 |k+1,hk=>(stk_step x args hw (gE_ om) (stk_ok x args hw k om)).2
theorem nstep_at {c:List Nod} (x:Pkt) (args:List Nat) (hw:widthP p act c=some wt) {k:Nat} (hn:c[k]?=some n):NStep p act x args n (stkE x args c k) (stkE x args c (k+1)):=
 (stk_step x args hw hn (stk_ok x args hw k (Nat.le_of_lt (gL_ hn).1))).1
theorem stkE_len {c:List Nod} (x:Pkt) (args:List Nat) (hw:widthP p act c=some wt):∀k,k<=c.length->(stkE x args c k).length<=k
 |0,_=>by simp[stkE]
 |k+1,hk=>by
  have ih:=stkE_len x args hw k om;have h:=nstep_at x args hw (gE_ (show k<c.length by omega));generalize stkE x args c k=st at*;generalize stkE x args c (k+1)=st2 at*;cases h<;>simp at ih⊢<;>omega
theorem stkE_end {c:List Nod} (x:Pkt) (args:List Nat) (hw:widthP p act c=some wt):∃j,stkE x args c c.length=[(evC x args c,j)]:=by
 obtain ⟨t,rfl,ht⟩:=tree_of hw;refine ⟨t.root.w,?_⟩;unfold stkE;rw[List.take_length,foldE_flat x args ht,evC_flat x args ht]
def accK (x:Pkt) (c:List Nod) (k:Nat):Bool:=(c.take k).any (leafA x)
theorem accK_succ {c:List Nod} {k:Nat} (hn:c[k]?=some n):accK x c (k+1)=(accK x c k||leafA x n):=by
 unfold accK;rw[List.take_add_one,hn];simp
theorem accK_end (x:Pkt) (c:List Nod):accK x c c.length=accC x c:=by unfold accK accC;rw[List.take_length]
open Go.RowKit
def LeafR (base X:Nat) (x:Pkt) (r v f mm:Value) (fs:List Value) (S:Nat->Prop) (w:World) (n:Nat) (A:Bool) (e:Ending) (w':World):Prop:=
 e= .returned (.tuple #[numV n, .bool true])/\PktB base w' X (x.acc A) r v f mm fs/\Fr S w w'
theorem lf_meta {v:Value} (hP:PktB base w X x r v f mm fs) (h0:w.cell? ⟨m,0,none⟩=some (.pointer (some ⟨X,0,none⟩))) (h1:w.cell? ⟨m,1,none⟩=some ga) (k c4 c5:Int) {i n:Nat} (hn:x.metas[i]?=some n) (bb:Int):
 Calls Tryz.prog 125 #[.pointer (some ⟨m,0,none⟩),nodeV 3 k (i:Int) bb c4 c5] w (LeafR base X x r v f mm fs (·=X) w (n) (false)):=by
 have HP:=hD hP;have HM:Hd (∀ W,Bl w W->Cl W m 0 (.pointer (some ⟨X,0,none⟩))/\Cl W m 1 ga):=fun W hb=>⟨(hb.cell (cell_there h0).1).trans h0,(hb.cell (cell_there h1).1).trans h1⟩
 have HAM:Hd (∀ W,Bl w W->Calls Tryz.prog 131 #[mm, .int .i64 (i:Int)] W (RetNum W n)):=fun W hb=>among_any (hP.below hb).hm.row hn
 obtain ⟨R,hR⟩:=nm n;obtain ⟨y3,z3,he3,-,-⟩:=numV_parts R;have HE3:Hd (numV (n)= .agg #[.int .u64 (y3:Int), .int .u64 (z3:Int)]):=by show _=_;rw[<- hR];exact he3
 rw[<- hR];have HR3:=hD he3;clear hP h0 h1 he3 hR hn;unfold nodeV;go_enter Tryz.func125,Tryz.ntmps125;go_upto_region 1 with fail;obtain ⟨W0,hW0⟩:=nm ((w.alloc (.cells #[.int .u8 3, .int .i64 k, .int .i64 (i:Int), .int .i64 bb, .int .u64 c4, .int .u64 c5] 84)).alloc (.cells #[.int .u64 0, .int .u64 0] 82));have HB0:Hd (Bl w W0):=by show Below _ _ _;rw[hW0];exact bL
 have HX0:Hd (Bx2 W0 (w.heap.size+1) 0 0):=by
  exact gZ
 have HN0:Hd (NodeAt W0 w.heap.size 3 k (i:Int) bb c4 c5):=by show _=_;rw[hW0,Below.heap_alloc _ _ _ sm];exact heap_new _ _
 rw[<- hW0];clear hW0;have hN0:=HN0.o;unfold NodeAt at hN0;have q0:W0.cell? ⟨w.heap.size,0,none⟩=some (.int .u8 3):=by simp[World.cell?,hN0]
 have q2:W0.cell? ⟨w.heap.size,2,none⟩=some (.int .i64 (i:Int)):=by simp[World.cell?,hN0]
 have q3:W0.cell? ⟨w.heap.size,3,none⟩=some (.int .i64 bb):=by simp[World.cell?,hN0]
 clear hN0;obtain ⟨m0,m1⟩:=HM.o W0 HB0.o;obtain ⟨b0,b1,g0,g1⟩:=HX0.o.cells;have s4:=(HP.o.below HB0.o).cell (i:=4) rfl;go_upto_region 7 with fail;exact gN
theorem lf_param {v:Value} (hP:PktB base w X x r v f mm fs) (h0:w.cell? ⟨m,0,none⟩=some (.pointer (some ⟨X,0,none⟩))) (h1:w.cell? ⟨m,1,none⟩=some ga) (k c4 c5:Int) {i n:Nat} {args:List Nat} (hg:NRow w ga args) (hn:args[i]?=some n) (bb:Int):
 Calls Tryz.prog 125 #[.pointer (some ⟨m,0,none⟩),nodeV 4 k (i:Int) bb c4 c5] w (LeafR base X x r v f mm fs (·=X) w (n) (false)):=by
 have HP:=hD hP;have HM:Hd (∀ W,Bl w W->Cl W m 0 (.pointer (some ⟨X,0,none⟩))/\Cl W m 1 ga):=fun W hb=>⟨(hb.cell (cell_there h0).1).trans h0,(hb.cell (cell_there h1).1).trans h1⟩
 have HAM:Hd (∀ W,Bl w W->Calls Tryz.prog 131 #[ga, .int .i64 (i:Int)] W (RetNum W n)):=fun W hb=>among_any (hg.below keepN hb) hn
 obtain ⟨R,hR⟩:=nm n;obtain ⟨y3,z3,he3,-,-⟩:=numV_parts R;have HE3:Hd (numV (n)= .agg #[.int .u64 (y3:Int), .int .u64 (z3:Int)]):=by show _=_;rw[<- hR];exact he3
 rw[<- hR];have HR3:=hD he3;clear hP h0 h1 he3 hR hn hg;unfold nodeV;go_enter Tryz.func125,Tryz.ntmps125;go_upto_region 1 with fail;obtain ⟨W0,hW0⟩:=nm ((w.alloc (.cells #[.int .u8 4, .int .i64 k, .int .i64 (i:Int), .int .i64 bb, .int .u64 c4, .int .u64 c5] 84)).alloc (.cells #[.int .u64 0, .int .u64 0] 82));have HB0:Hd (Bl w W0):=by show Below _ _ _;rw[hW0];exact bL
 have HX0:Hd (Bx2 W0 (w.heap.size+1) 0 0):=by
  exact gZ
 have HN0:Hd (NodeAt W0 w.heap.size 4 k (i:Int) bb c4 c5):=by show _=_;rw[hW0,Below.heap_alloc _ _ _ sm];exact heap_new _ _
 rw[<- hW0];clear hW0;have hN0:=HN0.o;unfold NodeAt at hN0;have q0:W0.cell? ⟨w.heap.size,0,none⟩=some (.int .u8 4):=by simp[World.cell?,hN0]
 have q2:W0.cell? ⟨w.heap.size,2,none⟩=some (.int .i64 (i:Int)):=by simp[World.cell?,hN0]
 have q3:W0.cell? ⟨w.heap.size,3,none⟩=some (.int .i64 bb):=by simp[World.cell?,hN0]
 clear hN0;obtain ⟨m0,m1⟩:=HM.o W0 HB0.o;obtain ⟨b0,b1,g0,g1⟩:=HX0.o.cells;go_upto_region 9 with fail;exact gN
theorem lf_field {v:Value} (hP:PktB base w X x r v f mm fs) (h0:w.cell? ⟨m,0,none⟩=some (.pointer (some ⟨X,0,none⟩))) (h1:w.cell? ⟨m,1,none⟩=some ga) (k c4 c5:Int) {i j n:Nat} {l:List Nat} {vb:Bool} (hl:x.fields[i]?=some l) (hn:l[j]?=some n) (hv:x.valid[i]?=some vb):
 Calls Tryz.prog 125 #[.pointer (some ⟨m,0,none⟩),nodeV 2 k (i:Int) (j:Int) c4 c5] w (LeafR base X x r v f mm fs (·=X) w (if vb then n else 0) (!vb)):=by
 have HP:=hD hP;have HM:Hd (∀ W,Bl w W->Cl W m 0 (.pointer (some ⟨X,0,none⟩))/\Cl W m 1 ga):=fun W hb=>⟨(hb.cell (cell_there h0).1).trans h0,(hb.cell (cell_there h1).1).trans h1⟩
 have HAM:Hd (∀ W,Bl w W->Calls Tryz.prog 130 #[.pointer (some ⟨X,0,none⟩), .int .i64 (i:Int), .int .i64 (j:Int)] W fun e w'=>e= .returned (numV (if vb then n else 0))/\PktB base w' X (x.acc !vb) r v f mm fs/\Fr (·=X) W w'):=fun W hb=>get_any (hP.below hb) hl hn hv
 obtain ⟨R,hR⟩:=nm (if vb then n else 0);obtain ⟨y3,z3,he3,-,-⟩:=numV_parts R;have HE3:Hd (numV (if vb then n else 0)= .agg #[.int .u64 (y3:Int), .int .u64 (z3:Int)]):=by show _=_;rw[<- hR];exact he3
 rw[<- hR];have HR3:=hD he3;clear hP h0 h1 he3 hR hl hn hv;unfold nodeV;go_enter Tryz.func125,Tryz.ntmps125;go_upto_region 1 with fail;obtain ⟨W0,hW0⟩:=nm ((w.alloc (.cells #[.int .u8 2, .int .i64 k, .int .i64 (i:Int), .int .i64 (j:Int), .int .u64 c4, .int .u64 c5] 84)).alloc (.cells #[.int .u64 0, .int .u64 0] 82));have HB0:Hd (Bl w W0):=by show Below _ _ _;rw[hW0];exact bL
 have HX0:Hd (Bx2 W0 (w.heap.size+1) 0 0):=by
  exact gZ
 have HN0:Hd (NodeAt W0 w.heap.size 2 k (i:Int) (j:Int) c4 c5):=by show _=_;rw[hW0,Below.heap_alloc _ _ _ sm];exact heap_new _ _
 rw[<- hW0];clear hW0;have hN0:=HN0.o;unfold NodeAt at hN0;have q0:W0.cell? ⟨w.heap.size,0,none⟩=some (.int .u8 2):=by simp[World.cell?,hN0]
 have q2:W0.cell? ⟨w.heap.size,2,none⟩=some (.int .i64 (i:Int)):=by simp[World.cell?,hN0]
 have q3:W0.cell? ⟨w.heap.size,3,none⟩=some (.int .i64 (j:Int)):=by simp[World.cell?,hN0]
 clear hN0;obtain ⟨m0,m1⟩:=HM.o W0 HB0.o;obtain ⟨b0,b1,g0,g1⟩:=HX0.o.cells;go_upto_region 5 with fail;go_region_with (first|(go_at_call 130;refine (HAM.o _ HB0.o.drew).mono ?_;rintro e w3 ⟨rfl,hp3,hf3⟩;try rw[HE3.o];have HF3:Hd (Fr (·=X) w w3):=(Fr.of_below HB0.o.drew).trans hf3;have HP3:Hd (PktB base w3 X (x.acc !vb) r v f mm fs):=hp3;have hX3:Bx2 w3 (w.heap.size+1) 0 0:=(hf3.block _ (lt_of_some HX0.o) (by have:=HP.o.lt;show ¬w.heap.size+1=X;omega)).trans HX0.o;clear hp3 hf3;clear b0 b1 g0 g1;obtain ⟨b0,b1,g0,g1⟩:=hX3.cells;clear hX3));all_goals
  go_wp2_with fail;refine bodyPost_ret (v:= .tuple #[.agg #[.int .u64 (y3:Int), .int .u64 (z3:Int)], .bool true]) ?_ rfl ⟨by rw[HR3.o],?_,?_⟩
  ·simp[results,Tryz.results125,go_sem,b0,b1]
  ·exact HP3.o.kept fun k hk=>set2_other w3 (w.heap.size+1) 0 1 _ _ (by have:=(HP.o.blk hk).2;omega)
  ·exact (HF3.o.set (.inr om) _).set (.inr om) _
theorem lf_port {v:Value} (hP:PktB base w X x r v f mm fs) (h0:w.cell? ⟨m,0,none⟩=some (.pointer (some ⟨X,0,none⟩))) (h1:w.cell? ⟨m,1,none⟩=some ga) (k c4 c5:Int) (hp0:0<=x.port) (hp1:x.port<=511) (aa bb:Int):
 Calls Tryz.prog 125 #[.pointer (some ⟨m,0,none⟩),nodeV 5 k aa bb c4 c5] w (LeafR base X x r v f mm fs (·=X) w (x.port.toNat) (false)):=by
 have HP:=hD hP;have HM:Hd (∀ W,Bl w W->Cl W m 0 (.pointer (some ⟨X,0,none⟩))/\Cl W m 1 ga):=fun W hb=>⟨(hb.cell (cell_there h0).1).trans h0,(hb.cell (cell_there h1).1).trans h1⟩
 have HAM:Hd (∀ W,Calls Tryz.prog 65 #[.int .u64 x.port] W (RetNum W x.port.toNat)):=fun W=>by
  have h:=numOf_any x.port.toNat (by unfold B;omega) W;have e1:((x.port.toNat:Nat):Int)=x.port:=om
  rw[e1] at h;exact h
 obtain ⟨R,hR⟩:=nm x.port.toNat;obtain ⟨y3,z3,he3,-,-⟩:=numV_parts R;have HE3:Hd (numV (x.port.toNat)= .agg #[.int .u64 (y3:Int), .int .u64 (z3:Int)]):=by show _=_;rw[<- hR];exact he3
 rw[<- hR];have HR3:=hD he3;clear hP h0 h1 he3 hR;unfold nodeV;go_enter Tryz.func125,Tryz.ntmps125;go_upto_region 1 with fail;obtain ⟨W0,hW0⟩:=nm ((w.alloc (.cells #[.int .u8 5, .int .i64 k, .int .i64 aa, .int .i64 bb, .int .u64 c4, .int .u64 c5] 84)).alloc (.cells #[.int .u64 0, .int .u64 0] 82));have HB0:Hd (Bl w W0):=by show Below _ _ _;rw[hW0];exact bL
 have HX0:Hd (Bx2 W0 (w.heap.size+1) 0 0):=by
  exact gZ
 have HN0:Hd (NodeAt W0 w.heap.size 5 k aa bb c4 c5):=by show _=_;rw[hW0,Below.heap_alloc _ _ _ sm];exact heap_new _ _
 rw[<- hW0];clear hW0;have hN0:=HN0.o;unfold NodeAt at hN0;have q0:W0.cell? ⟨w.heap.size,0,none⟩=some (.int .u8 5):=by simp[World.cell?,hN0]
 have q2:W0.cell? ⟨w.heap.size,2,none⟩=some (.int .i64 aa):=by simp[World.cell?,hN0]
 have q3:W0.cell? ⟨w.heap.size,3,none⟩=some (.int .i64 bb):=by simp[World.cell?,hN0]
 clear hN0;obtain ⟨m0,m1⟩:=HM.o W0 HB0.o;obtain ⟨b0,b1,g0,g1⟩:=HX0.o.cells;have s0:=(HP.o.below HB0.o).cell (i:=0) rfl;have hmx:max x.port 0=x.port:=om;have hmy:max 0 x.port=x.port:=om;have hwr:(IntKind.u64).wrap x.port=x.port:=by rw[IntKind.wrap_u64];omega
 have hgt:¬x.port<0:=om;go_upto_region 11 with fail;go_wp2_with (go_at_call 65;refine (HAM.o _).mono ?_;rintro e w3 ⟨rfl,hb3⟩;try rw[HE3.o];have HB3:Hd (Bl W0 w3):=hb3;have HF3:Hd (Fr (·=X) w w3):=(Fr.of_below HB0.o).trans (Fr.of_below HB3.o);have HP3:Hd (PktB base w3 X (x.acc false) r v f mm fs):=(HP.o.below (HB0.o.trans (HB3.o.mono HB0.o.size))).acc0;have hX3:Bx2 w3 (w.heap.size+1) 0 0:=(hb3.block _ (lt_of_some HX0.o)).trans HX0.o;clear b0 b1 g0 g1;obtain ⟨b0,b1,g0,g1⟩:=hX3.cells;clear hX3);refine bodyPost_ret (v:= .tuple #[.agg #[.int .u64 (y3:Int), .int .u64 (z3:Int)], .bool true]) ?_ rfl ⟨by rw[HR3.o],?_,?_⟩
 ·simp[results,Tryz.results125,go_sem,b0,b1]
 ·exact HP3.o.kept fun k hk=>set2_other w3 (w.heap.size+1) 0 1 _ _ (by have:=(HP.o.blk hk).2;omega)
 exact (HF3.o.set (.inr om) _).set (.inr om) _
end Go.Proofs.YtikilcbpogfgkaaGreat
