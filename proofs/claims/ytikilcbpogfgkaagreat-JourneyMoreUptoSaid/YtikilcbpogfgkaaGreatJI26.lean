/- Lemmas. -/
import Derived.Test.YtikilcbpogfgkaaGreatJI25
set_option maxHeartbeats 6400000
set_option maxRecDepth 100000
namespace Go.Proofs.YtikilcbpogfgkaaGreat
open Go.RowKit
variable {w:World} {x:Operand} {l:List Value} {j s:Nat} {L:Array Bool} {ops:Array Oper}
theorem lf_valid {base:Nat} {X m:Nat} {x:Pkt} {r v f mm ga:Value} {fs:List Value} (hP:PktB base w X x r v f mm fs) (h0:w.cell? ⟨m,0,none⟩=some (.pointer (some ⟨X,0,none⟩))) (h1:w.cell? ⟨m,1,none⟩=some ga) (k c4 c5:Int) {i:Nat} {vb:Bool} (hv:x.valid[i]?=some vb) (bb:Int):
 Calls Tryz.prog 125 #[.pointer (some ⟨m,0,none⟩),nodeV 6 k (i:Int) bb c4 c5] w (LeafR base X x r v f mm fs (·=X) w (truthN vb) (false)):=by
 have HP:=hD hP;have HM:Hd (∀ W,Bl w W->Cl W m 0 (.pointer (some ⟨X,0,none⟩))/\Cl W m 1 ga):=fun W hb=>⟨(hb.cell (cell_there h0).1).trans h0,(hb.cell (cell_there h1).1).trans h1⟩
 have HVI:=hD hv;have HML:Hd (m<w.heap.size):=(cell_there h0).1;have HLI:Hd ((i:Int)<(x.valid.length:Int)):=by show _<_;have:=(gL_ hv).1;omega
 have HAM:Hd (∀ W,Calls Tryz.prog 132 #[.bool vb] W (RetNum W (truthN vb))):=fun W=>one_any vb W
 obtain ⟨R,hR⟩:=nm (truthN vb);obtain ⟨y3,z3,he3,-,-⟩:=numV_parts R;have HE3:Hd (numV (truthN vb)= .agg #[.int .u64 (y3:Int), .int .u64 (z3:Int)]):=by show _=_;rw[<- hR];exact he3
 rw[<- hR];have HR3:=hD he3;clear hP h0 h1 he3 hR hv;unfold nodeV;go_enter Tryz.func125,Tryz.ntmps125;go_upto_region 1 with fail;obtain ⟨W0,hW0⟩:=nm ((w.alloc (.cells #[.int .u8 6, .int .i64 k, .int .i64 (i:Int), .int .i64 bb, .int .u64 c4, .int .u64 c5] 84)).alloc (.cells #[.int .u64 0, .int .u64 0] 82));have HB0:Hd (Bl w W0):=by show Below _ _ _;rw[hW0];exact bL
 have HX0:Hd (Bx2 W0 (w.heap.size+1) 0 0):=by
  exact gZ
 have HN0:Hd (NodeAt W0 w.heap.size 6 k (i:Int) bb c4 c5):=by show _=_;rw[hW0,Below.heap_alloc _ _ _ sm];exact heap_new _ _
 rw[<- hW0];clear hW0;have hN0:=HN0.o;unfold NodeAt at hN0;have q0:W0.cell? ⟨w.heap.size,0,none⟩=some (.int .u8 6):=by simp[World.cell?,hN0]
 have q2:W0.cell? ⟨w.heap.size,2,none⟩=some (.int .i64 (i:Int)):=by simp[World.cell?,hN0]
 have q3:W0.cell? ⟨w.heap.size,3,none⟩=some (.int .i64 bb):=by simp[World.cell?,hN0]
 clear hN0;obtain ⟨m0,m1⟩:=HM.o W0 HB0.o;obtain ⟨b0,b1,g0,g1⟩:=HX0.o.cells;have hP0:=HP.o.below HB0.o;obtain ⟨vg,vc,hve,-,cv⟩:=hP0.getValid HVI.o;have hvl:=(HP.o.blk (k:=vg) (.inr ⟨v,by simp,by rw[hve];rfl⟩)).2;have c2:=hP0.cell (i:=2) rfl;rw[hve] at c2;have hXl:=HP.o.lt;have hml:=HML.o;have i1:(i:Int)<(x.valid.length:Int):=HLI.o;have i0:0<=(i:Int):=om;clear hP0 hve;generalize x.valid.length=vn at*;have HQ:=hD (And.intro q2 (And.intro m0 (And.intro c2 cv)));have HON:Hd (∀ W,BS w.heap.size (w.heap.size+1) W0 W->Calls Tryz.prog 132 #[.bool vb] W fun e w'=>e= .returned (.agg #[.int .u64 (y3:Int), .int .u64 (z3:Int)])/\BR w.heap.size (w.heap.size+1) (y3:Int) (z3:Int) W w'):=fun W hS=>by
  refine (HAM.o W).mono ?_;rintro e w' ⟨rfl,hb⟩;rw[HE3.o];exact ⟨rfl,BR.of_below (Nat.le_trans HB0.o.size hS.low.size) hb⟩
 go_upto_region 13 with fail;clear b0 b1 g0 g1 q0 q2 q3 m0 m1 c2 cv;refine region_outR (BR w.heap.size (w.heap.size+1) (y3:Int) (z3:Int)) (BR.refl _ _ _ _) kq (BS w.heap.size (w.heap.size+1) W0) (fun _ _ h hr=>h.step hr) kq (BS.start HX0.o) ?_;refine sq (fun aa ww ll hh=>by have:=hh.oL 3;exact ov gX) ?_;refine sq (fun aa ww ll hh=>by have:=hh.gt 0 0;have q2:=hh.inv.cell (p:=⟨w.heap.size,2,none⟩) (by show w.heap.size≠w.heap.size+1;omega) HQ.o.1;have m0:=hh.inv.cell (p:=⟨m,0,none⟩) (by show m≠w.heap.size+1;omega) HQ.o.2.1;have c2:=hh.inv.cell (p:=⟨X,2,none⟩) (by show X≠w.heap.size+1;omega) HQ.o.2.2.1;have cv:=hh.inv.cell (p:=⟨vg,i,none⟩) (by show vg≠w.heap.size+1;omega) HQ.o.2.2.2;exact ov gX) ?_;refine sq (fun aa ww ll hh=>by have:=hh.gt 1 0;have ec:=evc aa;exact ov gX) ?_;refine stm 2 0 ?_;refine sq (fun aa ww ll hh=>by have:=hh.oL 3;exact hh.og 0 gX) ?_;refine sq (fun aa ww ll hh=>by have:=hh.gt 4 0;have q2:=hh.inv.cell (p:=⟨w.heap.size,2,none⟩) (by show w.heap.size≠w.heap.size+1;omega) HQ.o.1;have m0:=hh.inv.cell (p:=⟨m,0,none⟩) (by show m≠w.heap.size+1;omega) HQ.o.2.1;have c2:=hh.inv.cell (p:=⟨X,2,none⟩) (by show X≠w.heap.size+1;omega) HQ.o.2.2.1;have cv:=hh.inv.cell (p:=⟨vg,i,none⟩) (by show vg≠w.heap.size+1;omega) HQ.o.2.2.2;exact hh.og 1 gX) ?_;refine sq (fun aa ww ll hh=>by exact hh.og 2 (xmv (hh.oL 0))) ?_;refine sq (fun aa ww ll hh=>by have:=hh.gt 6 0;exact hh.og 3 gX) ?_;refine sq (fun aa ww ll hh=>by have:=hh.gt 7 0;exact hh.og 4 gX) ?_;refine sq (fun aa ww ll hh=>by have:=hh.gt 8 0;have q2:=hh.inv.cell (p:=⟨w.heap.size,2,none⟩) (by show w.heap.size≠w.heap.size+1;omega) HQ.o.1;have m0:=hh.inv.cell (p:=⟨m,0,none⟩) (by show m≠w.heap.size+1;omega) HQ.o.2.1;have c2:=hh.inv.cell (p:=⟨X,2,none⟩) (by show X≠w.heap.size+1;omega) HQ.o.2.2.1;have cv:=hh.inv.cell (p:=⟨vg,i,none⟩) (by show vg≠w.heap.size+1;omega) HQ.o.2.2.2;exact hh.og 5 gX) ?_;refine sq (fun aa ww ll hh=>by have:=hh.gt 9 0;exact hh.og 6 gX) ?_;refine sq (fun aa ww ll hh=>by have:=hh.gt 10 0;exact hh.og 7 gX) ?_;refine sq (fun aa ww ll hh=>by have:=hh.gt 11 0;have q2:=hh.inv.cell (p:=⟨w.heap.size,2,none⟩) (by show w.heap.size≠w.heap.size+1;omega) HQ.o.1;have m0:=hh.inv.cell (p:=⟨m,0,none⟩) (by show m≠w.heap.size+1;omega) HQ.o.2.1;have c2:=hh.inv.cell (p:=⟨X,2,none⟩) (by show X≠w.heap.size+1;omega) HQ.o.2.2.1;have cv:=hh.inv.cell (p:=⟨vg,i,none⟩) (by show vg≠w.heap.size+1;omega) HQ.o.2.2.2;exact hh.og 8 gX) ?_;refine sq (fun aa ww ll hh=>by have:=hh.gt 12 0;have q2:=hh.inv.cell (p:=⟨w.heap.size,2,none⟩) (by show w.heap.size≠w.heap.size+1;omega) HQ.o.1;have m0:=hh.inv.cell (p:=⟨m,0,none⟩) (by show m≠w.heap.size+1;omega) HQ.o.2.1;have c2:=hh.inv.cell (p:=⟨X,2,none⟩) (by show X≠w.heap.size+1;omega) HQ.o.2.2.1;have cv:=hh.inv.cell (p:=⟨vg,i,none⟩) (by show vg≠w.heap.size+1;omega) HQ.o.2.2.2;exact hh.og 9 gX) ?_;refine sq (fun aa ww ll hh=>by have:=hh.gt 5 8;have:=hh.gt 13 0;exact hh.og 10 gX) ?_;refine sq (fun aa ww ll hh=>by have:=hh.gt 3 11;have:=hh.gt 14 0;have ec:=evc aa;exact ov gX) ?_;refine stm 15 0 ?_;refine sq (fun aa ww ll hh=>by exact hh.og 0 (xmv (hh.oL 0))) ?_;refine sq (fun aa ww ll hh=>by have:=hh.gt 17 0;exact hh.og 1 gX) ?_;refine sq (fun aa ww ll hh=>by have:=hh.gt 18 0;exact hh.og 2 gX) ?_;refine sq (fun aa ww ll hh=>by have:=hh.gt 19 0;have q2:=hh.inv.cell (p:=⟨w.heap.size,2,none⟩) (by show w.heap.size≠w.heap.size+1;omega) HQ.o.1;have m0:=hh.inv.cell (p:=⟨m,0,none⟩) (by show m≠w.heap.size+1;omega) HQ.o.2.1;have c2:=hh.inv.cell (p:=⟨X,2,none⟩) (by show X≠w.heap.size+1;omega) HQ.o.2.2.1;have cv:=hh.inv.cell (p:=⟨vg,i,none⟩) (by show vg≠w.heap.size+1;omega) HQ.o.2.2.2;exact hh.og 3 gX) ?_;refine sq (fun aa ww ll hh=>by have:=hh.gt 20 0;exact hh.og 4 gX) ?_;refine sq (fun aa ww ll hh=>by have:=hh.gt 21 0;exact hh.og 5 gX) ?_;refine sq (fun aa ww ll hh=>by have:=hh.gt 22 0;have q2:=hh.inv.cell (p:=⟨w.heap.size,2,none⟩) (by show w.heap.size≠w.heap.size+1;omega) HQ.o.1;have m0:=hh.inv.cell (p:=⟨m,0,none⟩) (by show m≠w.heap.size+1;omega) HQ.o.2.1;have c2:=hh.inv.cell (p:=⟨X,2,none⟩) (by show X≠w.heap.size+1;omega) HQ.o.2.2.1;have cv:=hh.inv.cell (p:=⟨vg,i,none⟩) (by show vg≠w.heap.size+1;omega) HQ.o.2.2.2;exact hh.og 6 gX) ?_;refine sq (fun aa ww ll hh=>by have:=hh.oL 3;exact hh.og 7 gX) ?_;refine sq (fun aa ww ll hh=>by have:=hh.gt 24 0;have q2:=hh.inv.cell (p:=⟨w.heap.size,2,none⟩) (by show w.heap.size≠w.heap.size+1;omega) HQ.o.1;have m0:=hh.inv.cell (p:=⟨m,0,none⟩) (by show m≠w.heap.size+1;omega) HQ.o.2.1;have c2:=hh.inv.cell (p:=⟨X,2,none⟩) (by show X≠w.heap.size+1;omega) HQ.o.2.2.1;have cv:=hh.inv.cell (p:=⟨vg,i,none⟩) (by show vg≠w.heap.size+1;omega) HQ.o.2.2.2;exact hh.og 8 gX) ?_;refine sq (fun aa ww ll hh=>by have:=hh.gt 23 2;have:=hh.gt 25 0;exact hh.og 9 gX) ?_;refine sq (fun aa ww ll hh=>by have:=hh.gt 26 0;have q2:=hh.inv.cell (p:=⟨w.heap.size,2,none⟩) (by show w.heap.size≠w.heap.size+1;omega) HQ.o.1;have m0:=hh.inv.cell (p:=⟨m,0,none⟩) (by show m≠w.heap.size+1;omega) HQ.o.2.1;have c2:=hh.inv.cell (p:=⟨X,2,none⟩) (by show X≠w.heap.size+1;omega) HQ.o.2.2.1;have cv:=hh.inv.cell (p:=⟨vg,i,none⟩) (by show vg≠w.heap.size+1;omega) HQ.o.2.2.2;exact hh.og 10 gX) ?_;refine sq (fun aa ww ll hh=>by have:=hh.gt 16 11;have:=hh.gt 27 0;have ec:=evc aa;exact ov gX) ?_;refine ⟨.eq (.agg #[.int .u64 (y3:Int), .int .u64 (z3:Int)]),trivial,rfl,fun aa ww ll hh=>?_,?_⟩
 ·have e86:=hh.gt 28 0;have ef:=evf aa;have HI:=hh.inv;refine out_call_eq (wanted_none rfl) ?_ (HON.o ww HI);try clear HI;exact gX
 refine ⟨.rel (fun W _=>Bx2 W (w.heap.size+1) (y3:Int) (z3:Int)),(fun W W' v h hr=>hr.kb h),rfl,fun aa ww ll hh=>?_,?_⟩
 ·have e4:=hh.oL 4;have e87:=hh.gt 29 0;obtain ⟨xa,xb,hx⟩:=hh.inv.ob;obtain ⟨b0,b1,g0,g1⟩:=hx.cells;refine out_store (wanted_none rfl) (w':=(ww.setCell ⟨w.heap.size+1,0,none⟩ (.int .u64 (y3:Int))).setCell ⟨w.heap.size+1,1,none⟩ (.int .u64 (z3:Int))) ?_ (BR.put om hx) (hx.put _ _);try clear hx;exact gX
 refine ⟨.eq (.bool true),trivial,rfl,fun aa ww ll hh=>?_,?_⟩
 ·have ec:=evc aa;refine ov ?_;rw[ex_moveO (by first|exact .inl rfl|exact .inr rfl) (ec _)]
 intro ll w3 hS3 hok;have p30:=hok 30 _ rfl;clear hok;simp only[ly];have HF3:Hd (Fr (·=X) w w3):=⟨hS3.low.os.trans HB0.o.os,hS3.low.tape.trans HB0.o.tape,hS3.low.output.trans HB0.o.output,Nat.le_trans HB0.o.size hS3.low.size,fun k hk _=>(hS3.oth k (Nat.lt_of_lt_of_le hk HB0.o.size) om).trans (HB0.o.block k hk)⟩;have HP3:Hd (PktB base w3 X (x.acc false) r v f mm fs):=HP.o.acc0.kept fun k hk=>(hS3.oth k (Nat.lt_of_lt_of_le (HP.o.blk hk).2 HB0.o.size) (by have:=(HP.o.blk hk).2;omega)).trans (HB0.o.block k (HP.o.blk hk).2)
 obtain ⟨b0,b1,-,-⟩:=Bx2.cells p30;clear p30;go_wp2_with fail;refine bodyPost_ret (v:= .tuple #[.agg #[.int .u64 (y3:Int), .int .u64 (z3:Int)], .bool true]) ?_ rfl ⟨by rw[HR3.o],HP3.o,HF3.o⟩;simp[results,Tryz.results125,go_sem,b0,b1]
open Go.RowKit
def findRegion (n:Nat):Code->Option Code
 | .region k ops any=>if k=n then some (.region k ops any) else none
 | .seq a b=>match findRegion n a with
  |some c=>some c
  |none=>findRegion n b
 | .block _ c=>findRegion n c
 | .scope c=>findRegion n c
 | .loop c=>findRegion n c
 | .cond _ a b=>match findRegion n a with
  |some c=>some c
  |none=>findRegion n b
 |_=>none
open Go.RowKit Go.Maps
def nth (l:List Value) (i:Nat):Value:=l.getD i undef
theorem nth_set {i:Nat} {v:Value}:nth (l.set i v) j=if i=j/\i<l.length then v else nth l j:=by
 unfold nth;rw[List.getD_eq_getElem?_getD,List.getD_eq_getElem?_getD,List.getElem?_set];by_cases h:i=j
 ·subst h;rw[if_pos rfl];by_cases h2:i<l.length
  ·rw[if_pos h2,if_pos ⟨rfl,h2⟩];rfl
  rw[if_neg h2,if_neg om,List.getElem?_eq_none om]
 rw[if_neg h,if_neg om]
theorem nth_same {i:Nat} {v:Value} (h:i<l.length):nth (l.set i v) i=v:=by rw[nth_set,if_pos ⟨rfl,h⟩]
theorem nth_other {i:Nat} {v:Value} (h:i≠j):nth (l.set i v) j=nth l j:=by rw[nth_set,if_neg om]
theorem did_other {i:Nat} (h:j≠i):did (L.setIfInBounds i true) j=did L j:=by
 by_cases hi:i<L.size
 ·rw[did_set hi,decide_eq_false h,Bool.false_or]
 rw[show L.setIfInBounds i true=L by rw[Array.setIfInBounds_eq_of_size_le om]]
theorem did_same {i:Nat} (hi:i<L.size):did (L.setIfInBounds i true) i=true:=by rw[did_set hi];simp
open Go.RowKit Go.Maps
theorem wp_region_inv2 {P:Program} {Q:Exit->Act->World->Prop} {id:Nat} {a:Act} (hm:P.follows .mixedOrders=true) (I:Array Bool->Act->World->Prop)
 (h0:I (Array.replicate ops.size false) a w.drew)
 (hstep:∀L a w i,L.size=ops.size->i<ops.size->did L i=false->(∀ o,ops[i]?=some o->∀e∈o.after,Region.binds .any e=true->did L e.on=true)->I L a w->wpOp P ops Q i (I (L.setIfInBounds i true)) a w)
 (hback:∀(i:Nat) (o:Oper),ops[i]?=some o->∀e∈o.after,Region.binds .any e=true->e.on<i)
 (hend:∀L a w,(∀ i,i<ops.size->did L i=true)->I L a w->Q .normal a w):(Code.region id ops true).wp P Q a w:=by
 refine wp_region_any hm (wpAny_inv I hstep (fun L a w hL hr hI=>hend L a w ?_ hI) ops.size _ a _ sm (fun i hi _=>by omega) ?_ ?_ h0)
 ·intro i;induction i using Nat.strongRecOn with
  |_ i ih=>
   intro hi;cases hd:did L i
   ·exfalso;have:i∈Region.ready .any ops L:=by
     rw[mem_ready];refine ⟨?_,ops[i],Array.getElem?_eq_getElem hi,fun e he hb=>?_⟩
     ·unfold did at hd;simpa [hL,hi] using hd
     have hlt:=hback i _ (Array.getElem?_eq_getElem hi) e he hb;exact ih e.on hlt om
    rw[hr] at this;cases this
   ·rfl
 ·unfold Region.ready;exact gE2
 exact gE2
open Go.RowKit Go.Maps
abbrev Tw:=(Nat->Prop)->World->List Value->Value->Prop
structure Rw where
 n0:Nat
 dep:Nat->Prop
 kd:List (List Nat×Tw)
 G:Array Bool->List Value->World->Prop
def NewB (w w':World) (k:Nat):Prop:=w.heap.size<=k/\k<w'.heap.size
structure RWg (S:Rw) (L:Array Bool) (l:List Value) (w:World) (B:Nat->Nat->Prop):Prop where
 glob:S.G L l w
 size:S.n0<=w.heap.size
 ok:∀(i:Nat) (js:List Nat) (P:Tw),did L i=true->S.kd[i]?=some (js,P)->(∀ j∈js,did L j=true)/\P (B i) w (js.map (nth l)) (nth l i)
 blk:∀i k,did L i=true->B i k->S.n0<=k/\k<w.heap.size
 apart:∀i j k,did L i=true->did L j=true->B i k->B j k->i=j
def RW (S:Rw) (L:Array Bool) (l:List Value) (w:World):Prop:=∃B,RWg S L l w B
structure Rw.Fine (S:Rw):Prop where
 old:∀k,S.dep k->k<S.n0
 stab:∀(i:Nat) (js:List Nat) (P:Tw),S.kd[i]?=some (js,P)->∀(B:Nat->Prop) (w w':World) (ls:List Value) (v:Value),P B w ls v->(∀ k,B k->k<w.heap.size)->(∀ k,B k\/S.dep k->w'.heap[k]?=w.heap[k]?)->w.heap.size<=w'.heap.size->P B w' ls v
variable {S:Rw} {w w':World} {L:Array Bool} {l:List Value}
theorem RW.init (h:∀i,did L i=false) (hs:S.n0<=w.heap.size) (hG:S.G L l w):RW S L l w:=
 ⟨fun _ _=>False,hG,hs,(fun i js P h1=>by rw[h] at h1;cases h1),(fun i k h1=>by rw[h] at h1;cases h1),fun i j k h1=>by rw[h] at h1;cases h1⟩
theorem RW.glob (h:RW S L l w):S.G L l w:=by obtain ⟨B,h⟩:=h;exact h.glob
theorem RWg.turn {B:Nat->Nat->Prop} (i:Nat) (v:Value) {js:List Nat} {P:Tw} (h:RWg S L l w B) (hn:did L i=false) (hL:i<L.size) (hl:i<l.length) (hk:S.kd[i]?=some (js,P)) (hjs:∀j∈js,did L j=true) (hsz:w.heap.size<=w'.heap.size)
 (hold:∀(j:Nat) (js':List Nat) (P':Tw),did L j=true->S.kd[j]?=some (js',P')->P' (B j) w (js'.map (nth l)) (nth l j)->P' (B j) w' (js'.map (nth l)) (nth l j))
 (hG:S.G (L.setIfInBounds i true) (l.set i v) w') (hnew:P (NewB w w') w' (js.map (nth l)) v):RW S (L.setIfInBounds i true) (l.set i v) w':=by
 have keep:∀js:List Nat,(∀ j∈js,did L j=true)->js.map (nth (l.set i v))=js.map (nth l):=fun js hjs=>List.map_congr_left fun j hj=>nth_other (fun q=>by have:=hjs j hj;rw[<- q,hn] at this;cases this)
 have dd:∀j,did L j=true->did (L.setIfInBounds i true) j=true:=fun j hj=>by
  by_cases e:j=i
  ·subst e;exact did_same hL
  ·rw[did_other e];exact hj
 refine ⟨fun j k=>if j=i then NewB w w' k else B j k,hG,Nat.le_trans h.size hsz,fun j js' P' hj hk'=>?_,fun j k hj hb=>?_,fun j m k hj hm hb hc=>?_⟩
 ·by_cases e:j=i
  ·subst e;rw[hk] at hk';cases hk';refine ⟨fun m hm=>dd m (hjs m hm),?_⟩;rw[keep _ hjs,nth_same hl];simpa using hnew
  rw[did_other e] at hj;obtain ⟨a1,a2⟩:=h.ok j js' P' hj hk';refine ⟨fun m hm=>dd m (a1 m hm),?_⟩;rw[keep _ a1,nth_other (fun q=>e q.symm)];have:=hold j js' P' hj hk' a2;simpa [e] using this
 ·by_cases e:j=i
  ·subst e;simp only[if_pos] at hb;exact ⟨Nat.le_trans h.size hb.1,hb.2⟩
  rw[did_other e] at hj;simp only[e,if_false] at hb;have:=h.blk j k hj hb;omega
 by_cases e:j=i<;>by_cases e2:m=i
 ·rw[e,e2]
 ·exfalso;simp only[e,e2,if_true,if_false] at hb hc;rw[did_other e2] at hm;have:=(h.blk m k hm hc).2;have:=hb.1;omega
 ·exfalso;simp only[e,e2,if_true,if_false] at hb hc;rw[did_other e] at hj;have:=(h.blk j k hj hb).2;have:=hc.1;omega
 simp only[e,e2,if_false] at hb hc;rw[did_other e] at hj;rw[did_other e2] at hm;exact h.apart j m k hj hm hb hc
open Go.RowKit Go.Maps
section
variable {lo:Nat} {T l:List Value}
end
theorem list_nth:∀{n:Nat} {l:List Value},l.length=n->(List.range n).map (nth l)=l:=by
 intro n l h;refine List.ext_getElem (by simp[h]) fun i h1 h2=>?_
 simp only[List.getElem_map,List.getElem_range];unfold nth;rw[List.getD_eq_getElem?_getD,gE_ h2];rfl
def GStays (S:Rw):Prop:=∀(i:Nat) (v:Value) (L:Array Bool) (l:List Value) (w w':World),Bl w w'->S.G L l w->S.G (L.setIfInBounds i true) (l.set i v) w'
section
variable {P:Program} {S:Rw} {n lo:Nat} {T l:List Value} {L:Array Bool} {ops:Array Oper} {i:Nat} {o:Oper} {w:World} {Q:Exit->Act->World->Prop}
theorem wanted_un {t:Array Value} (h:o.guard=none):Region.wanted o (yielded ops t)=true:=by unfold Region.wanted;rw[h]
structure At (S:Rw) (n lo:Nat) (T:List Value) (L:Array Bool) (l:List Value) (w:World) (i:Nat):Prop where
 len:l.length=n
 size:L.size=n
 lt:i<n
 old:lo<=T.length
 fine:S.Fine
 stays:GStays S
 non:did L i=false
 rw:RW S L l w
variable {ev:Operand->Value} {v:Value}
theorem ex_move (h:o.op= .move x) (hv:ev x=v):(execOp ev o).run P w= .ok (.value v) w:=by
 unfold execOp;rw[h, <-hv];rfl
theorem ex_call {c:Call} {f:FuncId} {cap args all:Array Value} (h:o.op= .call c) (hc:c.callee= .value x) (hx:ev x= .func (.func f) #[] cap) (ha:c.args.map ev=args) (hall:args++cap=all) (hf:∀av W,(callFunc f av).run P W= .ok (.enter f av) W):(execOp ev o).run P w= .ok (.enter f all) w:=by
 subst hall;unfold execOp resolve;rw[h];simp[go_sem,hc,hx,ha,hf]
end
theorem dep_of {i a:Nat} (hb:(ops[i]?.map fun o=>o.after.any fun e=>decide (e.on=a)&&Region.binds .any e)=some true) (hdep:∀o,ops[i]?=some o->∀e∈o.after,Region.binds .any e=true->did L e.on=true):did L a=true:=by
 cases h:ops[i]? with
 |none=>rw[h] at hb;cases hb
 |some o=>
  rw[h] at hb;simp only[Option.map_some,Option.some.injEq,Array.any_eq_true'] at hb;obtain ⟨e,he,h2⟩:=hb;simp only[Bool.and_eq_true,decide_eq_true_eq] at h2;rw[<- h2.1];exact hdep o h e he h2.2
open Go.RowKit Go.Maps
def slotOf:List (Option Nat)->Nat->Option Nat
 |[],_=>none
 |d::ds,s=>if d=some s then some 0 else (slotOf ds s).map (·+1)
def pickF (ds:List (Option Nat)) (T l:List Value) (s:Nat):Value:=match slotOf ds s with|some i=>nth l i|none=>nth T s
def frm2 (ds:List (Option Nat)) (T l:List Value):Act:=⟨((List.range T.length).map (pickF ds T l)).toArray,[]⟩
theorem slotOf_spec:∀{ds:List (Option Nat)} {s i:Nat},slotOf ds s=some i->ds[i]?=some (some s)
 |[],_,_,h=>by cases h
 |d::ds,s,i,h=>by
  unfold slotOf at h;split at h
  ·rename_i e;cases h;rw[e];rfl
  ·cases q:slotOf ds s with
   |none=>rw[q] at h;cases h
   |some j=>rw[q] at h;cases h;exact slotOf_spec (ds:=ds) q
section
variable {ds:List (Option Nat)} {T l:List Value}
theorem frm2_at (h:s<T.length):(frm2 ds T l).tmps[s]?=some (pickF ds T l s):=by
 unfold frm2;simp[h]
theorem frm2_eval (h:s<T.length):(frm2 ds T l).eval (.tmp s)=pickF ds T l s:=by
 show (frm2 ds T l).tmps.getD s undef=_;rw[Array.getD_eq_getD_getElem?,frm2_at h];rfl
theorem frm2_new {i:Nat} (h:s<T.length) (hs:slotOf ds s=some i):(frm2 ds T l).eval (.tmp s)=nth l i:=by
 rw[frm2_eval h];unfold pickF;rw[hs]
theorem frm2_old (h:s<T.length) (hs:slotOf ds s=none):(frm2 ds T l).eval (.tmp s)=nth T s:=by
 rw[frm2_eval h];unfold pickF;rw[hs]
theorem frm2_put {d i:Nat} (v:Value) (hs:slotOf ds d=some i) (h:i<l.length):(frm2 ds T l).put (some d) v=frm2 ds T (l.set i v):=by
 unfold frm2 Act.put;simp only[Act.mk.injEq,and_true];apply Array.ext
 ·simp
 intro j h1 h2;simp only[Array.size_setIfInBounds,List.size_toArray,List.length_map,List.length_range] at h1;rw[Array.getElem_setIfInBounds (by simpa using h1)];simp only[List.getElem_toArray,List.getElem_map,List.getElem_range];by_cases e:d=j
 ·subst e;rw[if_pos rfl];unfold pickF;rw[hs];exact (nth_same h).symm
 rw[if_neg e];unfold pickF;cases q:slotOf ds j with
 |none=>rfl
 |some k=>
  have hne:i≠k:=fun q2=>by
   have h1:=slotOf_spec hs;have h2:=slotOf_spec q;rw[q2,h2] at h1;cases h1;exact e rfl
  exact (nth_other hne).symm
end
def SJ (S:Rw) (n:Nat) (ds:List (Option Nat)) (T:List Value) (L:Array Bool) (a:Act) (w:World):Prop:=∃l:List Value,l.length=n/\L.size=n/\a=frm2 ds T l/\RW S L l w
section
variable {P:Program} {S:Rw} {n:Nat} {ds:List (Option Nat)} {T l:List Value} {L:Array Bool} {ops:Array Oper} {i:Nat} {o:Oper} {w w':World} {Q:Exit->Act->World->Prop} {v:Value}
end
end Go.Proofs.YtikilcbpogfgkaaGreat
