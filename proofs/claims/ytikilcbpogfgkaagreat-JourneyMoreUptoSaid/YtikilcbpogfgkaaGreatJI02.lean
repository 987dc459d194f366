/- Lemmas. -/
import Derived.Test.YtikilcbpogfgkaaGreatJI01
import Derived.Test.YtikilcbpogfgkaaGreatJI00
set_option maxHeartbeats 4000000
set_option maxRecDepth 100000
namespace Go.Proofs.YtikilcbpogfgkaaGreat
open Go.RowKit
variable {w wr w':World} {g k j n x gx gy N:Nat} {a b:Value} {t:TypeId} {p q f fa fb:Nat->Bool} {P:Program} {ops:Array Oper} {Q:Exit->Act->World->Prop} {op:Bool->Bool->Bool} {c:Bool}
theorem heap_new (w:World) (o:Obj):(w.alloc o).heap[w.heap.size]?=some o:=by
 show (w.heap.push o)[w.heap.size]?=_;simp
theorem hq2 (w:World) (a b:Obj):((w.alloc a).alloc b).heap[w.heap.size+1]?=some b:=by
 have:=heap_new (w.alloc a) b;rw[World.size_alloc] at this;exact this
theorem hq3 (w:World) (a b c:Obj):(((w.alloc a).alloc b).alloc c).heap[w.heap.size+1+1]?=some c:=by
 have:=heap_new ((w.alloc a).alloc b) c;rw[World.size_alloc,World.size_alloc] at this;exact this
theorem setCell_heap {i:Nat} {v:Value} (h:k≠g):(w.setCell ⟨g,i,none⟩ v).heap[k]?=w.heap[k]?:=Below.heap_setCell w ⟨g,i,none⟩ v k h
theorem set_lo (v:Value) (h:w.heap[g]?=some (.cells #[a,b] t (0,0))):(w.setCell ⟨g,1,none⟩ v).heap[g]?=some (.cells #[a,v] t (0,0)):=
 heap_setCell_same w g 1 _ t v h
theorem set_hi (v:Value) (h:w.heap[g]?=some (.cells #[a,b] t (0,0))):(w.setCell ⟨g,0,none⟩ v).heap[g]?=some (.cells #[v,b] t (0,0)):=
 heap_setCell_same w g 0 _ t v h
theorem lt_of_block {o:Obj} (h:w.heap[g]?=some o):g<w.heap.size:=(gA_ h).1
open Go.RowKit
def did (L:Array Bool) (i:Nat):Bool:=L.getD i false
theorem did_set {L:Array Bool} {i:Nat} (hi:i<L.size):did (L.setIfInBounds i true) j=(decide (j=i)||did L j):=by
 unfold did;exact gA4
theorem did_none (n i:Nat):did (Array.replicate n false) i=false:=by
 unfold did;rw[Array.getD_eq_getD_getElem?,Array.getElem?_replicate];split<;>rfl
theorem filter_le (h:∀j,q j=true->p j=true):∀l:List Nat,(l.filter q).length<=(l.filter p).length
 |[]=>Nat.le_refl _
 |x::l=>by
  have ih:=filter_le h l;rw[List.filter_cons,List.filter_cons];cases hq:q x
  ·simp only[Bool.false_eq_true,if_false];split
   ·simp only[List.length_cons];omega
   ·exact ih
  ·rw[h x hq];simp only[if_true,List.length_cons];omega
theorem filter_lt (h:∀j,q j=true->p j=true) {i:Nat} (hp:p i=true) (hq:q i=false):∀l:List Nat,i∈l->(l.filter q).length<(l.filter p).length
 |[],hi=>by cases hi
 |x::l,hi=>by
  rw[List.filter_cons,List.filter_cons];by_cases e:x=i
  ·subst e;have:=filter_le h l;rw[hp,hq];simp only[Bool.false_eq_true,if_false,if_true,List.length_cons];omega
  ·have ih:=filter_lt h hp hq l (by
    rcases List.mem_cons.1 hi with h1|h1
    ·exact absurd h1.symm e
    ·exact h1)
   cases hq':q x
   ·simp only[Bool.false_eq_true,if_false];split
    ·simp only[List.length_cons];omega
    ·exact ih
   ·rw[h x hq'];simp only[if_true,List.length_cons];omega
theorem wpAny_inv {md:Region.Mode} (I:Array Bool->Act->World->Prop)
 (hstep:∀L a w i,L.size=ops.size->i<ops.size->did L i=false->(∀ o,ops[i]?=some o->∀e∈o.after,Region.binds md e=true->did L e.on=true)->I L a w->wpOp P ops Q i (I (L.setIfInBounds i true)) a w)
 (hend:∀L a w,L.size=ops.size->Region.ready md ops L=[]->I L a w->Q .normal a w):
 ∀(n:Nat) (L:Array Bool) (a:Act) (w:World),L.size=ops.size->(∀ i,i<ops.size->did L i=false->0<n)->(Region.ready md ops L).length<=ops.size->((List.range ops.size).filter fun i=> !did L i).length<=n->I L a w->wpAny P md ops Q n L a w:=by
 intro n;induction n with
 |zero=>
  intro L a w hL hn _ hlen hI;have hr:Region.ready md ops L=[]:=by
   rw[List.eq_nil_iff_forall_not_mem];intro i hi;obtain ⟨h1,o,ho,-⟩:=mem_ready.1 hi;have hlt:i<ops.size:=(gA_ ho).1;have:did L i=false:=by unfold did;simpa [hL,hlt] using h1
   exact absurd (hn i hlt this) om
  exact ⟨hr,hend L a w hL hr hI⟩
 |succ n ih=>
  intro L a w hL hn hrl hlen hI;refine ⟨fun hr=>hend L a w hL hr hI,fun i hi=>?_⟩;obtain ⟨h1,o,ho,hall⟩:=mem_ready.1 hi;have hlt:i<ops.size:=(gA_ ho).1;have hd:did L i=false:=by unfold did;simpa [hL,hlt] using h1
  refine wpOp_mono (fun a' w' hI'=>?_) (hstep L a w i hL hlt hd (fun o' ho' e he hb=>by rw[ho] at ho';cases ho';exact hall e he hb) hI);have hset:((List.range ops.size).filter fun j=> !did (L.setIfInBounds i true) j).length<((List.range ops.size).filter fun j=> !did L j).length:=by
   refine filter_lt (fun j hj=>?_) (i:=i) (by simp[hd]) (by rw[did_set om];simp) _ (List.mem_range.2 hlt);rw[did_set om] at hj;cases h:did L j
   ·rfl
   ·rw[h] at hj;simp at hj
  refine ih _ a' w' (by simpa using hL) (fun j hj hdj=>?_) ?_ om hI'
  ·rcases Nat.eq_zero_or_pos n with h0|h0
   ·exfalso;have hm:j∈(List.range ops.size).filter fun j=> !did (L.setIfInBounds i true) j:=by
     rw[List.mem_filter,List.mem_range];exact ⟨hj,by simp[hdj]⟩
    have:=List.length_pos_of_mem hm;omega
   exact h0
  unfold Region.ready;exact gE2
theorem wp_region_inv {id:Nat} {a:Act} (hm:P.follows .mixedOrders=true) (I:Array Bool->Act->World->Prop)
 (h0:I (Array.replicate ops.size false) a w.drew)
 (hstep:∀L a w i,L.size=ops.size->i<ops.size->did L i=false->(∀ o,ops[i]?=some o->∀e∈o.after,Region.binds .any e=true->did L e.on=true)->I L a w->wpOp P ops Q i (I (L.setIfInBounds i true)) a w)
 (hback:∀(i:Nat) (o:Oper),ops[i]?=some o->∀e∈o.after,e.on<i)
 (hend:∀L a w,(∀ i,i<ops.size->did L i=true)->I L a w->Q .normal a w):(Code.region id ops true).wp P Q a w:=by
 refine wp_region_any hm (wpAny_inv I hstep (fun L a w hL hr hI=>hend L a w ?_ hI) ops.size _ a _ sm (fun i hi _=>by omega) ?_ ?_ h0)
 ·intro i;induction i using Nat.strongRecOn with
  |_ i ih=>
   intro hi;cases hd:did L i
   ·exfalso;have:i∈Region.ready .any ops L:=by
     rw[mem_ready];refine ⟨?_,ops[i],Array.getElem?_eq_getElem hi,fun e he hb=>?_⟩
     ·unfold did at hd;simpa [hL,hi] using hd
     have hlt:=hback i _ (Array.getElem?_eq_getElem hi) e he;exact ih e.on hlt om
    rw[hr] at this;cases this
   ·rfl
 ·unfold Region.ready;exact gE2
 exact gE2
open Go.RowKit
def rowA (f:Nat->Bool):Array Value:=(Array.range 128).map fun i=> .bool (f i)
theorem rowA_size (f:Nat->Bool):(rowA f).size=128:=by simp[rowA]
theorem rowA_at (f:Nat->Bool) (i:Nat) (h:i<128):(rowA f)[i]?=some (.bool (f i)):=by simp[rowA,h]
theorem rowA_one (f:Nat->Bool):(rowA f).all (·.oneCell')=true:=by
 rw[Array.all_eq_true_iff_forall_mem];intro v hv;simp only[rowA,Array.mem_map] at hv;obtain ⟨i,-,rfl⟩:=hv;rfl
theorem rowA_congr {g:Nat->Bool} (h:∀i,i<128->f i=g i):rowA f=rowA g:=by
 apply Array.ext
 ·simp[rowA]
 intro i h1 h2;simp only[rowA,Array.size_map,Array.size_range] at h1;simp[rowA,h i h1]
def put (f:Nat->Bool) (i:Nat) (b:Bool):Nat->Bool:=fun j=>if j=i then b else f j
theorem rowA_put (f:Nat->Bool) (i:Nat) (b:Bool):(rowA f).setIfInBounds i (.bool b)=rowA (put f i b):=by
 apply Array.ext
 ·simp[rowA]
 intro j h1 h2;simp only[rowA,Array.size_setIfInBounds,Array.size_map,Array.size_range] at h1;rw[Array.getElem_setIfInBounds (by simpa [rowA] using h1)];simp only[rowA,Array.getElem_map,Array.getElem_range,put];by_cases e:i=j
 ·subst e;simp
 rw[if_neg e,if_neg (fun h=>e h.symm)]
def ofBits (f:Nat->Bool):Nat->Nat
 |0=>0
 |k+1=>ofBits f k+(if f k then 2 ^ k else 0)
theorem ofBits_lt (f:Nat->Bool):∀k,ofBits f k<2 ^ k
 |0=>by simp[ofBits]
 |k+1=>by
  have:=ofBits_lt f k;rw[ofBits,Nat.pow_succ];split<;>omega
theorem ofBits_testBit (f:Nat->Bool):∀k i,(ofBits f k).testBit i=(decide (i<k)&&f i)
 |0,i=>by simp[ofBits]
 |k+1,i=>by
  have ih:=ofBits_testBit f k;have hlt:=ofBits_lt f k;rw[ofBits];by_cases hf:f k=true
  ·rw[if_pos hf,Nat.add_comm];by_cases h:i<k
   ·rw[Nat.testBit_two_pow_add_gt h,ih];have:decide (i<k+1)=decide (i<k):=by simp;omega
    rw[this]
   ·by_cases e:i=k
    ·subst e;rw[Nat.testBit_two_pow_add_eq,ih];simp[hf]
    ·have h1:decide (i<k+1)=false:=by simp;omega
     rw[h1,Bool.false_and];apply Nat.testBit_lt_two_pow;have:2 ^ (k+1)<=2 ^ i:=Nat.pow_le_pow_right om om;rw[Nat.pow_succ] at this;omega
  ·rw[if_neg hf,Nat.add_zero,ih];by_cases h:i=k
   ·subst h;simp[hf]
   ·have:decide (i<k+1)=decide (i<k):=by simp;omega
    rw[this]
theorem ofBits_eq (hn:n<2 ^ k) (h:∀i,i<k->f i=n.testBit i):ofBits f k=n:=by
 apply Nat.eq_of_testBit_eq;intro i;rw[ofBits_testBit];by_cases hi:i<k
 ·simp[hi,h i hi]
 simp[hi];exact Nat.testBit_lt_two_pow (Nat.lt_of_lt_of_le hn (Nat.pow_le_pow_right om om))
open Go.RowKit
theorem below_setRow {B:Nat} {w1:World} (h:Below B w w1) (hg:B<=g) (cs:Array Value):Below B w (w1.setRow g cs):=
 ⟨h.os,h.tape,h.output,by simpa using h.size,fun k hk=>(setRow_other w1 g k cs om).trans (h.block k hk)⟩
theorem infoRow:(Tryz.prog.info? 146).map (·.size)=some 128:=by kernel_rfl
def BitsAt (w:World) (n k:Nat) (wr:World):Prop:=
 wr.heap[w.heap.size+1+1]?=some (.cells (rowA fun j=>(decide (j<k)||(decide (64<=j)&&decide (j<64+k)))&&n.testBit j) 146 (0,0))/\
 wr.heap[w.heap.size+1]?=some (.cells (rowA fun _=>false) 146 (0,0))/\
 wr.heap[w.heap.size]?=some (.cells #[.int .u64 ((n/B/2 ^ k:Nat):Int), .int .u64 ((n%B/2 ^ k:Nat):Int)] 82 (0,0))/\Bl w wr
theorem BitsAt.cells (h:BitsAt w n k wr):
 wr.cell? ⟨w.heap.size,0,none⟩=some (.int .u64 ((n/B/2 ^ k:Nat):Int))/\wr.cell? ⟨w.heap.size,1,none⟩=some (.int .u64 ((n%B/2 ^ k:Nat):Int))/\
 (∀ j,wr.frozen? ⟨w.heap.size,j,none⟩=false)/\(∀ j,wr.frozen? ⟨w.heap.size+1+1,j,none⟩=false)/\
 (∀ j,j<128->∃b,wr.cell? ⟨w.heap.size+1+1,j,none⟩=some (.bool b)):=by
 obtain ⟨h1,h2,h3,h4⟩:=h;refine ⟨?_,?_,fun j=>?_,fun j=>?_,fun j hj=>?_⟩
 ·simp[World.cell?,h3]
 ·simp[World.cell?,h3]
 ·simp[World.frozen?,h3]
 ·simp[World.frozen?,h1]
 exact ⟨_,by rw[cell_of_row wr _ j _ _ _ h1];exact rowA_at _ j hj⟩
theorem setCell_row {i:Nat} (b:Bool) (h:w.heap[g]?=some (.cells (rowA f) t (0,0))):(w.setCell ⟨g,i,none⟩ (.bool b)).heap[g]?=some (.cells (rowA (put f i b)) t (0,0)):=by
 rw[heap_setCell_same w g i _ t _ h,rowA_put]
theorem testBit_div (n k:Nat):n.testBit k=(n/2 ^ k%2==1):=by
 rw[Nat.testBit_eq_decide_div_mod_eq];rfl
theorem testBit_high (k:Nat):n.testBit (64+k)=(n/B/2 ^ k%2==1):=by
 rw[testBit_div,Nat.pow_add, <-Nat.div_div_eq_div_mul,B_pow]
theorem testBit_low (k:Nat) (hk:k<64):n.testBit k=(n%B/2 ^ k%2==1):=by
 rw[<- testBit_div,B_pow,Nat.testBit_mod_two_pow];simp[hk]
theorem BitsAt.step {y:Nat} (hn:n<B*B) (hx:x=n/B/2 ^ k) (hy:y=n%B/2 ^ k) (hk:k<64) (h:BitsAt w n k wr):
 BitsAt w n (k+1) ((((wr.setCell ⟨w.heap.size+1+1,k,none⟩ (.bool ((y:Int).tmod 2==1))).setCell ⟨w.heap.size+1+1,64+k,none⟩ (.bool ((x:Int).tmod 2==1))).setCell ⟨w.heap.size,1,none⟩ (.int .u64 (IntKind.u64.wrap ((y:Int).tdiv 2)))).setCell ⟨w.heap.size,0,none⟩ (.int .u64 (IntKind.u64.wrap ((x:Int).tdiv 2)))):=by
 obtain ⟨h1,h2,h3,h4⟩:=h;have tm:∀z:Nat,(z:Int).tmod 2=((z%2:Nat):Int):=fun z=>by rw[Int.tmod_eq_emod_of_nonneg om];rfl
 have td:∀z:Nat,z<B->IntKind.u64.wrap ((z:Int).tdiv 2)=((z/2:Nat):Int):=fun z hz=>by
  rw[Int.tdiv_eq_ediv_of_nonneg om,show ((z:Int)/2)=((z/2:Nat):Int) from rfl,wrap_cast,Nat.mod_eq_of_lt om]
 have hxB:x<B:=by rw[hx];exact Nat.lt_of_le_of_lt (Nat.div_le_self _ _) (half_lt hn)
 have hyB:y<B:=by rw[hy];exact Nat.lt_of_le_of_lt (Nat.div_le_self _ _) (low_lt n)
 have ex:((x:Int).tmod 2==1)=n.testBit (64+k):=by
  rw[tm,testBit_high, <-hx,Bool.eq_iff_iff,beq_iff_eq,beq_iff_eq];omega
 have ey:((y:Int).tmod 2==1)=n.testBit k:=by
  rw[tm,testBit_low k hk, <-hy,Bool.eq_iff_iff,beq_iff_eq,beq_iff_eq];omega
 have dx:IntKind.u64.wrap ((x:Int).tdiv 2)=((n/B/2 ^ (k+1):Nat):Int):=by rw[td x hxB,Nat.pow_succ, <-Nat.div_div_eq_div_mul, <-hx]
 have dy:IntKind.u64.wrap ((y:Int).tdiv 2)=((n%B/2 ^ (k+1):Nat):Int):=by rw[td y hyB,Nat.pow_succ, <-Nat.div_div_eq_div_mul, <-hy]
 rw[ex,ey,dx,dy];refine ⟨?_,?_,?_,?_⟩
 ·rw[setCell_heap om,setCell_heap om,setCell_row _ (setCell_row _ h1)];congr 2;apply rowA_congr;intro j hj;simp only[put];by_cases e1:j=64+k
  ·subst e1;simp
  by_cases e2:j=k
  ·subst e2;rw[if_neg e1,if_pos rfl];simp
  rw[if_neg e1,if_neg e2];have a1:decide (j<k+1)=decide (j<k):=by simp;omega
  have a2:decide (j<64+(k+1))=decide (j<64+k):=by simp;omega
  rw[a1,a2]
 ·rw[setCell_heap om,setCell_heap om,setCell_heap om,setCell_heap om];exact h2
 ·have q:(((wr.setCell ⟨w.heap.size+1+1,k,none⟩ (.bool (n.testBit k))).setCell ⟨w.heap.size+1+1,64+k,none⟩ (.bool (n.testBit (64+k))))).heap[w.heap.size]?=some (.cells #[.int .u64 ((n/B/2 ^ k:Nat):Int), .int .u64 ((n%B/2 ^ k:Nat):Int)] 82 (0,0)):=by
   rw[setCell_heap om,setCell_heap om];exact h3
  have q1:=heap_setCell_same _ w.heap.size 1 _ _ (.int .u64 ((n%B/2 ^ (k+1):Nat):Int)) q;have q2:=heap_setCell_same _ w.heap.size 0 _ _ (.int .u64 ((n/B/2 ^ (k+1):Nat):Int)) q1;rw[q2];rfl
 exact (((h4.setCell (by show _<=w.heap.size+1+1;omega) _).setCell (by show _<=w.heap.size+1+1;omega) _).setCell lr _).setCell lr _
theorem refBits_any (n:Nat) (hn:n<B*B) (w:World):
 Calls Tryz.prog 71 #[numV n] w fun e w'=>e= .returned (.agg (rowA n.testBit))/\Bl w w':=by
 obtain ⟨hi,lo,he,hhi,hlo⟩:=numV_parts n;rw[he];have hi0:hi<B:=by rw[hhi];exact half_lt hn
 have lo0:lo<B:=by rw[hlo];exact low_lt n
 have HN:Hd (hi=n/B/\lo=n%B):=⟨hhi,hlo⟩;clear he hhi hlo;go_enter Tryz.func71,Tryz.ntmps71;go_wp2_with fail;obtain ⟨A,hA⟩:=nm (((w.alloc (.cells #[.int .u64 (hi:Int), .int .u64 (lo:Int)] 82)).alloc (.cells Tryz.zeroCells146 146)).alloc (.cells Tryz.zeroCells146 146));have ez:Tryz.zeroCells146=rowA fun _=>false:=by kernel_rfl
 have H0:Hd (BitsAt w n 0 A):=by
  show BitsAt w n 0 A;refine ⟨?_,?_,?_,by rw[hA];exact bL⟩
  ·rw[hA,ez];have:=heap_new ((w.alloc (.cells #[.int .u64 (hi:Int), .int .u64 (lo:Int)] 82)).alloc (.cells (rowA fun _=>false) 146)) (.cells (rowA fun _=>false) 146);simp only[World.size_alloc] at this;rw[this];congr 2;apply rowA_congr;intro i hi;simp;omega
  ·rw[hA,ez,Below.heap_alloc _ _ _ sm];exact hq2 _ _ _
  rw[hA,Below.heap_alloc _ _ _ (by simp;omega),Below.heap_alloc _ _ _ sm,heap_new,HN.o.1,HN.o.2];simp
 rw[<- hA];clear hA ez;go_loopw [4] (fun i wr=>∃k:Nat,k<=64/\i= .int .i64 k/\Hd (BitsAt w n k wr)) (fun i _=>64-(intOf i).toNat)
 case atStart=>exact ⟨0,zl,rfl,H0⟩
 case round=>
  obtain ⟨k,hk,rfl,HK⟩:=hrel;by_cases hlt:k<64
  ·obtain ⟨c0,c1,f0,f2,cr⟩:=HK.o.cells;obtain ⟨x,hx⟩:=nm (n/B/2 ^ k);obtain ⟨y,hy⟩:=nm (n%B/2 ^ k);rw[<- hx] at c0;rw[<- hy] at c1;have HX:=hD hx;have HY:=hD hy;clear hx hy;obtain ⟨b1,r1⟩:=cr k om;obtain ⟨b2,r2⟩:=cr (64+k) om;clear cr;have HS:=hD (BitsAt.step hn HX.o HY.o hlt HK.o);go_wp2_with fail;go_roundw
   case rel=>exact ⟨k+1,om,by go_num,HS⟩
   case measure=>exact mz
  obtain rfl:k=64:=om;obtain ⟨h1,h2,h3,h4⟩:=HK.o;have HB4:=hD h4;have e64:(rowA fun j=>(decide (j<64)||(decide (64<=j)&&decide (j<64+64)))&&n.testBit j)=rowA n.testBit:=by
   apply rowA_congr;intro j hj;by_cases e:j<64
   ·simp[e]
   have e1:decide (64<=j)=true:=by simp;omega
   have e2:decide (j<64+64)=true:=by simp;omega
   rw[e1,e2];simp
  rw[e64] at h1;clear e64 h3 h4 H0;go_wp2_with (first
   |(refine wpList_load_row rfl 146 (.tmp 3) rfl (w.heap.size+1+1) rfl 146 (rowA n.testBit) (0,0) _ h1 Tryz.underlying146 rfl (by rw[rowA_size];exact infoRow) ?_)
   |(refine wpList_store_row rfl 146 (.tmp 2) (.tmp 30) rfl (w.heap.size+1) (rowA n.testBit) rfl rfl 146 (rowA fun _=>false) h2 (by rw[rowA_size];exact infoRow) (by rw[rowA_size,rowA_size]) (rowA_one _) ?_))
  have hg:(wr.setRow (w.heap.size+1) (rowA n.testBit)).heap[w.heap.size+1]?=some (.cells (rowA n.testBit) 146 (0,0)):=setRow_heap _ _ _ _ _ _ h2;exact bodyPost_ret (v:= .agg (rowA n.testBit)) (results_cell_row Tryz.results71 _ _ (w.heap.size+1) _ _ _ _ (by simp[go_sem]) hg Tryz.underlying146 rfl (by rw[rowA_size];exact infoRow)) rfl ⟨rfl,below_setRow HB4.o om _⟩
theorem ofBits_low (g:Nat->Bool):∀k,ofBits g (k+1)=(if g 0 then 1 else 0)+2*ofBits (fun j=>g (j+1)) k
 |0=>by simp[ofBits]
 |k+1=>by
  rw[ofBits,ofBits_low g k,ofBits,Nat.pow_succ];split<;>split<;>omega
theorem ofBits_shift (f:Nat->Bool) (j c:Nat) (hj:j<64):ofBits (fun i=>f (c+j+i)) (64-j)=(if f (c+j) then 1 else 0)+2*ofBits (fun i=>f (c+(j+1)+i)) (64-(j+1)):=by
 have e:64-j=64-(j+1)+1:=om;rw[e,ofBits_low];have e2:(fun i=>f (c+j+(i+1)))=fun i=>f (c+(j+1)+i):=by
  funext i;rw[show c+j+(i+1)=c+(j+1)+i by omega]
 rw[e2];rfl
theorem ofBits_add (f:Nat->Bool) (a:Nat):∀b,ofBits f (a+b)=ofBits f a+2 ^ a*ofBits (fun j=>f (a+j)) b
 |0=>by simp[ofBits]
 |b+1=>by
  rw[show a+(b+1)=(a+b)+1 by omega,ofBits,ofBits_add f a b,ofBits,Nat.mul_add,Nat.pow_add];split<;>omega
def NumAt (w:World) (f:Nat->Bool) (m:Nat) (wr:World):Prop:=
 wr.heap[w.heap.size]?=some (.cells (rowA f) 146 (0,0))/\
 (∃ c0 c1,wr.heap[w.heap.size+1]?=some (.cells #[c0,c1] 82 (0,0)))/\
 wr.heap[w.heap.size+1+1]?=some (.cells #[.int .u64 ((ofBits (fun i=>f (64+m+i)) (64-m):Nat):Int), .int .u64 ((ofBits (fun i=>f (0+m+i)) (64-m):Nat):Int)] 82 (0,0))/\Bl w wr
theorem NumAt.cells {m:Nat} (h:NumAt w f m wr):
 wr.cell? ⟨w.heap.size+1+1,0,none⟩=some (.int .u64 ((ofBits (fun i=>f (64+m+i)) (64-m):Nat):Int))/\wr.cell? ⟨w.heap.size+1+1,1,none⟩=some (.int .u64 ((ofBits (fun i=>f (0+m+i)) (64-m):Nat):Int))/\
 (∀ j,wr.frozen? ⟨w.heap.size+1+1,j,none⟩=false)/\(∀ j,j<128->wr.cell? ⟨w.heap.size,j,none⟩=some (.bool (f j))):=by
 obtain ⟨h1,h2,h3,h4⟩:=h;refine ⟨?_,?_,fun j=>?_,fun j hj=>?_⟩
 ·simp[World.cell?,h3]
 ·simp[World.cell?,h3]
 ·simp[World.frozen?,h3]
 rw[cell_of_row wr _ j _ _ _ h1];exact rowA_at _ j hj
theorem wrap_two (b:Bool) (h:2*x+1<B):(if b then IntKind.u64.wrap (IntKind.u64.wrap ((x:Int)*2)+1) else IntKind.u64.wrap ((x:Int)*2))=(((if b then 1 else 0)+2*x:Nat):Int):=by
 have e1:IntKind.u64.wrap ((x:Int)*2)=((2*x:Nat):Int):=by
  rw[show ((x:Int)*2)=((2*x:Nat):Int) by omega,wrap_cast,Nat.mod_eq_of_lt om]
 cases b
 ·simp only[Bool.false_eq_true,if_false,Nat.zero_add];exact e1
 ·simp only[if_true];rw[e1,show ((2*x:Nat):Int)+1=((1+2*x:Nat):Int) by omega,wrap_cast,Nat.mod_eq_of_lt om]
theorem NumAt.step (hj:j<64) (h:NumAt w f (j+1) wr) (hw:∀k,k≠w.heap.size+1+1->w'.heap[k]?=wr.heap[k]?) (hb:Below w.heap.size wr w')
 (hn:w'.heap[w.heap.size+1+1]?=some (.cells #[.int .u64 (((if f (64+j) then 1 else 0)+2*ofBits (fun i=>f (64+(j+1)+i)) (64-(j+1)):Nat):Int), .int .u64 (((if f (0+j) then 1 else 0)+2*ofBits (fun i=>f (0+(j+1)+i)) (64-(j+1)):Nat):Int)] 82 (0,0))):
 NumAt w f j w':=by
 obtain ⟨h1,⟨c0,c1,h2⟩,h3,h4⟩:=h;refine ⟨(hw _ om).trans h1,⟨c0,c1,(hw _ om).trans h2⟩,?_,h4.trans hb⟩;rw[ofBits_shift f j 64 hj,ofBits_shift f j 0 hj];exact hn
theorem NumAt.fin {X Y:Nat} {b1 b2:Bool} {x y:Int} (hj:j<64) (h:NumAt w f (j+1) wr) (hX:X=ofBits (fun i=>f (64+(j+1)+i)) (64-(j+1))) (hY:Y=ofBits (fun i=>f (0+(j+1)+i)) (64-(j+1)))
 (hf1:f j=b1) (hf2:f (64+j)=b2) (hw:∀k,k≠w.heap.size+1+1->w'.heap[k]?=wr.heap[k]?) (hb:Below w.heap.size wr w')
 (hn:w'.heap[w.heap.size+1+1]?=some (.cells #[.int .u64 x, .int .u64 y] 82 (0,0)))
 (hx:x=if b2 then IntKind.u64.wrap (IntKind.u64.wrap ((X:Int)*2)+1) else IntKind.u64.wrap ((X:Int)*2)) (hy:y=if b1 then IntKind.u64.wrap (IntKind.u64.wrap ((Y:Int)*2)+1) else IntKind.u64.wrap ((Y:Int)*2)):
 Hd (NumAt w f j w'):=by
 have e64:2 ^ (64-(j+1))*2<=B:=by
  rw[B_pow, <-Nat.pow_succ];exact Nat.pow_le_pow_right om om
 have lX:2*X+1<B:=by have:=ofBits_lt (fun i=>f (64+(j+1)+i)) (64-(j+1));rw[hX];omega
 have lY:2*Y+1<B:=by have:=ofBits_lt (fun i=>f (0+(j+1)+i)) (64-(j+1));rw[hY];omega
 rw[wrap_two b2 lX, <-hf2,hX] at hx;rw[wrap_two b1 lY, <-hf1,hY] at hy;refine NumAt.step hj h hw hb ?_;rw[hn,hx,hy,Nat.zero_add j]
theorem refNum_any (f:Nat->Bool) (w:World):
 Calls Tryz.prog 113 #[.agg (rowA f)] w (RetNum w (ofBits f 128)):=by
 go_enter Tryz.func113,Tryz.ntmps113;go_wp2_with fail;obtain ⟨A,hA⟩:=nm (((w.alloc (.cells (rowA f) 146)).alloc (.cells #[.int .u64 0, .int .u64 0] 82)).alloc (.cells #[.int .u64 0, .int .u64 0] 82));have H0:Hd (NumAt w f 64 A):=by
  show NumAt w f 64 A;refine ⟨?_,⟨.int .u64 0, .int .u64 0,?_⟩,?_,by rw[hA];exact bL⟩
  ·rw[hA,Below.heap_alloc _ _ _ (by simp;omega),Below.heap_alloc _ _ _ sm,heap_new]
  ·rw[hA,Below.heap_alloc _ _ _ sm];exact hq2 _ _ _
  rw[hA];have:=heap_new ((w.alloc (.cells (rowA f) 146)).alloc (.cells #[.int .u64 0, .int .u64 0] 82)) (.cells #[.int .u64 0, .int .u64 0] 82);simp only[World.size_alloc] at this;rw[this];rfl
 rw[<- hA];clear hA;go_loopw [4] (fun i wr=>∃m:Nat,m<=64/\i= .int .i64 ((m:Int)-1)/\Hd (NumAt w f m wr)) (fun i _=>(intOf i+1).toNat)
 case atStart=>exact ⟨64,Nat.le_refl _,by go_num,H0⟩
 case round=>
  obtain ⟨m,hm,rfl,HK⟩:=hrel;cases m with
  |zero=>
   obtain ⟨h1,⟨c0,c1,h2⟩,h3,h4⟩:=HK.o;obtain ⟨d0,d1,-,-⟩:=HK.o.cells;have HB4:=hD h4;have hb2:wr.cell? ⟨w.heap.size+1,0,none⟩=some c0:=by simp[World.cell?,h2]
   have hb3:wr.cell? ⟨w.heap.size+1,1,none⟩=some c1:=by simp[World.cell?,h2]
   have hz2:∀j,wr.frozen? ⟨w.heap.size+1,j,none⟩=false:=fun j=>by simp[World.frozen?,h2]
   have HN:Hd (Value.agg #[.int .u64 ((ofBits (fun i=>f (64+0+i)) (64-0):Nat):Int), .int .u64 ((ofBits (fun i=>f (0+0+i)) (64-0):Nat):Int)]=numV (ofBits f 128)):=by
    show _=_;have e:=ofBits_add f 64 64;have l:=ofBits_lt f 64;have e1:(fun i=>f (0+0+i))=f:=by funext i;simp
    have e2:(fun i=>f (64+0+i))=fun i=>f (64+i):=by funext i;simp
    rw[e1,e2,show (128:Nat)=64+64 from rfl,e,numV_mk _ _ (by rw[B_pow];exact l),B_pow];congr 1;rw[Nat.mul_comm,Nat.add_comm]
   generalize ofBits (fun i=>f (64+0+i)) (64-0)=X at d0 HN;generalize ofBits (fun i=>f (0+0+i)) (64-0)=Y at d1 HN;clear h1 h3 h4 H0 HK;have H2:=hD h2;clear h2;go_wp2_with fail;have hg:=set_lo (.int .u64 (Y:Int)) (set_hi (.int .u64 (X:Int)) H2.o);exact bodyPost_ret (v:= .agg #[.int .u64 (X:Int), .int .u64 (Y:Int)]) (results_cell_row Tryz.results113 _ _ (w.heap.size+1) _ _ _ _ (by simp[go_sem]) hg Tryz.underlying82 rfl kq) rfl ⟨by rw[HN.o],(HB4.o.setCell sm _).setCell sm _⟩
  |succ j=>
   have hj:j<64:=om;have ej:(((j+1:Nat):Int)-1)=(j:Int):=om;rw[ej];clear ej;obtain ⟨d0,d1,fz,cr⟩:=HK.o.cells;have r1:=cr j om;have r2:=cr (64+j) om;clear cr;obtain ⟨X,hX⟩:=nm (ofBits (fun i=>f (64+(j+1)+i)) (64-(j+1)));obtain ⟨Y,hY⟩:=nm (ofBits (fun i=>f (0+(j+1)+i)) (64-(j+1)));rw[<- hX] at d0;rw[<- hY] at d1;have HX:=hD hX;have HY:=hD hY;clear hX hY;cases hf1:f j<;>cases hf2:f (64+j)
   ·rw[hf1] at r1;rw[hf2] at r2;have HF1:=hD hf1;have HF2:=hD hf2;have h3:=HK.o.2.2.1;rw[<- HX.o, <-HY.o] at h3;have H3:=hD h3;clear hf1 hf2 h3;go_wp2_with fail;go_roundw
    case rel=>
     refine ⟨j,om,rfl,?_⟩;refine NumAt.fin hj HK.o HX.o HY.o HF1.o HF2.o ?_ ?_ (set_hi _ (set_lo _ H3.o)) rfl rfl
     ·intro k hk;repeat rw[setCell_heap hk]
     exact bL
    case measure=>simp[intOf]
   ·rw[hf1] at r1;rw[hf2] at r2;have HF1:=hD hf1;have HF2:=hD hf2;have h3:=HK.o.2.2.1;rw[<- HX.o, <-HY.o] at h3;have H3:=hD h3;clear hf1 hf2 h3;go_wp2_with fail;go_roundw
    case rel=>
     refine ⟨j,om,rfl,?_⟩;refine NumAt.fin hj HK.o HX.o HY.o HF1.o HF2.o ?_ ?_ (set_hi _ (set_hi _ (set_lo _ H3.o))) rfl rfl
     ·intro k hk;repeat rw[setCell_heap hk]
     exact bL
    case measure=>simp[intOf]
   ·rw[hf1] at r1;rw[hf2] at r2;have HF1:=hD hf1;have HF2:=hD hf2;have h3:=HK.o.2.2.1;rw[<- HX.o, <-HY.o] at h3;have H3:=hD h3;clear hf1 hf2 h3;go_wp2_with fail;go_roundw
    case rel=>
     refine ⟨j,om,rfl,?_⟩;refine NumAt.fin hj HK.o HX.o HY.o HF1.o HF2.o ?_ ?_ (set_lo _ (set_hi _ (set_lo _ H3.o))) rfl rfl
     ·intro k hk;repeat rw[setCell_heap hk]
     exact bL
    case measure=>simp[intOf]
   ·rw[hf1] at r1;rw[hf2] at r2;have HF1:=hD hf1;have HF2:=hD hf2;have h3:=HK.o.2.2.1;rw[<- HX.o, <-HY.o] at h3;have H3:=hD h3;clear hf1 hf2 h3;go_wp2_with fail;go_roundw
    case rel=>
     refine ⟨j,om,rfl,?_⟩;refine NumAt.fin hj HK.o HX.o HY.o HF1.o HF2.o ?_ ?_ (set_hi _ (set_lo _ (set_hi _ (set_lo _ H3.o)))) rfl rfl
     ·intro k hk;repeat rw[setCell_heap hk]
     exact bL
    case measure=>simp[intOf]
open Go.RowKit
structure TwoI (A C:Value) (fa fb:Nat->Bool) (W0:World) (L:Array Bool) (v5 v6 v8 v9 v10 v11:Value) (w:World):Prop where
 below:Bl W0 w
 h0:did L 0=true->v8=A
 h1:did L 1=true->v9= .agg (rowA fa)
 h2:did L 2=true->v10=C
 h3:did L 3=true->v11= .agg (rowA fb)
 h4:did L 4=true->∃g,v5= .pointer (some ⟨g,0,none⟩)/\W0.heap.size<=g/\w.heap[g]?=some (.cells (rowA (if did L 6 then fa else fun _=>false)) 146 (0,0))
 h5:did L 5=true->∃g,v6= .pointer (some ⟨g,0,none⟩)/\W0.heap.size<=g/\w.heap[g]?=some (.cells (rowA (if did L 7 then fb else fun _=>false)) 146 (0,0))
 ne:did L 4=true->did L 5=true->v5≠v6
 l6:did L 6=true->did L 4=true
 l7:did L 7=true->did L 5=true
variable {A C:Value} {fa fb:Nat->Bool} {W0:World} {L:Array Bool} {v5 v6 v8 v9 v10 v11:Value} {w w':World}
theorem TwoI.init (h:did L=fun _=>false) (hb:Bl W0 w):TwoI A C fa fb W0 L v5 v6 v8 v9 v10 v11 w:=by
 constructor<;>first|exact hb|(intro h1;rw[h] at h1;cases h1)
theorem TwoI.below' (h:TwoI A C fa fb W0 L v5 v6 v8 v9 v10 v11 w) (hb:Bl w w'):TwoI A C fa fb W0 L v5 v6 v8 v9 v10 v11 w':=by
 obtain ⟨b,h0,h1,h2,h3,h4,h5,hn,h6,h7⟩:=h;refine ⟨b.trans (hb.mono b.size),h0,h1,h2,h3,fun hd=>?_,fun hd=>?_,hn,h6,h7⟩
 ·obtain ⟨g,e1,e2,e3⟩:=h4 hd;exact gS4
 obtain ⟨g,e1,e2,e3⟩:=h5 hd;exact gS4
theorem TwoI.s0 (hL:L.size=8) (h:TwoI A C fa fb W0 L v5 v6 v8 v9 v10 v11 w):TwoI A C fa fb W0 (L.setIfInBounds 0 true) v5 v6 A v9 v10 v11 w:=by
 obtain ⟨b,h0,h1,h2,h3,h4,h5,hn,h6,h7⟩:=h;constructor<;>(try simp only[did_set (show 0<L.size by omega)])<;>first|assumption|(intros;rfl)|(simp;done)|(simpa using ‹_›)
theorem TwoI.s1 (hL:L.size=8) (h:TwoI A C fa fb W0 L v5 v6 v8 v9 v10 v11 w):TwoI A C fa fb W0 (L.setIfInBounds 1 true) v5 v6 v8 (.agg (rowA fa)) v10 v11 w:=by
 obtain ⟨b,h0,h1,h2,h3,h4,h5,hn,h6,h7⟩:=h;constructor<;>(try simp only[did_set (show 1<L.size by omega)])<;>first|assumption|(intros;rfl)|(simp;done)|(simpa using ‹_›)
theorem TwoI.s2 (hL:L.size=8) (h:TwoI A C fa fb W0 L v5 v6 v8 v9 v10 v11 w):TwoI A C fa fb W0 (L.setIfInBounds 2 true) v5 v6 v8 v9 C v11 w:=by
 obtain ⟨b,h0,h1,h2,h3,h4,h5,hn,h6,h7⟩:=h;constructor<;>(try simp only[did_set (show 2<L.size by omega)])<;>first|assumption|(intros;rfl)|(simp;done)|(simpa using ‹_›)
theorem TwoI.s3 (hL:L.size=8) (h:TwoI A C fa fb W0 L v5 v6 v8 v9 v10 v11 w):TwoI A C fa fb W0 (L.setIfInBounds 3 true) v5 v6 v8 v9 v10 (.agg (rowA fb)) w:=by
 obtain ⟨b,h0,h1,h2,h3,h4,h5,hn,h6,h7⟩:=h;constructor<;>(try simp only[did_set (show 3<L.size by omega)])<;>first|assumption|(intros;rfl)|(simp;done)|(simpa using ‹_›)
theorem TwoI.s4 (hL:L.size=8) (h4n:did L 4=false) (h:TwoI A C fa fb W0 L v5 v6 v8 v9 v10 v11 w):
 TwoI A C fa fb W0 (L.setIfInBounds 4 true) (.pointer (some ⟨w.heap.size,0,none⟩)) v6 v8 v9 v10 v11 (w.alloc (.cells (rowA fun _=>false) 146)):=by
 have h':=h.below' ((Below.refl w.heap.size w).alloc lr (.cells (rowA fun _=>false) 146));obtain ⟨b,h0,h1,h2,h3,h4,h5,hn,h6,h7⟩:=h';have n6:did L 6=false:=by
  cases h:did L 6
  ·rfl
  ·rw[h6 h] at h4n;cases h4n
 have hsz:=h.below.size;constructor<;>try simp only[did_set (show 4<L.size by omega)]
 ·exact b
 ·simpa using h0
 ·simpa using h1
 ·simpa using h2
 ·simpa using h3
 ·intro _;refine ⟨w.heap.size,rfl,hsz,?_⟩;rw[heap_new,n6];rfl
 ·simpa using h5
 ·intro _ hd;obtain ⟨g,e1,e2,e3⟩:=h.h5 (by simpa using hd);rw[e1];intro e;simp at e;have:=lt_of_block e3;omega
 ·simp
 simpa using h7
theorem TwoI.s5 (hL:L.size=8) (h5n:did L 5=false) (h:TwoI A C fa fb W0 L v5 v6 v8 v9 v10 v11 w):
 TwoI A C fa fb W0 (L.setIfInBounds 5 true) v5 (.pointer (some ⟨w.heap.size,0,none⟩)) v8 v9 v10 v11 (w.alloc (.cells (rowA fun _=>false) 146)):=by
 have h':=h.below' ((Below.refl w.heap.size w).alloc lr (.cells (rowA fun _=>false) 146));obtain ⟨b,h0,h1,h2,h3,h4,h5,hn,h6,h7⟩:=h';have n7:did L 7=false:=by
  cases h:did L 7
  ·rfl
  ·rw[h7 h] at h5n;cases h5n
 have hsz:=h.below.size;constructor<;>try simp only[did_set (show 5<L.size by omega)]
 ·exact b
 ·simpa using h0
 ·simpa using h1
 ·simpa using h2
 ·simpa using h3
 ·simpa using h4
 ·intro _;refine ⟨w.heap.size,rfl,hsz,?_⟩;rw[heap_new,n7];rfl
 ·intro hd _;obtain ⟨g,e1,e2,e3⟩:=h.h4 (by simpa using hd);rw[e1];intro e;simp at e;have:=lt_of_block e3;omega
 ·simpa using h6
 simp
theorem TwoI.s6 (hL:L.size=8) (hd4:did L 4=true) (hg:v5= .pointer (some ⟨g,0,none⟩)) (h:TwoI A C fa fb W0 L v5 v6 v8 v9 v10 v11 w):
 TwoI A C fa fb W0 (L.setIfInBounds 6 true) v5 v6 v8 v9 v10 v11 (w.setRow g (rowA fa)):=by
 obtain ⟨b,h0,h1,h2,h3,h4,h5,hn,h6,h7⟩:=h;obtain ⟨g',e1,e2,e3⟩:=h4 hd4;rw[hg] at e1;simp at e1;subst e1;constructor<;>try simp only[did_set (show 6<L.size by omega)]
 ·exact below_setRow b e2 _
 ·simpa using h0
 ·simpa using h1
 ·simpa using h2
 ·simpa using h3
 ·intro _;exact ⟨g,hg,e2,by rw[setRow_heap _ _ _ _ _ _ e3];simp⟩
 ·intro hd;have hd5:did L 5=true:=by simpa using hd
  obtain ⟨k,k1,k2,k3⟩:=h5 hd5;refine ⟨k,k1,k2,?_⟩;rw[setRow_other]
  ·simpa using k3
  rintro rfl;exact hn hd4 hd5 (by rw[hg,k1])
 ·simpa using hn
 ·simpa using hd4
 simpa using h7
theorem TwoI.s7 (hL:L.size=8) (hd5:did L 5=true) (hg:v6= .pointer (some ⟨g,0,none⟩)) (h:TwoI A C fa fb W0 L v5 v6 v8 v9 v10 v11 w):
 TwoI A C fa fb W0 (L.setIfInBounds 7 true) v5 v6 v8 v9 v10 v11 (w.setRow g (rowA fb)):=by
 obtain ⟨b,h0,h1,h2,h3,h4,h5,hn,h6,h7⟩:=h;obtain ⟨g',e1,e2,e3⟩:=h5 hd5;rw[hg] at e1;simp at e1;subst e1;constructor<;>try simp only[did_set (show 7<L.size by omega)]
 ·exact below_setRow b e2 _
 ·simpa using h0
 ·simpa using h1
 ·simpa using h2
 ·simpa using h3
 ·intro hd;have hd4:did L 4=true:=by simpa using hd
  obtain ⟨k,k1,k2,k3⟩:=h4 hd4;refine ⟨k,k1,k2,?_⟩;rw[setRow_other]
  ·simpa using k3
  rintro rfl;exact hn hd4 hd5 (by rw[hg,k1])
 ·intro _;exact ⟨g,hg,e2,by rw[setRow_heap _ _ _ _ _ _ e3];simp⟩
 ·simpa using hn
 ·simpa using h6
 simpa using hd5
theorem TwoI.all (hall:∀i,i<8->did L i=true) (h:TwoI A C fa fb W0 L v5 v6 v8 v9 v10 v11 w):
 v8=A/\v9= .agg (rowA fa)/\v10=C/\v11= .agg (rowA fb)/\∃x y,x≠y/\v5= .pointer (some ⟨x,0,none⟩)/\v6= .pointer (some ⟨y,0,none⟩)/\W0.heap.size<=x/\W0.heap.size<=y/\
  w.heap[x]?=some (.cells (rowA fa) 146 (0,0))/\w.heap[y]?=some (.cells (rowA fb) 146 (0,0))/\Bl W0 w:=by
 obtain ⟨b,h0,h1,h2,h3,h4,h5,hn,h6,h7⟩:=h;obtain ⟨x,x1,x2,x3⟩:=h4 (hall 4 om);obtain ⟨y,y1,y2,y3⟩:=h5 (hall 5 om);rw[hall 6 om] at x3;rw[hall 7 om] at y3;refine ⟨h0 (hall 0 om),h1 (hall 1 om),h2 (hall 2 om),h3 (hall 3 om),x,y,?_,x1,y1,x2,y2,by simpa using x3,by simpa using y3,b⟩;rintro rfl;exact hn (hall 4 om) (hall 5 om) (by rw[x1,y1])
theorem store_wanted {o:Oper} {a:Act} {K:Act->World->Prop} {E:Prop} (hgd:o.guard=none) (h:Oper.wp P o a w K Q):
 if Region.wanted o (yielded ops a.tmps)=true then Oper.wp P o a w K Q else E:=by
 rw[if_pos (by simp[Region.wanted,hgd])];exact h
theorem BB_pow2:B*B=2 ^ 128:=by rw[B_pow, <-Nat.pow_add]
def OpAt (op:Bool->Bool->Bool) (fa fb:Nat->Bool) (w:World) (gx gy k:Nat) (wr:World):Prop:=
 wr.heap[gx]?=some (.cells (rowA fun i=>if i<k then op (fa i) (fb i) else fa i) 146 (0,0))/\wr.heap[gy]?=some (.cells (rowA fb) 146 (0,0))/\
 (∃ c0 c1,wr.heap[w.heap.size+1+1]?=some (.cells #[c0,c1] 82 (0,0)))/\Bl w wr
theorem OpAt.cells (h:OpAt op fa fb w gx gy k wr) (hk:k<128):
 wr.cell? ⟨gx,k,none⟩=some (.bool (fa k))/\wr.cell? ⟨gy,k,none⟩=some (.bool (fb k))/\wr.frozen? ⟨gx,k,none⟩=false:=by
 obtain ⟨h1,h2,h3,h4⟩:=h;refine ⟨?_,?_,?_⟩
 ·rw[cell_of_row wr _ k _ _ _ h1,rowA_at _ k hk];simp
 ·rw[cell_of_row wr _ k _ _ _ h2,rowA_at _ k hk]
 simp[World.frozen?,h1]
theorem OpAt.step (h:OpAt op fa fb w gx gy k wr) (_hk:k<128) (hn:gx≠gy) (hx:w.heap.size+1+1<gx) (hc:op (fa k) (fb k)=c):
 Hd (OpAt op fa fb w gx gy (k+1) (wr.setCell ⟨gx,k,none⟩ (.bool c))):=by
 obtain ⟨h1,h2,⟨c0,c1,h3⟩,h4⟩:=h;refine ⟨?_,?_,⟨c0,c1,?_⟩,h4.setCell (by show w.heap.size<=gx;omega) _⟩
 ·exact gK2
 ·rw[setCell_heap (fun e=>hn e.symm)];exact h2
 rw[setCell_heap om];exact h3
open Go.RowKit
def InAt (g f:Nat->Bool) (w:World) (gx N k:Nat) (wr:World):Prop:=
 wr.heap[gx]?=some (.cells (rowA fun i=>if i<k then g i else f i) 146 (0,0))/\
 (∃ c0 c1,wr.heap[N]?=some (.cells #[c0,c1] 82 (0,0)))/\Bl w wr
theorem InAt.cells {g:Nat->Bool} (h:InAt g f w gx N k wr) (hk:k<128):
 wr.cell? ⟨gx,k,none⟩=some (.bool (f k))/\wr.frozen? ⟨gx,k,none⟩=false:=by
 obtain ⟨h1,h2,h3⟩:=h;refine ⟨?_,?_⟩
 ·rw[cell_of_row wr _ k _ _ _ h1,rowA_at _ k hk];simp
 simp[World.frozen?,h1]
theorem InAt.step {g:Nat->Bool} (h:InAt g f w gx N k wr) (hn:N≠gx) (hx:w.heap.size<=gx) (hc:g k=c):
 Hd (InAt g f w gx N (k+1) (wr.setCell ⟨gx,k,none⟩ (.bool c))):=by
 obtain ⟨h1,⟨c0,c1,h2⟩,h3⟩:=h;refine ⟨?_,⟨c0,c1,?_⟩,h3.setCell (by show w.heap.size<=gx;omega) _⟩
 ·exact gK2
 rw[setCell_heap hn];exact h2
theorem InAt.done {g:Nat->Bool} (h:InAt g f w gx N 128 wr):
 wr.heap[gx]?=some (.cells (rowA g) 146 (0,0))/\(∃ c0 c1,wr.heap[N]?=some (.cells #[c0,c1] 82 (0,0)))/\Bl w wr:=by
 obtain ⟨h1,h2,h3⟩:=h;refine ⟨?_,h2,h3⟩;rw[h1];congr 2;exact rowA_congr fun i hi=>by rw[if_pos hi]
theorem sh_bit (k:Int) (i:Nat) (hi:i<128):decide (i<sh k)=decide ((i:Int)<k):=by
 unfold sh;simp only[decide_eq_decide];omega
theorem refCut_any (n:Nat) (c:Int) (hn:n<B*B) (w:World):
 Calls Tryz.prog 102 #[numV n, .int .i64 c] w (RetNum w (n%2 ^ sh c)):=by
 obtain ⟨f,hf⟩:=nm n.testBit;have HA:Hd (∀ W,CR 71 #[numV n] W (.agg (rowA f))):=fun W=>by rw[hf];exact refBits_any n hn W
 have HF:=hD hf;obtain ⟨h1,l1,e1,-,-⟩:=numV_parts n;rw[e1] at HA⊢;clear e1 hf;go_enter Tryz.func102,Tryz.ntmps102;go_wp2_with fail;refine (HA.o _).mono ?_;rintro e w1 ⟨rfl,hb1⟩;obtain ⟨W0,hW0⟩:=nm ((w.alloc (.cells #[.int .u64 (h1:Int), .int .u64 (l1:Int)] 82)).alloc (.cells #[.int .u64 0, .int .u64 0] 82));have hbW:Bl w W0:=by rw[hW0];exact bL
 have z1:w.heap.size+1<W0.heap.size:=by rw[hW0];simp
 have cr:W0.heap[w.heap.size+1]?=some (.cells #[.int .u64 0, .int .u64 0] 82 (0,0)):=by
  rw[hW0];exact hq2 _ _ _
 rw[<- hW0] at hb1;have hs1:=hb1.size;have cr1:=(hb1.block _ z1).trans cr;have HB1:=hD (hbW.trans (hb1.mono hbW.size));clear hb1 hW0 hbW cr;have hZ:Tryz.zeroCells146=rowA fun _=>false:=by kernel_rfl
 have hnew:=heap_new w1 (.cells Tryz.zeroCells146 146);have HZS:Hd ((Tryz.zeroCells146).size=128):=by show _=_;rw[hZ];exact rowA_size _
 have hset:=setRow_heap _ _ _ (rowA f) _ _ hnew;have HNW:=hD hnew;have HST:=hD hset;clear hZ hnew hset;go_wp2_with (refine wpList_store_row rfl 146 (.tmp 5) (.tmp 8) rfl w1.heap.size (rowA f) rfl rfl 146 _ HNW.o (by rw[rowA_size];exact infoRow) (by rw[rowA_size];exact HZS.o) (rowA_one _) ?_);obtain ⟨g,hg⟩:∃g:Nat->Bool,g=fun i=>f i&&decide ((i:Int)<c):=⟨_,rfl⟩
 have HG:Hd (∀ i,g i=(f i&&decide ((i:Int)<c))):=fun i=>by rw[hg]
 have H0:Hd (InAt g f w w1.heap.size (w.heap.size+1) 0 ((w1.alloc (.cells Tryz.zeroCells146 146)).setRow w1.heap.size (rowA f))):=
  ⟨by rw[HST.o];congr 2,⟨_,_,by rw[setRow_other _ _ _ _ om,Below.heap_alloc _ _ _ om];exact cr1⟩,below_setRow (HB1.o.alloc om _) om _⟩
 have HE:Hd (ofBits g 128=n%2 ^ sh c):=by
  show _=_;refine ofBits_eq (by rw[<- BB_pow2];exact Nat.lt_of_le_of_lt (Nat.mod_le _ _) hn) fun i hi=>?_
  rw[HG.o,HF.o,Nat.testBit_mod_two_pow,sh_bit c i hi,Bool.and_comm]
 clear hg HST HNW HZS HB1 cr1 HA;generalize (w1.alloc (.cells Tryz.zeroCells146 146)).setRow w1.heap.size (rowA f)=W2 at*;go_loopw [6] (fun i wr=>∃k:Nat,k<=128/\i= .int .i64 k/\Hd (InAt g f w w1.heap.size (w.heap.size+1) k wr)) (fun i _=>128-(intOf i).toNat)
 case atStart=>exact ⟨0,zl,rfl,H0⟩
 case round=>
  obtain ⟨k,hk,rfl,HK⟩:=hrel;by_cases hlt:k<128
  ·obtain ⟨r1,r2⟩:=HK.o.cells hlt;by_cases hc:(k:Int)<c<;>cases hf1:f k
   all_goals
    rw[hf1] at r1;have HGK:Hd (g k=(f k&&decide ((k:Int)<c))):=HG.o k;have HF1:=hD hf1;have HC:=hD hc;clear hf1;go_wp2_with fail;go_roundw
    case rel=>exact ⟨k+1,om,by go_num,HK.o.step om om (by rw[HGK.o,HF1.o];simp[HC.o])⟩
    case measure=>exact mz
  obtain rfl:k=128:=om;obtain ⟨r1,⟨x0,x1,r3⟩,r4⟩:=HK.o.done;have HNUM:Hd (∀ W,Calls Tryz.prog 113 #[.agg (rowA g)] W (RetNum W (n%2 ^ sh c))):=fun W=>by rw[<- HE.o];exact refNum_any _ W
  have HB4:=hD r4;have H3:=hD r3;clear r3 r4 HE HK H0 HG;have hRR:(rowA g).size=128:=rowA_size _;generalize rowA g=RR at r1 HNUM hRR;go_wp2_with (first
   |(refine wpList_load_row rfl 146 (.tmp 5) rfl w1.heap.size rfl 146 RR (0,0) _ r1 Tryz.underlying146 rfl (by rw[hRR];exact infoRow) ?_))
  clear r1;obtain ⟨h3,l3,e3,-,-⟩:=numV_parts (n%2 ^ sh c);have HE3:=hD e3;have HNUM2:Hd (∀ W,CR 113 #[.agg RR] W (.agg #[.int .u64 (h3:Int), .int .u64 (l3:Int)])):=fun W=>by rw[<- HE3.o];exact HNUM.o W
  clear HNUM e3;refine (HNUM2.o _).mono ?_;rintro e w3 ⟨rfl,hb1⟩;have hr:=(hb1.block (w.heap.size+1) (lt_of_block H3.o)).trans H3.o;have q0:w3.cell? ⟨w.heap.size+1,0,none⟩=some x0:=by simp[World.cell?,hr]
  have q1:w3.cell? ⟨w.heap.size+1,1,none⟩=some x1:=by simp[World.cell?,hr]
  have qz:∀j,w3.frozen? ⟨w.heap.size+1,j,none⟩=false:=fun j=>by simp[World.frozen?,hr]
  have HR:=hD hr;have HB5:=hD (HB4.o.trans (hb1.mono HB4.o.size));clear hr hb1;go_wp2_with fail;have hg:=set_lo (.int .u64 (l3:Int)) (set_hi (.int .u64 (h3:Int)) HR.o);exact bodyPost_ret (v:= .agg #[.int .u64 (h3:Int), .int .u64 (l3:Int)]) (results_cell_row Tryz.results102 _ _ (w.heap.size+1) _ _ _ _ (by simp[go_sem]) hg Tryz.underlying82 rfl kq) rfl ⟨by rw[HE3.o],(HB5.o.setCell (by show w.heap.size<=w.heap.size+1;omega) _).setCell (by show w.heap.size<=w.heap.size+1;omega) _⟩
end Go.Proofs.YtikilcbpogfgkaaGreat
