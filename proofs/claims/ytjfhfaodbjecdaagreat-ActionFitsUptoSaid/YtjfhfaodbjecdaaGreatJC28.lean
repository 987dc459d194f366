/-
  Lemmas, joined: Pop, Leaf, Clos, ActA.
-/
import Derived.Test.YtjfhfaodbjecdaaGreatJC27
import Derived.Test.YtjfhfaodbjecdaaGreatJC25
set_option maxHeartbeats 2000000
set_option maxRecDepth 100000
namespace Go.Proofs.YtjfhfaodbjecdaaGreat
open Go.RowKit Go.Maps
def sized3 (p:Nat×Int):List Value:=[.int .u64 ((p.1/B:Nat):Int), .int .u64 ((p.1%B:Nat):Int), .int .i64 p.2]
def stkCells (st:List (Nat×Int)):List Value:=st.flatMap sized3
theorem stkCells_snoc (st:List (Nat×Int)) (p:Nat×Int):stkCells (st++[p])=stkCells st++sized3 p:=by simp[stkCells]
theorem stkCells_length (st:List (Nat×Int)):(stkCells st).length=st.length*3:=by
 induction st with
 |nil=>rfl
 |cons p st ih=>simp only[stkCells,List.flatMap_cons,List.length_append,List.length_cons] at ih⊢;rw[ih];simp[sized3];omega
def Stk (w:World) (n0 m:Nat) (x:Value×Value) (st:List (Nat×Int)):Prop:=
 ∃v,w.heap[m]?=some (.cells #[x.1,x.2,v] 102 (0,0))/\w.ownsRow n0 105 3 v st.length (stkCells st)/\v.ownBlock≠some m/\n0<=m/\st.length<=100000
theorem Stk.below {w w':World} {n0 m:Nat} {x:Value×Value} {st:List (Nat×Int)} (h:Stk w n0 m x st) (hb:Below w.heap.size w w'):Stk w' n0 m x st:=by
 obtain ⟨v,h1,h2,h3,h4,h5⟩:=h;refine ⟨v,(hb.block m ?_).trans h1,own_below h2 hb,h3,h4,h5⟩;exact (Array.getElem?_eq_some_iff.1 h1).1
theorem own_cut {w:World} {n0 e n k:Nat} {g cap:Nat} {xs ys:List Value} (h:w.ownsRow n0 e k (.slice (some ⟨g,0,none⟩) (n+1) cap) (n+1) (xs++ys)) (hx:xs.length=n*k):w.ownsRow n0 e k (.slice (some ⟨g,0,none⟩) n cap) n xs:=by
 obtain ⟨hl,h|⟨g',cap',cur,h1,h2,h3,h4,h5,h6,h7⟩⟩:=h
 ·exact absurd h.2 (by omega)
 ·simp only[Value.slice.injEq,Option.some.injEq,Addr.mk.injEq,and_true,true_and] at h1;obtain ⟨rfl,rfl⟩:=h1;refine ⟨hx, .inr ⟨g,cap,cur,rfl,h2,h3,by omega,h5,h6,?_⟩⟩;have:cur.toList.take (n*k)=(cur.toList.take ((n+1)*k)).take (n*k):=by rw[List.take_take];congr 1;rw[Nat.add_mul];omega
  rw[this,h7,List.take_append_of_le_length (by omega),List.take_of_length_le (by omega)]
theorem own_cell {w:World} {n0 e n k:Nat} {g cap:Nat} {xs:List Value} (h:w.ownsRow n0 e k (.slice (some ⟨g,0,none⟩) n cap) n xs) {i:Nat} {v:Value} (hv:xs[i]?=some v):w.cell? ⟨g,i,none⟩=some v:=by
 obtain ⟨hl,h|⟨g',cap',cur,h1,h2,h3,h4,h5,h6,h7⟩⟩:=h
 ·simp at h
 ·simp only[Value.slice.injEq,Option.some.injEq,Addr.mk.injEq,and_true,true_and] at h1;obtain ⟨rfl,rfl⟩:=h1;rw[<- h7] at hv;have hi:i<n*k:=by
   have:=(List.getElem?_eq_some_iff.1 hv).1;simp at this;omega
  rw[List.getElem?_take_of_lt hi] at hv;simp only[World.cell?,h3];simpa using hv
def Apart (m:Nat) (w w':World):Prop:=(∀ k,k<w.heap.size->k≠m->w'.heap[k]?=w.heap[k]?)/\w.heap.size<=w'.heap.size
theorem Apart.cell {m:Nat} {w w':World} (h:Apart m w w') {p:Addr} {v:Value} (hp:p.block≠m) (hc:w.cell? p=some v):w'.cell? p=some v:=by
 have:=h.1 p.block (cell_there hc).1 hp;simpa [World.cell?,this] using hc
theorem Apart.frozen {m:Nat} {w w':World} (h:Apart m w w') {p:Addr} {v:Value} (hp:p.block≠m) (hc:w.cell? p=some v):w'.frozen? p=w.frozen? p:=by
 have:=h.1 p.block (cell_there hc).1 hp;simp[World.frozen?,this]
theorem heap_setCell3 {w:World} {m:Nat} {a b c v:Value} {t:TypeId} (h:w.heap[m]?=some (.cells #[a,b,c] t (0,0))):(w.setCell ⟨m,2,none⟩ v).heap[m]?=some (.cells #[a,b,v] t (0,0)):=
 heap_setCell_same w m 2 _ t v h
theorem pop_any (n0 m:Nat) (x:Value×Value) (st:List (Nat×Int)) (a:Nat) (k:Int) (w:World) (h:Stk w n0 m x (st++[(a,k)])):
 Calls Tryz.prog 42 #[.pointer (some ⟨m,0,none⟩)] w fun e w'=>e= .returned (.agg #[.int .u64 ((a/B:Nat):Int), .int .u64 ((a%B:Nat):Int), .int .i64 k])/\Stk w' n0 m x st/\Below n0 w w'/\Apart m w w':=by
 obtain ⟨v,h1,h2,h3,h4,h5⟩:=h;have hn0:n0<=w.heap.size:=Nat.le_of_lt (Nat.lt_of_le_of_lt h4 (Array.getElem?_eq_some_iff.1 h1).1);rw[List.length_append,List.length_singleton] at h2 h5;have hx:=stkCells_length st;rw[stkCells_snoc] at h2;obtain ⟨g,cap,rfl,hcap⟩:∃g cap,v= .slice (some ⟨g,0,none⟩) (st.length+1) cap/\st.length+1<=cap:=by
  obtain ⟨-,q|⟨g,cap,cur,q1,-,-,q2,-⟩⟩:=h2
  ·exact absurd q.2 (by omega)
  ·exact ⟨g,cap,q1,q2⟩
 have c2:w.cell? ⟨m,2,none⟩=some (.slice (some ⟨g,0,none⟩) (st.length+1) cap):=by simp[World.cell?,h1]
 have f2:w.frozen? ⟨m,2,none⟩=false:=by simp[World.frozen?,h1]
 have e0:w.cell? ⟨g,st.length*3,none⟩=some (.int .u64 ((a/B:Nat):Int)):=own_cell h2 (by rw[List.getElem?_append_right (by omega),hx,Nat.sub_self];rfl);have e1:w.cell? ⟨g,st.length*3+1,none⟩=some (.int .u64 ((a%B:Nat):Int)):=own_cell h2 (by rw[List.getElem?_append_right (by omega),hx,Nat.add_sub_cancel_left];rfl);have e2:w.cell? ⟨g,st.length*3+2,none⟩=some (.int .i64 k):=own_cell h2 (by rw[List.getElem?_append_right (by omega),hx,Nat.add_sub_cancel_left];rfl);have hgm:g≠m:=fun e=>h3 (by rw[e];rfl)
 have hml:m<w.heap.size:=(Array.getElem?_eq_some_iff.1 h1).1;have hgl:g<w.heap.size:=(cell_there e0).1;have HE:Hid (∀ W:World,(∀ k,k<w.heap.size->W.heap[k]?=w.heap[k]?)->Stk (W.setCell ⟨m,2,none⟩ (.slice (some ⟨g,0,none⟩) st.length cap)) n0 m x st):=by
  intro W hW;refine ⟨.slice (some ⟨g,0,none⟩) st.length cap,heap_setCell3 ((hW m hml).trans h1),?_,h3,h4,by omega⟩;obtain ⟨q0,q|⟨g',cap',cur,q1,q2,q3,q4⟩⟩:=own_cut h2 hx
  ·exact absurd q.1 (by simp)
  ·simp only[Value.slice.injEq,Option.some.injEq,Addr.mk.injEq,and_true,true_and] at q1;obtain ⟨rfl,rfl⟩:=q1;exact ⟨q0, .inr ⟨g,cap,cur,rfl,q2,by rw[setCell_heap hgm];exact (hW g (Array.getElem?_eq_some_iff.1 q3).1).trans q3,q4⟩⟩
 clear h1 h2 h3 hx;generalize st.length=N at*;generalize ((a/B:Nat):Int)=A1 at*;generalize ((a%B:Nat):Int)=A2 at*;have HM4:=hD h4;have HN0:=hD hn0;clear h4 hn0;go_enter Tryz.func42,Tryz.ntmps42;go_wp2_with fail;go_region
 all_goals go_wp2_with fail
 go_region
 all_goals go_wp2_with fail
 have hS:=HE.out w fun k _=>rfl
 have hb:Below (w.setCell ⟨m,2,none⟩ (.slice (some ⟨g,0,none⟩) N cap)).heap.size (w.setCell ⟨m,2,none⟩ (.slice (some ⟨g,0,none⟩) N cap)) (((((w.setCell ⟨m,2,none⟩ (.slice (some ⟨g,0,none⟩) N cap)).alloc (.cells #[.int .u64 A1, .int .u64 A2, .int .i64 k] 105)).alloc (.cells #[.int .u64 A1, .int .u64 A2, .int .i64 k] 105)).drew).drew):=
  below_drewN (below_drewN (((Below.refl _ _).alloc (Nat.le_refl _) _).alloc (by simp) _) 1) 1
 have hs:(w.setCell ⟨m,2,none⟩ (.slice (some ⟨g,0,none⟩) N cap)).heap.size=w.heap.size:=by simp
 have hb0:Below n0 w (w.setCell ⟨m,2,none⟩ (.slice (some ⟨g,0,none⟩) N cap)):=(Below.refl _ _).setCell (by exact HM4.out) _;exact bodyPost_ret (v:= .agg #[.int .u64 A1, .int .u64 A2, .int .i64 k]) (by simp[results,Tryz.results42,go_sem]) rfl ⟨rfl,hS.below hb,hb0.trans (hb.mono (by rw[hs];exact HN0.out)),⟨fun k hk hne=>(hb.block k (by rw[hs];exact hk)).trans (setCell_heap hne),by have:=hb.size;rw[hs] at this;exact this⟩⟩
open Go.RowKit Go.Maps
def nodeV (op c1 c2 c3 c4 c5:Int):Value:= .agg #[.int .u8 op, .int .i64 c1, .int .i64 c2, .int .i64 c3, .int .u64 c4, .int .u64 c5]
theorem leaf_const (m:Nat) (c1 c2 c3 c4 c5:Int) (w:World):
 Calls Tryz.prog 66 #[.pointer (some ⟨m,0,none⟩),nodeV 1 c1 c2 c3 c4 c5] w fun e w'=>e= .returned (.tuple #[.agg #[.int .u64 c4, .int .u64 c5], .bool true])/\Below w.heap.size w w':=by
 unfold nodeV;go_enter Tryz.func66,Tryz.ntmps66;go_wp2_with fail;exact bodyPost_ret (v:= .tuple #[.agg #[.int .u64 c4, .int .u64 c5], .bool true]) (by simp[results,Tryz.results66,go_sem]) rfl ⟨rfl,(by repeat (first|exact Below.refl _ _|assumption|refine Below.drew ?_|refine blA ?_|refine blS ?_|refine blT ?_ (by assumption)))⟩
theorem leaf_none (m:Nat) (op c1 c2 c3 c4 c5:Int) (w:World) (h1:6<op):
 Calls Tryz.prog 66 #[.pointer (some ⟨m,0,none⟩),nodeV op c1 c2 c3 c4 c5] w fun e w'=>e= .returned (.tuple #[.agg #[.int .u64 0, .int .u64 0], .bool false])/\Below w.heap.size w w':=by
 unfold nodeV;have n1:¬op=1:=by omega
 have n2:¬op=2:=by omega
 have n3:¬op=3:=by omega
 have n4:¬op=4:=by omega
 have n5:¬op=5:=by omega
 have n6:¬op=6:=by omega
 clear h1;go_enter Tryz.func66,Tryz.ntmps66;go_wp2_with fail;exact bodyPost_ret (v:= .tuple #[.agg #[.int .u64 0, .int .u64 0], .bool false]) (by simp[results,Tryz.results66,go_sem]) rfl ⟨rfl,(by repeat (first|exact Below.refl _ _|assumption|refine Below.drew ?_|refine blA ?_|refine blS ?_|refine blT ?_ (by assumption)))⟩
open Go.RowKit Go.Maps
def szV (n:Nat) (k:Int):Value:= .agg #[.int .u64 ((n/B:Nat):Int), .int .u64 ((n%B:Nat):Int), .int .i64 k]
def oneN (b:Bool):Nat:=if b then 1 else 0
def NodeAt (w:World) (g:Nat) (op c1 c2 c3 c4 c5:Int):Prop:=w.heap[g]?=some (.cells #[.int .u8 op, .int .i64 c1, .int .i64 c2, .int .i64 c3, .int .u64 c4, .int .u64 c5] 65 (0,0))
theorem NodeAt.below {w w':World} {g:Nat} {op c1 c2 c3 c4 c5:Int} (h:NodeAt w g op c1 c2 c3 c4 c5) (hb:Below w.heap.size w w'):NodeAt w' g op c1 c2 c3 c4 c5:=(hb.block g (Array.getElem?_eq_some_iff.1 h).1).trans h
theorem one_any (b:Bool) (w:World):Calls Tryz.prog 92 #[.bool b] w (RetNum w (oneN b)):=by
 have H1:Hid (∀ W,Calls Tryz.prog 91 #[.int .u64 1] W fun e w'=>e= .returned (.agg #[.int .u64 0, .int .u64 1])/\Below W.heap.size W w'):=fun W=>numOf_any 1 (by unfold B;omega) W
 cases b
 ·go_enter Tryz.func92,Tryz.ntmps92;go_wp2_with fail;exact bodyPost_ret (v:= .agg #[.int .u64 0, .int .u64 0]) (by simp[results,Tryz.results92,go_sem]) rfl ⟨rfl,(by repeat (first|exact Below.refl _ _|assumption|refine Below.drew ?_|refine blA ?_|refine blS ?_|refine blT ?_ (by assumption)))⟩
 ·go_enter Tryz.func92,Tryz.ntmps92;go_wp2_with (go_at_call 91;refine (H1.out _).mono ?_;rintro e w1 ⟨rfl,hb⟩;obtain ⟨hc,hf⟩:=bcell hb;have hz:=hb.size;simp at hz);exact bodyPost_ret (v:= .agg #[.int .u64 0, .int .u64 1]) (by simp[results,Tryz.results92,go_sem,hc,hf,hz]) rfl ⟨rfl,(by repeat (first|exact Below.refl _ _|assumption|refine Below.drew ?_|refine blA ?_|refine blS ?_|refine blT ?_ (by assumption)))⟩
theorem clos_not (g:Nat) (op c1 c2 c3 c4 c5:Int) (a:Nat) (k:Int) (w:World) (ha:a<B*B) (hg:NodeAt w g op c1 c2 c3 c4 c5):
 Calls Tryz.prog 93 #[szV a k, .pointer (some ⟨g,0,none⟩)] w (RetNum w ((a%2 ^ sh c1) ^^^ (2 ^ sh c1-1))):=by
 have HC:Hid (∀ W,Calls Tryz.prog 94 #[numV a, .int .i64 c1] W (RetNum W ((a%2 ^ sh c1) ^^^ (2 ^ sh c1-1)))):=fun W=>numNot_any a c1 W ha
 unfold NodeAt at hg;have hgl:g<w.heap.size:=(Array.getElem?_eq_some_iff.1 hg).1;have q1:w.cell? ⟨g,1,none⟩=some (.int .i64 c1):=by simp[World.cell?,hg]
 have q2:w.cell? ⟨g,2,none⟩=some (.int .i64 c2):=by simp[World.cell?,hg]
 have q3:w.cell? ⟨g,3,none⟩=some (.int .i64 c3):=by simp[World.cell?,hg]
 generalize (a%2 ^ sh c1) ^^^ (2 ^ sh c1-1)=r at*;obtain ⟨y3,z3,he3,-,-⟩:=numV_parts r;obtain ⟨y,z,he,ey,ez⟩:=numV_parts a;have HR:=hD he3;unfold szV;rw[<- ey, <-ez];unfold RetNum at HC;rw[he3,he] at HC;have HZ:Hid (numV 0= .agg #[.int .u64 0, .int .u64 0]):=rfl
 try rw[HZ.out] at HC
 clear he he3 ey ez hg ha;go_enter Tryz.func93,Tryz.ntmps93;go_wp2_with (go_at_call 94;refine (HC.out _).mono ?_;rintro e w1 ⟨rfl,hb⟩;obtain ⟨hc,hf⟩:=bcell hb;have hz:=hb.size;simp at hz;have L1:w.heap.size+1<w1.heap.size:=by omega);exact bodyPost_ret (v:= .agg #[.int .u64 (y3:Int), .int .u64 (z3:Int)]) (by simp[results,Tryz.results93,go_sem,hc,hf,L1]) rfl ⟨by rw[HR.out],(by repeat (first|exact Below.refl _ _|assumption|refine Below.drew ?_|refine blA ?_|refine blS ?_|refine blT ?_ (by assumption)))⟩
theorem clos_neg (g:Nat) (op c1 c2 c3 c4 c5:Int) (a:Nat) (k:Int) (w:World) (ha:a<B*B) (hg:NodeAt w g op c1 c2 c3 c4 c5):
 Calls Tryz.prog 95 #[szV a k, .pointer (some ⟨g,0,none⟩)] w (RetNum w ((0+(B*B-a))%(B*B)%2 ^ sh c1)):=by
 have HC:Hid (∀ W,Calls Tryz.prog 96 #[numV 0,numV a, .int .i64 c1] W (RetNum W ((0+(B*B-a))%(B*B)%2 ^ sh c1))):=fun W=>numSub_any 0 a c1 W (by unfold B;omega) ha
 unfold NodeAt at hg;have hgl:g<w.heap.size:=(Array.getElem?_eq_some_iff.1 hg).1;have q1:w.cell? ⟨g,1,none⟩=some (.int .i64 c1):=by simp[World.cell?,hg]
 have q2:w.cell? ⟨g,2,none⟩=some (.int .i64 c2):=by simp[World.cell?,hg]
 have q3:w.cell? ⟨g,3,none⟩=some (.int .i64 c3):=by simp[World.cell?,hg]
 generalize (0+(B*B-a))%(B*B)%2 ^ sh c1=r at*;obtain ⟨y3,z3,he3,-,-⟩:=numV_parts r;obtain ⟨y,z,he,ey,ez⟩:=numV_parts a;have HR:=hD he3;unfold szV;rw[<- ey, <-ez];unfold RetNum at HC;rw[he3,he] at HC;have HZ:Hid (numV 0= .agg #[.int .u64 0, .int .u64 0]):=rfl
 try rw[HZ.out] at HC
 clear he he3 ey ez hg ha;go_enter Tryz.func95,Tryz.ntmps95;go_wp2_with (go_at_call 96;refine (HC.out _).mono ?_;rintro e w1 ⟨rfl,hb⟩;obtain ⟨hc,hf⟩:=bcell hb;have hz:=hb.size;simp at hz;have L1:w.heap.size+1<w1.heap.size:=by omega);exact bodyPost_ret (v:= .agg #[.int .u64 (y3:Int), .int .u64 (z3:Int)]) (by simp[results,Tryz.results95,go_sem,hc,hf,L1]) rfl ⟨by rw[HR.out],(by repeat (first|exact Below.refl _ _|assumption|refine Below.drew ?_|refine blA ?_|refine blS ?_|refine blT ?_ (by assumption)))⟩
theorem clos_slice (g:Nat) (op c1 c2 c3 c4 c5:Int) (a:Nat) (k:Int) (w:World) (ha:a<B*B) (hg:NodeAt w g op c1 c2 c3 c4 c5) (h0:0<=c3) (h1:c3<=c2) (h2:c2<128):
 Calls Tryz.prog 97 #[szV a k, .pointer (some ⟨g,0,none⟩)] w (RetNum w (a/2 ^ sh c3%2 ^ sh (c2-c3+1))):=by
 have HC:Hid (∀ W,Calls Tryz.prog 98 #[numV a, .int .i64 c2, .int .i64 c3] W (RetNum W (a/2 ^ sh c3%2 ^ sh (c2-c3+1)))):=fun W=>numSlice_any a c2 c3 W ha h0 h1 h2
 unfold NodeAt at hg;have hgl:g<w.heap.size:=(Array.getElem?_eq_some_iff.1 hg).1;have q1:w.cell? ⟨g,1,none⟩=some (.int .i64 c1):=by simp[World.cell?,hg]
 have q2:w.cell? ⟨g,2,none⟩=some (.int .i64 c2):=by simp[World.cell?,hg]
 have q3:w.cell? ⟨g,3,none⟩=some (.int .i64 c3):=by simp[World.cell?,hg]
 generalize a/2 ^ sh c3%2 ^ sh (c2-c3+1)=r at*;obtain ⟨y3,z3,he3,-,-⟩:=numV_parts r;obtain ⟨y,z,he,ey,ez⟩:=numV_parts a;have HR:=hD he3;unfold szV;rw[<- ey, <-ez];unfold RetNum at HC;rw[he3,he] at HC;have HZ:Hid (numV 0= .agg #[.int .u64 0, .int .u64 0]):=rfl
 try rw[HZ.out] at HC
 clear he he3 ey ez hg ha;go_enter Tryz.func97,Tryz.ntmps97;go_wp2_with (go_at_call 98;refine (HC.out _).mono ?_;rintro e w1 ⟨rfl,hb⟩;obtain ⟨hc,hf⟩:=bcell hb;have hz:=hb.size;simp at hz;have L1:w.heap.size+1<w1.heap.size:=by omega);exact bodyPost_ret (v:= .agg #[.int .u64 (y3:Int), .int .u64 (z3:Int)]) (by simp[results,Tryz.results97,go_sem,hc,hf,L1]) rfl ⟨by rw[HR.out],(by repeat (first|exact Below.refl _ _|assumption|refine Below.drew ?_|refine blA ?_|refine blS ?_|refine blT ?_ (by assumption)))⟩
theorem clos_shl (g:Nat) (op c1 c2 c3 c4 c5:Int) (a:Nat) (k:Int) (w:World) (ha:a<B*B) (hg:NodeAt w g op c1 c2 c3 c4 c5):
 Calls Tryz.prog 99 #[szV a k, .pointer (some ⟨g,0,none⟩)] w (RetNum w (a*2 ^ sh c2%(B*B)%2 ^ sh c1)):=by
 have HC:Hid (∀ W,Calls Tryz.prog 100 #[numV a, .int .i64 c2, .int .i64 c1] W (RetNum W (a*2 ^ sh c2%(B*B)%2 ^ sh c1))):=fun W=>numShl_any a c2 c1 W ha
 unfold NodeAt at hg;have hgl:g<w.heap.size:=(Array.getElem?_eq_some_iff.1 hg).1;have q1:w.cell? ⟨g,1,none⟩=some (.int .i64 c1):=by simp[World.cell?,hg]
 have q2:w.cell? ⟨g,2,none⟩=some (.int .i64 c2):=by simp[World.cell?,hg]
 have q3:w.cell? ⟨g,3,none⟩=some (.int .i64 c3):=by simp[World.cell?,hg]
 generalize a*2 ^ sh c2%(B*B)%2 ^ sh c1=r at*;obtain ⟨y3,z3,he3,-,-⟩:=numV_parts r;obtain ⟨y,z,he,ey,ez⟩:=numV_parts a;have HR:=hD he3;unfold szV;rw[<- ey, <-ez];unfold RetNum at HC;rw[he3,he] at HC;have HZ:Hid (numV 0= .agg #[.int .u64 0, .int .u64 0]):=rfl
 try rw[HZ.out] at HC
 clear he he3 ey ez hg ha;go_enter Tryz.func99,Tryz.ntmps99;go_wp2_with (go_at_call 100;refine (HC.out _).mono ?_;rintro e w1 ⟨rfl,hb⟩;obtain ⟨hc,hf⟩:=bcell hb;have hz:=hb.size;simp at hz;have L1:w.heap.size+1<w1.heap.size:=by omega);exact bodyPost_ret (v:= .agg #[.int .u64 (y3:Int), .int .u64 (z3:Int)]) (by simp[results,Tryz.results99,go_sem,hc,hf,L1]) rfl ⟨by rw[HR.out],(by repeat (first|exact Below.refl _ _|assumption|refine Below.drew ?_|refine blA ?_|refine blS ?_|refine blT ?_ (by assumption)))⟩
theorem clos_shr (g:Nat) (op c1 c2 c3 c4 c5:Int) (a:Nat) (k:Int) (w:World) (ha:a<B*B) (hg:NodeAt w g op c1 c2 c3 c4 c5):
 Calls Tryz.prog 101 #[szV a k, .pointer (some ⟨g,0,none⟩)] w (RetNum w (a/2 ^ sh c2)):=by
 have HC:Hid (∀ W,Calls Tryz.prog 102 #[numV a, .int .i64 c2] W (RetNum W (a/2 ^ sh c2))):=fun W=>numShr_any a c2 W ha
 unfold NodeAt at hg;have hgl:g<w.heap.size:=(Array.getElem?_eq_some_iff.1 hg).1;have q1:w.cell? ⟨g,1,none⟩=some (.int .i64 c1):=by simp[World.cell?,hg]
 have q2:w.cell? ⟨g,2,none⟩=some (.int .i64 c2):=by simp[World.cell?,hg]
 have q3:w.cell? ⟨g,3,none⟩=some (.int .i64 c3):=by simp[World.cell?,hg]
 generalize a/2 ^ sh c2=r at*;obtain ⟨y3,z3,he3,-,-⟩:=numV_parts r;obtain ⟨y,z,he,ey,ez⟩:=numV_parts a;have HR:=hD he3;unfold szV;rw[<- ey, <-ez];unfold RetNum at HC;rw[he3,he] at HC;have HZ:Hid (numV 0= .agg #[.int .u64 0, .int .u64 0]):=rfl
 try rw[HZ.out] at HC
 clear he he3 ey ez hg ha;go_enter Tryz.func101,Tryz.ntmps101;go_wp2_with (go_at_call 102;refine (HC.out _).mono ?_;rintro e w1 ⟨rfl,hb⟩;obtain ⟨hc,hf⟩:=bcell hb;have hz:=hb.size;simp at hz;have L1:w.heap.size+1<w1.heap.size:=by omega);exact bodyPost_ret (v:= .agg #[.int .u64 (y3:Int), .int .u64 (z3:Int)]) (by simp[results,Tryz.results101,go_sem,hc,hf,L1]) rfl ⟨by rw[HR.out],(by repeat (first|exact Below.refl _ _|assumption|refine Below.drew ?_|refine blA ?_|refine blS ?_|refine blT ?_ (by assumption)))⟩
theorem clos_cat (a b:Nat) (k j:Int) (w:World) (ha:a<B*B) (hb:b<B*B):
 Calls Tryz.prog 103 #[szV a k,szV b j] w (RetNum w ((a*2 ^ sh j%(B*B)%2 ^ sh 128) ||| (b%2 ^ sh j))):=by
 have HC:Hid (∀ W,Calls Tryz.prog 104 #[numV a,numV b, .int .i64 j] W (RetNum W ((a*2 ^ sh j%(B*B)%2 ^ sh 128) ||| (b%2 ^ sh j)))):=fun W=>numCat_any a b j W ha hb
 generalize (a*2 ^ sh j%(B*B)%2 ^ sh 128) ||| (b%2 ^ sh j)=r at*
 obtain ⟨y3,z3,he3,-,-⟩:=numV_parts r;obtain ⟨y,z,he,ey,ez⟩:=numV_parts a;obtain ⟨y1,z1,he1,ey1,ez1⟩:=numV_parts b;have HR:=hD he3;unfold szV;rw[<- ey, <-ez, <-ey1, <-ez1];unfold RetNum at HC;rw[he3,he,he1] at HC;clear he he1 he3 ey ez ey1 ez1 ha hb;go_enter Tryz.func103,Tryz.ntmps103;go_wp2_with (go_at_call 104;refine (HC.out _).mono ?_;rintro e w1 ⟨rfl,hb⟩;obtain ⟨hc,hf⟩:=bcell hb;have hz:=hb.size;simp at hz;have L1:w.heap.size+1<w1.heap.size:=by omega);exact bodyPost_ret (v:= .agg #[.int .u64 (y3:Int), .int .u64 (z3:Int)]) (by simp[results,Tryz.results103,go_sem,hc,hf,L1]) rfl ⟨by rw[HR.out],(by repeat (first|exact Below.refl _ _|assumption|refine Below.drew ?_|refine blA ?_|refine blS ?_|refine blT ?_ (by assumption)))⟩
theorem clos_add (g:Nat) (op c1 c2 c3 c4 c5:Int) (a b:Nat) (k j:Int) (w:World) (ha:a<B*B) (hb:b<B*B) (hg:NodeAt w g op c1 c2 c3 c4 c5):
 Calls Tryz.prog 105 #[szV a k,szV b j, .pointer (some ⟨g,0,none⟩)] w (RetNum w ((a+b)%(B*B)%2 ^ sh c1)):=by
 have HC:Hid (∀ W,Calls Tryz.prog 106 #[numV a,numV b, .int .i64 c1] W (RetNum W ((a+b)%(B*B)%2 ^ sh c1))):=fun W=>numAdd_any a b c1 W ha hb
 unfold NodeAt at hg;have hgl:g<w.heap.size:=(Array.getElem?_eq_some_iff.1 hg).1;have hgl1:g<w.heap.size+1:=by omega
 have hgl2:g<w.heap.size+1+1:=by omega
 have q1:w.cell? ⟨g,1,none⟩=some (.int .i64 c1):=by simp[World.cell?,hg]
 clear hg;generalize (a+b)%(B*B)%2 ^ sh c1=r at*;obtain ⟨y3,z3,he3,-,-⟩:=numV_parts r;obtain ⟨y,z,he,ey,ez⟩:=numV_parts a;obtain ⟨y1,z1,he1,ey1,ez1⟩:=numV_parts b;have HR:=hD he3;unfold szV;rw[<- ey, <-ez, <-ey1, <-ez1];unfold RetNum at HC;rw[he3,he,he1] at HC;clear he he1 he3 ey ez ey1 ez1 ha hb;go_enter Tryz.func105,Tryz.ntmps105;go_wp2_with (go_at_call 106;refine (HC.out _).mono ?_;rintro e w1 ⟨rfl,hb⟩;obtain ⟨hc,hf⟩:=bcell hb;have hz:=hb.size;simp at hz;have L1:w.heap.size+1<w1.heap.size:=by omega);exact bodyPost_ret (v:= .agg #[.int .u64 (y3:Int), .int .u64 (z3:Int)]) (by simp[results,Tryz.results105,go_sem,hc,hf,L1]) rfl ⟨by rw[HR.out],(by repeat (first|exact Below.refl _ _|assumption|refine Below.drew ?_|refine blA ?_|refine blS ?_|refine blT ?_ (by assumption)))⟩
theorem clos_sub (g:Nat) (op c1 c2 c3 c4 c5:Int) (a b:Nat) (k j:Int) (w:World) (ha:a<B*B) (hb:b<B*B) (hg:NodeAt w g op c1 c2 c3 c4 c5):
 Calls Tryz.prog 107 #[szV a k,szV b j, .pointer (some ⟨g,0,none⟩)] w (RetNum w ((a+(B*B-b))%(B*B)%2 ^ sh c1)):=by
 have HC:Hid (∀ W,Calls Tryz.prog 96 #[numV a,numV b, .int .i64 c1] W (RetNum W ((a+(B*B-b))%(B*B)%2 ^ sh c1))):=fun W=>numSub_any a b c1 W ha hb
 unfold NodeAt at hg;have hgl:g<w.heap.size:=(Array.getElem?_eq_some_iff.1 hg).1;have hgl1:g<w.heap.size+1:=by omega
 have hgl2:g<w.heap.size+1+1:=by omega
 have q1:w.cell? ⟨g,1,none⟩=some (.int .i64 c1):=by simp[World.cell?,hg]
 clear hg;generalize (a+(B*B-b))%(B*B)%2 ^ sh c1=r at*;obtain ⟨y3,z3,he3,-,-⟩:=numV_parts r;obtain ⟨y,z,he,ey,ez⟩:=numV_parts a;obtain ⟨y1,z1,he1,ey1,ez1⟩:=numV_parts b;have HR:=hD he3;unfold szV;rw[<- ey, <-ez, <-ey1, <-ez1];unfold RetNum at HC;rw[he3,he,he1] at HC;clear he he1 he3 ey ez ey1 ez1 ha hb;go_enter Tryz.func107,Tryz.ntmps107;go_wp2_with (go_at_call 96;refine (HC.out _).mono ?_;rintro e w1 ⟨rfl,hb⟩;obtain ⟨hc,hf⟩:=bcell hb;have hz:=hb.size;simp at hz;have L1:w.heap.size+1<w1.heap.size:=by omega);exact bodyPost_ret (v:= .agg #[.int .u64 (y3:Int), .int .u64 (z3:Int)]) (by simp[results,Tryz.results107,go_sem,hc,hf,L1]) rfl ⟨by rw[HR.out],(by repeat (first|exact Below.refl _ _|assumption|refine Below.drew ?_|refine blA ?_|refine blS ?_|refine blT ?_ (by assumption)))⟩
theorem clos_and (a b:Nat) (k j:Int) (w:World) (ha:a<B*B) (hb:b<B*B):
 Calls Tryz.prog 108 #[szV a k,szV b j] w (RetNum w (a &&& b)):=by
 have HC:Hid (∀ W,Calls Tryz.prog 109 #[numV a,numV b] W (RetNum W (a &&& b))):=fun W=>numAnd_any a b W ha hb
 generalize a &&& b=r at*;obtain ⟨y3,z3,he3,-,-⟩:=numV_parts r;obtain ⟨y,z,he,ey,ez⟩:=numV_parts a;obtain ⟨y1,z1,he1,ey1,ez1⟩:=numV_parts b;have HR:=hD he3;unfold szV;rw[<- ey, <-ez, <-ey1, <-ez1];unfold RetNum at HC;rw[he3,he,he1] at HC;clear he he1 he3 ey ez ey1 ez1 ha hb;go_enter Tryz.func108,Tryz.ntmps108;go_wp2_with (go_at_call 109;refine (HC.out _).mono ?_;rintro e w1 ⟨rfl,hb⟩;obtain ⟨hc,hf⟩:=bcell hb;have hz:=hb.size;simp at hz;have L1:w.heap.size+1<w1.heap.size:=by omega);exact bodyPost_ret (v:= .agg #[.int .u64 (y3:Int), .int .u64 (z3:Int)]) (by simp[results,Tryz.results108,go_sem,hc,hf,L1]) rfl ⟨by rw[HR.out],(by repeat (first|exact Below.refl _ _|assumption|refine Below.drew ?_|refine blA ?_|refine blS ?_|refine blT ?_ (by assumption)))⟩
theorem clos_xor (a b:Nat) (k j:Int) (w:World) (ha:a<B*B) (hb:b<B*B):
 Calls Tryz.prog 110 #[szV a k,szV b j] w (RetNum w (a ^^^ b)):=by
 have HC:Hid (∀ W,Calls Tryz.prog 111 #[numV a,numV b] W (RetNum W (a ^^^ b))):=fun W=>numXor_any a b W ha hb
 generalize a ^^^ b=r at*;obtain ⟨y3,z3,he3,-,-⟩:=numV_parts r;obtain ⟨y,z,he,ey,ez⟩:=numV_parts a;obtain ⟨y1,z1,he1,ey1,ez1⟩:=numV_parts b;have HR:=hD he3;unfold szV;rw[<- ey, <-ez, <-ey1, <-ez1];unfold RetNum at HC;rw[he3,he,he1] at HC;clear he he1 he3 ey ez ey1 ez1 ha hb;go_enter Tryz.func110,Tryz.ntmps110;go_wp2_with (go_at_call 111;refine (HC.out _).mono ?_;rintro e w1 ⟨rfl,hb⟩;obtain ⟨hc,hf⟩:=bcell hb;have hz:=hb.size;simp at hz;have L1:w.heap.size+1<w1.heap.size:=by omega);exact bodyPost_ret (v:= .agg #[.int .u64 (y3:Int), .int .u64 (z3:Int)]) (by simp[results,Tryz.results110,go_sem,hc,hf,L1]) rfl ⟨by rw[HR.out],(by repeat (first|exact Below.refl _ _|assumption|refine Below.drew ?_|refine blA ?_|refine blS ?_|refine blT ?_ (by assumption)))⟩
theorem clos_or (a b:Nat) (k j:Int) (w:World) (ha:a<B*B) (hb:b<B*B):
 Calls Tryz.prog 112 #[szV a k,szV b j] w (RetNum w (a ||| b)):=by
 have HC:Hid (∀ W,Calls Tryz.prog 113 #[numV a,numV b] W (RetNum W (a ||| b))):=fun W=>numOr_any a b W ha hb
 generalize a ||| b=r at*
 obtain ⟨y3,z3,he3,-,-⟩:=numV_parts r;obtain ⟨y,z,he,ey,ez⟩:=numV_parts a;obtain ⟨y1,z1,he1,ey1,ez1⟩:=numV_parts b;have HR:=hD he3;unfold szV;rw[<- ey, <-ez, <-ey1, <-ez1];unfold RetNum at HC;rw[he3,he,he1] at HC;clear he he1 he3 ey ez ey1 ez1 ha hb;go_enter Tryz.func112,Tryz.ntmps112;go_wp2_with (go_at_call 113;refine (HC.out _).mono ?_;rintro e w1 ⟨rfl,hb⟩;obtain ⟨hc,hf⟩:=bcell hb;have hz:=hb.size;simp at hz;have L1:w.heap.size+1<w1.heap.size:=by omega);exact bodyPost_ret (v:= .agg #[.int .u64 (y3:Int), .int .u64 (z3:Int)]) (by simp[results,Tryz.results112,go_sem,hc,hf,L1]) rfl ⟨by rw[HR.out],(by repeat (first|exact Below.refl _ _|assumption|refine Below.drew ?_|refine blA ?_|refine blS ?_|refine blT ?_ (by assumption)))⟩
theorem clos_lt (a b:Nat) (k j:Int) (w:World) (ha:a<B*B) (hb:b<B*B):
 Calls Tryz.prog 115 #[szV a k,szV b j] w (RetNum w (oneN (decide (a<b)))):=by
 have HC:Hid (∀ W,Calls Tryz.prog 116 #[numV a,numV b] W fun e w'=>e= .returned (.int .i64 (cmpI a b))/\Below W.heap.size W w'):=fun W=>numCmp_any a b W ha hb
 have HO:Hid (∀ (t:Bool) W,Calls Tryz.prog 92 #[.bool t] W (RetNum W (oneN t))):=fun t W=>one_any t W
 have HT:Hid (decide (cmpI a b<0)=decide (a<b)):=by
  show _=_;unfold cmpI;split
  ·simp;omega
  ·split<;>simp<;>omega
 obtain ⟨y,z,he,ey,ez⟩:=numV_parts a;obtain ⟨y1,z1,he1,ey1,ez1⟩:=numV_parts b;unfold szV;rw[<- ey, <-ez, <-ey1, <-ez1];rw[he,he1] at HC;generalize cmpI a b=c at*;clear he he1 ey ez ey1 ez1 ha hb;go_enter Tryz.func115,Tryz.ntmps115;go_wp2_with (go_at_call 116;refine (HC.out _).mono ?_;rintro e w1 ⟨rfl,hb⟩;obtain ⟨hc,hf⟩:=bcell hb;have hz:=hb.size;simp at hz;have L1:w.heap.size+1<w1.heap.size:=by omega);rw[HT.out];have HO1:=HO.out (decide (a<b));generalize oneN (decide (a<b))=r at*;obtain ⟨y3,z3,he3,-,-⟩:=numV_parts r;have HR:=hD he3;unfold RetNum at HO1;rw[he3] at HO1;refine (HO1 _).mono ?_;rintro e w2 ⟨rfl,hb2⟩;obtain ⟨hc2,hf2⟩:=bcell hb2;have hz2:=hb2.size;have L2:w.heap.size+1<w2.heap.size:=by omega
 have L3:w.heap.size+1+1<w1.heap.size:=by omega
 have L4:w.heap.size+1+1<w2.heap.size:=by omega
 clear HO1;go_wp2_with fail;exact bodyPost_ret (v:= .agg #[.int .u64 (y3:Int), .int .u64 (z3:Int)]) (by simp[results,Tryz.results115,go_sem,hc,hf,hc2,hf2,L1,L2,L3,L4]) rfl ⟨by rw[HR.out],(by repeat (first|exact Below.refl _ _|assumption|refine Below.drew ?_|refine blA ?_|refine blS ?_|refine blT ?_ (by assumption)))⟩
theorem clos_le (a b:Nat) (k j:Int) (w:World) (ha:a<B*B) (hb:b<B*B):
 Calls Tryz.prog 117 #[szV a k,szV b j] w (RetNum w (oneN (decide (a<=b)))):=by
 have HC:Hid (∀ W,Calls Tryz.prog 116 #[numV a,numV b] W fun e w'=>e= .returned (.int .i64 (cmpI a b))/\Below W.heap.size W w'):=fun W=>numCmp_any a b W ha hb
 have HO:Hid (∀ (t:Bool) W,Calls Tryz.prog 92 #[.bool t] W (RetNum W (oneN t))):=fun t W=>one_any t W
 have HT:Hid (decide (cmpI a b<=0)=decide (a<=b)):=by
  show _=_;unfold cmpI;split
  ·simp;omega
  ·split<;>simp<;>omega
 obtain ⟨y,z,he,ey,ez⟩:=numV_parts a;obtain ⟨y1,z1,he1,ey1,ez1⟩:=numV_parts b;unfold szV;rw[<- ey, <-ez, <-ey1, <-ez1];rw[he,he1] at HC;generalize cmpI a b=c at*;clear he he1 ey ez ey1 ez1 ha hb;go_enter Tryz.func117,Tryz.ntmps117;go_wp2_with (go_at_call 116;refine (HC.out _).mono ?_;rintro e w1 ⟨rfl,hb⟩;obtain ⟨hc,hf⟩:=bcell hb;have hz:=hb.size;simp at hz;have L1:w.heap.size+1<w1.heap.size:=by omega);rw[HT.out];have HO1:=HO.out (decide (a<=b));generalize oneN (decide (a<=b))=r at*;obtain ⟨y3,z3,he3,-,-⟩:=numV_parts r;have HR:=hD he3;unfold RetNum at HO1;rw[he3] at HO1;refine (HO1 _).mono ?_;rintro e w2 ⟨rfl,hb2⟩;obtain ⟨hc2,hf2⟩:=bcell hb2;have hz2:=hb2.size;have L2:w.heap.size+1<w2.heap.size:=by omega
 have L3:w.heap.size+1+1<w1.heap.size:=by omega
 have L4:w.heap.size+1+1<w2.heap.size:=by omega
 clear HO1;go_wp2_with fail;exact bodyPost_ret (v:= .agg #[.int .u64 (y3:Int), .int .u64 (z3:Int)]) (by simp[results,Tryz.results117,go_sem,hc,hf,hc2,hf2,L1,L2,L3,L4]) rfl ⟨by rw[HR.out],(by repeat (first|exact Below.refl _ _|assumption|refine Below.drew ?_|refine blA ?_|refine blS ?_|refine blT ?_ (by assumption)))⟩
theorem eqp (x y z u:Nat) (W:World):(Go.binOp .eql 60 (.agg #[.int .u64 (x:Int), .int .u64 (y:Int)]) (.agg #[.int .u64 (z:Int), .int .u64 (u:Int)])).run Tryz.prog W= .ok (.bool (decide (x=z/\y=u))) W:=by
 have e:decide (x=z/\y=u)=(decide ((x:Int)=z)&&decide ((y:Int)=u)):=by rw[<- Bool.decide_and,decide_eq_decide];omega
 rw[e];by_cases h1:(x:Int)=z<;>by_cases h2:(y:Int)=u<;>simp[go_sem,h1,h2]
theorem clos_eq (a b:Nat) (k j:Int) (w:World) (ha:a<B*B) (hb:b<B*B):
 Calls Tryz.prog 114 #[szV a k,szV b j] w (RetNum w (oneN (decide (a=b)))):=by
 have HO1:Hid (∀ W,Calls Tryz.prog 92 #[.bool (decide (a=b))] W (RetNum W (oneN (decide (a=b))))):=fun W=>one_any _ W
 obtain ⟨y,z,he,ey,ez⟩:=numV_parts a;obtain ⟨y1,z1,he1,ey1,ez1⟩:=numV_parts b;have HT:decide (a=b)=decide (y=y1/\z=z1):=by
  rw[decide_eq_decide,ey,ez,ey1,ez1];constructor
  ·rintro rfl;exact ⟨rfl,rfl⟩
  ·rintro ⟨h1,h2⟩;rw[<- Nat.div_add_mod a B, <-Nat.div_add_mod b B,h1,h2]
 have heq:=fun W=>eqp y z y1 z1 W
 rw[<- HT] at heq;unfold szV;rw[<- ey, <-ez, <-ey1, <-ez1];generalize decide (a=b)=t at*;generalize oneN t=r at*;obtain ⟨y3,z3,he3,-,-⟩:=numV_parts r;have HR:=hD he3;unfold RetNum at HO1;rw[he3] at HO1;clear he he1 he3 ey ez ey1 ez1 ha hb HT;go_enter Tryz.func114,Tryz.ntmps114;go_wp2_with (go_at_call 92;refine (HO1.out _).mono ?_;rintro e w1 ⟨rfl,hb⟩;obtain ⟨hc,hf⟩:=bcell hb;have hz:=hb.size;simp at hz;have L1:w.heap.size+1<w1.heap.size:=by omega);exact bodyPost_ret (v:= .agg #[.int .u64 (y3:Int), .int .u64 (z3:Int)]) (by simp[results,Tryz.results114,go_sem,hc,hf,L1]) rfl ⟨by rw[HR.out],(by repeat (first|exact Below.refl _ _|assumption|refine Below.drew ?_|refine blA ?_|refine blS ?_|refine blT ?_ (by assumption)))⟩
open Stab
def stkE (x:Pkt) (args:List Nat) (c:List Nod) (k:Nat):List (Nat×Int):=(c.take k).foldl (stepE x args) []
inductive NStep (p:Prg) (act:Int) (x:Pkt) (args:List Nat) (n:Nod):List (Nat×Int)->List (Nat×Int)->Prop
 |leaf (st):1<=n.op->n.op<=6->plain0P p act n=n.w->okP n.w=true->NStep p act x args n st ((leafP x args n%2 ^ sh n.w,n.w)::st)
 |un (a:Nat) (j:Int) (r):isUn n.op->a<B*B->okP j=true->single0P n j=n.w->okP n.w=true->NStep p act x args n ((a,j)::r) ((un1 n a%2 ^ sh n.w,n.w)::r)
 |bin (a:Nat) (i:Int) (b:Nat) (j:Int) (r):¬isUn n.op->(n.op=10\/(11<=n.op/\n.op<=17)\/n.op=18\/n.op=19\/n.op=20)->a<B*B->b<B*B->NStep p act x args n ((b,j)::(a,i)::r) ((bin2 n a b j%2 ^ sh n.w,n.w)::r)
theorem mod_ltBB (v:Nat) (k:Int):v%2 ^ sh k<B*B:=sh_ltBB (k:=k) (Nat.mod_lt _ (Nat.two_pow_pos _))
theorem stkE_succ (x:Pkt) (args:List Nat) (c:List Nod) {k:Nat} {n:Nod} (hn:c[k]?=some n):stkE x args c (k+1)=stepE x args (stkE x args c k) n:=by
 unfold stkE;rw[List.take_add_one,hn,List.foldl_append];rfl
def StkOk (p:Prg) (act:Int) (c:List Nod) (k:Nat) (st:List (Nat×Int)):Prop:=foldW p act [] (c.take k)=some (st.map Prod.snd)/\∀e∈st,e.1<B*B/\okP e.2=true
theorem foldW_some {p:Prg} {act:Int} {c d:List Nod} {st r:List Int} (h:foldW p act st (c++d)=some r):∃s,foldW p act st c=some s/\foldW p act s d=some r:=by
 rw[foldW_app] at h;cases hq:foldW p act st c with
 |none=>rw[hq] at h;cases h
 |some s=>rw[hq] at h;exact ⟨s,rfl,h⟩
theorem stk_step {p:Prg} {act:Int} {c:List Nod} {wt:Int} (x:Pkt) (args:List Nat) (hw:widthP p act c=some wt) {k:Nat} {n:Nod} (hn:c[k]?=some n) (hs:StkOk p act c k (stkE x args c k)):
 NStep p act x args n (stkE x args c k) (stkE x args c (k+1))/\StkOk p act c (k+1) (stkE x args c (k+1)):=by
 rw[stkE_succ x args c hn];generalize stkE x args c k=st at*;obtain ⟨h1,h2⟩:=hs;have hc:foldW p act [] c=some [wt]:=by
  unfold widthP at hw;split at hw
  ·cases hw
  ·split at hw
   ·rename_i w' hq;cases hw;exact hq
   ·cases hw
 have htk:c.take (k+1)=c.take k++[n]:=by rw[List.take_add_one,hn];rfl
 have hd:c=c.take (k+1)++c.drop (k+1):=(List.take_append_drop _ _).symm;obtain ⟨s2,h3,-⟩:=foldW_some (c:=c.take (k+1)) (d:=c.drop (k+1)) (by rw[<- hd];exact hc);have h3':=h3;rw[htk] at h3';obtain ⟨s1,h4,h5⟩:=foldW_some h3';rw[h1] at h4;cases h4;rw[foldW] at h5;cases hq:stepW p act (st.map Prod.snd) n with
 |none=>rw[hq] at h5;cases h5
 |some s3=>
  rw[hq] at h5;simp only[foldW,Option.some.injEq] at h5;subst h5;unfold StkOk;rw[h3];unfold stepW at hq;simp only at hq;split at hq
  ·rename_i hop;split at hq
   ·rename_i hp;cases hq;have e:stepE x args st n=(leafP x args n%2 ^ sh n.w,n.w)::st:=by unfold stepE;rw[if_pos hop.2]
    rw[e];have hok:okP n.w=true:=by rw[<- hp.1];exact hp.2
    refine ⟨.leaf st hop.1 hop.2 hp.1 hok,by simp[hp.1],fun e he=>?_⟩;rcases List.mem_cons.1 he with rfl|he
    ·exact ⟨mod_ltBB _ _,hok⟩
    ·exact h2 e he
   ·cases hq
  ·rename_i hop;split at hq
   ·cases hq
   ·split at hq
    ·rename_i hun;split at hq
     ·cases hq
     ·rename_i t r hst;split at hq
      ·rename_i hp;cases hq
       match st,hst with
       |(a,j)::st,hst=>
        simp only[List.map_cons,List.cons.injEq] at hst;obtain ⟨rfl,rfl⟩:=hst;have e:stepE x args ((a,j)::st) n=(un1 n a%2 ^ sh n.w,n.w)::st:=by unfold stepE;rw[if_neg (isUn_gt hun),if_pos hun]
        rw[e];have hok:okP n.w=true:=by rw[<- hp.1];exact hp.2
        have ha:=h2 (a,j) (by simp);refine ⟨.un a j st hun ha.1 ha.2 hp.1 hok,by simp[hp.1],fun e he=>?_⟩;rcases List.mem_cons.1 he with rfl|he
        ·exact ⟨mod_ltBB _ _,hok⟩
        ·exact h2 e (by simp[he])
      ·cases hq
    ·rename_i hun;split at hq
     ·rename_i b a r hst;split at hq
      ·rename_i hp;cases hq
       match st,hst with
       |(b',j)::(a',i)::st,hst=>
        simp only[List.map_cons,List.cons.injEq] at hst;obtain ⟨rfl,rfl,rfl⟩:=hst;have hok:okP n.w=true:=by rw[<- hp.1];exact hp.2
        have hb:=bin_op hp.1 hok;have e:stepE x args ((b',j)::(a',i)::st) n=(bin2 n a' b' j%2 ^ sh n.w,n.w)::st:=by unfold stepE;rw[if_neg (by omega),if_neg hun]
        rw[e];refine ⟨.bin a' i b' j st hun hb (h2 (a',i) (by simp)).1 (h2 (b',j) (by simp)).1,by simp[hp.1],fun e he=>?_⟩;rcases List.mem_cons.1 he with rfl|he
        ·exact ⟨mod_ltBB _ _,hok⟩
        ·exact h2 e (by simp[he])
      ·cases hq
     ·cases hq
theorem stk_ok {p:Prg} {act:Int} {c:List Nod} {wt:Int} (x:Pkt) (args:List Nat) (hw:widthP p act c=some wt):∀k,k<=c.length->StkOk p act c k (stkE x args c k)
 |0,_=>⟨by simp[stkE,foldW],by simp[stkE]⟩
 |k+1,hk=>(stk_step x args hw (List.getElem?_eq_getElem (by omega)) (stk_ok x args hw k (by omega))).2
theorem nstep_at {p:Prg} {act:Int} {c:List Nod} {wt:Int} (x:Pkt) (args:List Nat) (hw:widthP p act c=some wt) {k:Nat} {n:Nod} (hn:c[k]?=some n):NStep p act x args n (stkE x args c k) (stkE x args c (k+1)):=
 (stk_step x args hw hn (stk_ok x args hw k (Nat.le_of_lt (List.getElem?_eq_some_iff.1 hn).1))).1
theorem stkE_len {p:Prg} {act:Int} {c:List Nod} {wt:Int} (x:Pkt) (args:List Nat) (hw:widthP p act c=some wt):∀k,k<=c.length->(stkE x args c k).length<=k
 |0,_=>by simp[stkE]
 |k+1,hk=>by
  have ih:=stkE_len x args hw k (by omega);have h:=nstep_at x args hw (List.getElem?_eq_getElem (show k<c.length by omega));generalize stkE x args c k=st at*;generalize stkE x args c (k+1)=st2 at*;cases h<;>simp at ih⊢<;>omega
theorem stkE_end {p:Prg} {act:Int} {c:List Nod} {wt:Int} (x:Pkt) (args:List Nat) (hw:widthP p act c=some wt):∃j,stkE x args c c.length=[(evC x args c,j)]:=by
 obtain ⟨t,rfl,ht⟩:=tree_of hw;refine ⟨t.root.w,?_⟩;unfold stkE;rw[List.take_length,foldE_flat x args ht,evC_flat x args ht]
def accK (x:Pkt) (c:List Nod) (k:Nat):Bool:=(c.take k).any (leafA x)
theorem accK_succ {x:Pkt} {c:List Nod} {k:Nat} {n:Nod} (hn:c[k]?=some n):accK x c (k+1)=(accK x c k||leafA x n):=by
 unfold accK;rw[List.take_add_one,hn];simp
theorem accK_end (x:Pkt) (c:List Nod):accK x c c.length=accC x c:=by unfold accK accC;rw[List.take_length]
end Go.Proofs.YtjfhfaodbjecdaaGreat
