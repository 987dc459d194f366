/- Lemmas. -/
import Derived.Test.YtjfhfaodbjecdaaGreatJK39
set_option maxHeartbeats 2000000
set_option maxRecDepth 100000
namespace Go.Proofs.YtjfhfaodbjecdaaGreat
open Go.RowKit Go.Maps
variable {w w':World} {n0 m g cap:Nat} {n:Nod} {xs:List Value} {p:Prg} {act wt:Int}
theorem jd (P:Program) (fn:Fn) (first cap:Array Value) (w:World):(Instr.makeFunc fn first cap).run P w= .ok (.func fn first cap) w:=rfl
def pm (f g:Nat):Value:= .func (Fn.func f) #[] #[.pointer (some ⟨g,0,none⟩)]
def rj (f:Nat):Value:= .func (Fn.func f) #[] #[]
def bR (g:Nat):List (Int×Value):=[(7,pm 93 g),(8,pm 95 g),(9,pm 97 g),(13,pm 99 g),(14,pm 101 g)]
def cT (g:Nat):List (Int×Value):=[(10,rj 103),(11,pm 105 g),(12,pm 107 g),(15,rj 108),(16,rj 110),(17,rj 112),(18,rj 114),(19,rj 115),(20,rj 117)]
theorem iI (c0 c1 c2 c3 c4 c5:Int) (w:World):
 Calls Tryz.prog 67 #[.agg #[.int .u8 c0, .int .i64 c1, .int .i64 c2, .int .i64 c3, .int .u64 c4, .int .u64 c5]] w fun e w'=>∃m,e= .returned (.map (some m))/\UMap w' m (bR w.heap.size)/\w'.heap[w.heap.size]?=some (.cells #[.int .u8 c0, .int .i64 c1, .int .i64 c2, .int .i64 c3, .int .u64 c4, .int .u64 c5] 65 (0,0))/\Bl w w':=by
 have hmm:=@run_makeMap Tryz.prog;have hmf:=jd Tryz.prog;have HM:∀W,UMap (World.alloc W (.map #[] 0)) W.heap.size []:=fun W=>UMap.empty _ _ (ag W _)
 have h0:=HM (w.alloc (.cells #[.int .u8 c0, .int .i64 c1, .int .i64 c2, .int .i64 c3, .int .u64 c4, .int .u64 c5] 65));rw[World.size_alloc] at h0;have HB:Hd (Below (w.heap.size+1) (w.alloc (.cells #[.int .u8 c0, .int .i64 c1, .int .i64 c2, .int .i64 c3, .int .u64 c4, .int .u64 c5] 65)) ((w.alloc (.cells #[.int .u8 c0, .int .i64 c1, .int .i64 c2, .int .i64 c3, .int .u64 c4, .int .u64 c5] 65)).alloc (.map #[] 0))):=br.alloc sm _;have hB:=HB.o;clear HM;go_enter Tryz.func67,Tryz.ntmps67;go_wp2_with (refine jc (k:=5) (e:=134) (by rfl) _ _ _ (by rfl) Tryz.underlying5 Tryz.underlying136 (by rfl) h0 _ (by rfl) _ (by rfl) dq sm ?_;clear h0;intro w1 h0 hg1;replace hB:=hB.grown hg1 (Nat.le_trans sm hB.size) (fun k e=>by cases e;simp);clear hg1);go_ret;exact DP
theorem jC (c0 c1 c2 c3 c4 c5:Int) (w:World):
 Calls Tryz.prog 68 #[.agg #[.int .u8 c0, .int .i64 c1, .int .i64 c2, .int .i64 c3, .int .u64 c4, .int .u64 c5]] w fun e w'=>∃m,e= .returned (.map (some m))/\UMap w' m (cT w.heap.size)/\w'.heap[w.heap.size]?=some (.cells #[.int .u8 c0, .int .i64 c1, .int .i64 c2, .int .i64 c3, .int .u64 c4, .int .u64 c5] 65 (0,0))/\Bl w w':=by
 have hmm:=@run_makeMap Tryz.prog;have hmf:=jd Tryz.prog;have HM:∀W,UMap (World.alloc W (.map #[] 0)) W.heap.size []:=fun W=>UMap.empty _ _ (ag W _)
 have h0:=HM (w.alloc (.cells #[.int .u8 c0, .int .i64 c1, .int .i64 c2, .int .i64 c3, .int .u64 c4, .int .u64 c5] 65));rw[World.size_alloc] at h0;have HB:Hd (Below (w.heap.size+1) (w.alloc (.cells #[.int .u8 c0, .int .i64 c1, .int .i64 c2, .int .i64 c3, .int .u64 c4, .int .u64 c5] 65)) ((w.alloc (.cells #[.int .u8 c0, .int .i64 c1, .int .i64 c2, .int .i64 c3, .int .u64 c4, .int .u64 c5] 65)).alloc (.map #[] 0))):=br.alloc sm _;have hB:=HB.o;clear HM;go_enter Tryz.func68,Tryz.ntmps68;go_wp2_with (refine jc (k:=5) (e:=138) (by rfl) _ _ _ (by rfl) Tryz.underlying5 Tryz.underlying140 (by rfl) h0 _ (by rfl) _ (by rfl) dq sm ?_;clear h0;intro w1 h0 hg1;replace hB:=hB.grown hg1 (Nat.le_trans sm hB.size) (fun k e=>by cases e;simp);clear hg1);go_ret;exact DP
def jX (p:Nat×Int):List Value:=[.int .u64 ((p.1/B:Nat):Int), .int .u64 ((p.1%B:Nat):Int), .int .i64 p.2]
def dA (st:List (Nat×Int)):List Value:=st.flatMap jX
theorem iT (st:List (Nat×Int)) (p:Nat×Int):dA (st++[p])=dA st++jX p:=by simp[dA]
theorem kG (st:List (Nat×Int)):(dA st).length=st.length*3:=by
 induction st with
 |nil=>rfl
 |cons p st ih=>simp only[dA,List.flatMap_cons,List.length_append,List.length_cons] at ih⊢;rw[ih];simp[jX];omega
def Stk (w:World) (n0 m:Nat) (x:Value×Value) (st:List (Nat×Int)):Prop:=
 ∃v,w.heap[m]?=some (.cells #[x.1,x.2,v] 102 (0,0))/\w.ownsRow n0 105 3 v st.length (dA st)/\v.ownBlock≠some m/\n0<=m/\st.length<=100000
theorem Stk.below {x:Value×Value} {st:List (Nat×Int)} (h:Stk w n0 m x st) (hb:Bl w w'):Stk w' n0 m x st:=by
 obtain ⟨v,h1,h2,h3,h4,h5⟩:=h;refine ⟨v,(hb.block m ?_).trans h1,nH h2 hb,h3,h4,h5⟩;exact (bV h1).1
theorem yK {e n k:Nat} {ys:List Value} (h:w.ownsRow n0 e k (.slice (some ⟨g,0,none⟩) (n+1) cap) (n+1) (xs++ys)) (hx:xs.length=n*k):w.ownsRow n0 e k (.slice (some ⟨g,0,none⟩) n cap) n xs:=by
 obtain ⟨hl,h|⟨g',cap',cur,h1,h2,h3,h4,h5,h6,h7⟩⟩:=h
 ·exact absurd h.2 om
 simp only[Value.slice.injEq,Option.some.injEq,Addr.mk.injEq,and_true,true_and] at h1;obtain ⟨rfl,rfl⟩:=h1;refine ⟨hx, .inr ⟨g,cap,cur,rfl,h2,h3,om,h5,h6,?_⟩⟩;have:cur.toList.take (n*k)=(cur.toList.take ((n+1)*k)).take (n*k):=by rw[List.take_take];congr 1;rw[Nat.add_mul];omega
 rw[this,h7,List.take_append_of_le_length om,List.take_of_length_le om]
theorem mM {e n k:Nat} (h:w.ownsRow n0 e k (.slice (some ⟨g,0,none⟩) n cap) n xs) {i:Nat} {v:Value} (hv:xs[i]?=some v):w.cell? ⟨g,i,none⟩=some v:=by
 exact Db
def Apart (m:Nat) (w w':World):Prop:=(∀ k,k<w.heap.size->k≠m->w'.heap[k]?=w.heap[k]?)/\w.heap.size<=w'.heap.size
theorem Apart.cell (h:Apart m w w') {p:Addr} {v:Value} (hp:p.block≠m) (hc:w.cell? p=some v):w'.cell? p=some v:=by
 have:=h.1 p.block (af hc).1 hp;simpa [World.cell?,this] using hc
theorem Apart.frozen (h:Apart m w w') {p:Addr} {v:Value} (hp:p.block≠m) (hc:w.cell? p=some v):w'.frozen? p=w.frozen? p:=by
 have:=h.1 p.block (af hc).1 hp;simp[World.frozen?,this]
theorem iU {a b c v:Value} {t:TypeId} (h:w.heap[m]?=some (.cells #[a,b,c] t (0,0))):(w.setCell ⟨m,2,none⟩ v).heap[m]?=some (.cells #[a,b,v] t (0,0)):=
 heap_setCell_same w m 2 _ t v h
theorem jD (n0 m:Nat) (x:Value×Value) (st:List (Nat×Int)) (a:Nat) (k:Int) (w:World) (h:Stk w n0 m x (st++[(a,k)])):
 Calls Tryz.prog 42 #[.pointer (some ⟨m,0,none⟩)] w fun e w'=>e= .returned (.agg #[.int .u64 ((a/B:Nat):Int), .int .u64 ((a%B:Nat):Int), .int .i64 k])/\Stk w' n0 m x st/\Below n0 w w'/\Apart m w w':=by
 obtain ⟨v,h1,h2,h3,h4,h5⟩:=h;have hn0:n0<=w.heap.size:=Nat.le_of_lt (Nat.lt_of_le_of_lt h4 (bV h1).1);rw[List.length_append,List.length_singleton] at h2 h5;have hx:=kG st;rw[iT] at h2;obtain ⟨g,cap,rfl,hcap⟩:∃g cap,v= .slice (some ⟨g,0,none⟩) (st.length+1) cap/\st.length+1<=cap:=by
  obtain ⟨-,q|⟨g,cap,cur,q1,-,-,q2,-⟩⟩:=h2
  ·exact absurd q.2 om
  exact ⟨g,cap,q1,q2⟩
 have c2:w.cell? ⟨m,2,none⟩=some (.slice (some ⟨g,0,none⟩) (st.length+1) cap):=by simp[World.cell?,h1]
 have f2:w.frozen? ⟨m,2,none⟩=false:=by simp[World.frozen?,h1]
 have e0:w.cell? ⟨g,st.length*3,none⟩=some (.int .u64 ((a/B:Nat):Int)):=mM h2 (by rw[List.getElem?_append_right om,hx,Nat.sub_self];rfl);have e1:w.cell? ⟨g,st.length*3+1,none⟩=some (.int .u64 ((a%B:Nat):Int)):=mM h2 (by rw[List.getElem?_append_right om,hx,Nat.add_sub_cancel_left];rfl);have e2:w.cell? ⟨g,st.length*3+2,none⟩=some (.int .i64 k):=mM h2 (by rw[List.getElem?_append_right om,hx,Nat.add_sub_cancel_left];rfl);have hgm:g≠m:=fun e=>h3 (by rw[e];rfl)
 have hml:m<w.heap.size:=(bV h1).1;have hgl:g<w.heap.size:=(af e0).1;have HE:Hd (∀ W:World,(∀ k,k<w.heap.size->W.heap[k]?=w.heap[k]?)->Stk (W.setCell ⟨m,2,none⟩ (.slice (some ⟨g,0,none⟩) st.length cap)) n0 m x st):=by
  intro W hW;refine ⟨.slice (some ⟨g,0,none⟩) st.length cap,iU ((hW m hml).trans h1),?_,h3,h4,om⟩;obtain ⟨q0,q|⟨g',cap',cur,q1,q2,q3,q4⟩⟩:=yK h2 hx
  ·exact absurd q.1 sm
  simp only[Value.slice.injEq,Option.some.injEq,Addr.mk.injEq,and_true,true_and] at q1;obtain ⟨rfl,rfl⟩:=q1;exact ⟨q0, .inr ⟨g,cap,cur,rfl,q2,by rw[aq hgm];exact (hW g (bV q3).1).trans q3,q4⟩⟩
 clear h1 h2 h3 hx;generalize st.length=N at*;generalize ((a/B:Nat):Int)=A1 at*;generalize ((a%B:Nat):Int)=A2 at*;have HM4:=hD h4;have HN0:=hD hn0;clear h4 hn0;go_enter Tryz.func42,Tryz.ntmps42;go_wp2_with fail;go_region;all_goals go_wp2_with fail
 go_region;all_goals go_wp2_with fail
 have hS:=HE.o w fun k _=>rfl
 have hb:Below (w.setCell ⟨m,2,none⟩ (.slice (some ⟨g,0,none⟩) N cap)).heap.size (w.setCell ⟨m,2,none⟩ (.slice (some ⟨g,0,none⟩) N cap)) (((((w.setCell ⟨m,2,none⟩ (.slice (some ⟨g,0,none⟩) N cap)).alloc (.cells #[.int .u64 A1, .int .u64 A2, .int .i64 k] 105)).alloc (.cells #[.int .u64 A1, .int .u64 A2, .int .i64 k] 105)).drew).drew):=
  below_drewN (below_drewN ((br.alloc lr _).alloc sm _) 1) 1
 have hs:(w.setCell ⟨m,2,none⟩ (.slice (some ⟨g,0,none⟩) N cap)).heap.size=w.heap.size:=by simp
 have hb0:Below n0 w (w.setCell ⟨m,2,none⟩ (.slice (some ⟨g,0,none⟩) N cap)):=br.setCell (by exact HM4.o) _;exact bodyPost_ret (v:= .agg #[.int .u64 A1, .int .u64 A2, .int .i64 k]) (by simp[results,Tryz.results42,go_sem]) rfl ⟨rfl,hS.below hb,hb0.trans (hb.mono (by rw[hs];exact HN0.o)),⟨fun k hk hne=>(hb.block k (by rw[hs];exact hk)).trans (aq hne),by have:=hb.size;rw[hs] at this;exact this⟩⟩
def aP (op c1 c2 c3 c4 c5:Int):Value:= .agg #[.int .u8 op, .int .i64 c1, .int .i64 c2, .int .i64 c3, .int .u64 c4, .int .u64 c5]
theorem mN (m:Nat) (c1 c2 c3 c4 c5:Int) (w:World):
 Calls Tryz.prog 66 #[.pointer (some ⟨m,0,none⟩),aP 1 c1 c2 c3 c4 c5] w fun e w'=>e= .returned (.tuple #[.agg #[.int .u64 c4, .int .u64 c5], .bool true])/\Bl w w':=by
 unfold aP;go_enter Tryz.func66,Tryz.ntmps66;go_wp2_with fail;exact bodyPost_ret (v:= .tuple #[.agg #[.int .u64 c4, .int .u64 c5], .bool true]) (by simp[results,Tryz.results66,go_sem]) rfl ⟨rfl,bL⟩
theorem oy (m:Nat) (op c1 c2 c3 c4 c5:Int) (w:World) (h1:6<op):
 Calls Tryz.prog 66 #[.pointer (some ⟨m,0,none⟩),aP op c1 c2 c3 c4 c5] w fun e w'=>e= .returned (.tuple #[.agg #[.int .u64 0, .int .u64 0], .bool false])/\Bl w w':=by
 unfold aP;have n1:¬op=1:=om;have n2:¬op=2:=om;have n3:¬op=3:=om;have n4:¬op=4:=om;have n5:¬op=5:=om;have n6:¬op=6:=om;clear h1;go_enter Tryz.func66,Tryz.ntmps66;go_wp2_with fail;exact bodyPost_ret (v:= .tuple #[.agg #[.int .u64 0, .int .u64 0], .bool false]) (by simp[results,Tryz.results66,go_sem]) rfl ⟨rfl,bL⟩
def fw (n:Nat) (k:Int):Value:= .agg #[.int .u64 ((n/B:Nat):Int), .int .u64 ((n%B:Nat):Int), .int .i64 k]
def dI (b:Bool):Nat:=if b then 1 else 0
def NodeAt (w:World) (g:Nat) (op c1 c2 c3 c4 c5:Int):Prop:=w.heap[g]?=some (.cells #[.int .u8 op, .int .i64 c1, .int .i64 c2, .int .i64 c3, .int .u64 c4, .int .u64 c5] 65 (0,0))
theorem NodeAt.below {op c1 c2 c3 c4 c5:Int} (h:NodeAt w g op c1 c2 c3 c4 c5) (hb:Bl w w'):NodeAt w' g op c1 c2 c3 c4 c5:=(hb.block g (bV h).1).trans h
theorem kY (b:Bool) (w:World):Calls Tryz.prog 92 #[.bool b] w (ai w (dI b)):=by
 have H1:Hd (∀ W,CR 91 #[.int .u64 1] W (.agg #[.int .u64 0, .int .u64 1])):=fun W=>oh 1 (by unfold B;omega) W
 cases b
 ·go_enter Tryz.func92,Tryz.ntmps92;go_wp2_with fail;exact bodyPost_ret (v:= .agg #[.int .u64 0, .int .u64 0]) (by simp[results,Tryz.results92,go_sem]) rfl ⟨rfl,bL⟩
 ·go_enter Tryz.func92,Tryz.ntmps92;go_wp2_with (go_at_call 91;refine (H1.o _).mono ?_;rintro e w1 ⟨rfl,hb⟩;obtain ⟨hc,hf⟩:=bT hb;have hz:=hb.size;simp at hz);exact bodyPost_ret (v:= .agg #[.int .u64 0, .int .u64 1]) (by simp[results,Tryz.results92,go_sem,hc,hf,hz]) rfl ⟨rfl,bL⟩
theorem wL (g:Nat) (op c1 c2 c3 c4 c5:Int) (a:Nat) (k:Int) (w:World) (ha:a<B*B) (hg:NodeAt w g op c1 c2 c3 c4 c5):
 Calls Tryz.prog 93 #[fw a k, .pointer (some ⟨g,0,none⟩)] w (ai w ((a%2 ^ sh c1) ^^^ (2 ^ sh c1-1))):=by
 have HC:Hd (∀ W,Calls Tryz.prog 94 #[aC a, .int .i64 c1] W (ai W ((a%2 ^ sh c1) ^^^ (2 ^ sh c1-1)))):=fun W=>sr a c1 W ha
 unfold NodeAt at hg;have hgl:g<w.heap.size:=(bV hg).1;have q1:w.cell? ⟨g,1,none⟩=some (.int .i64 c1):=by simp[World.cell?,hg]
 have q2:w.cell? ⟨g,2,none⟩=some (.int .i64 c2):=by simp[World.cell?,hg]
 have q3:w.cell? ⟨g,3,none⟩=some (.int .i64 c3):=by simp[World.cell?,hg]
 generalize (a%2 ^ sh c1) ^^^ (2 ^ sh c1-1)=r at*;obtain ⟨y3,z3,he3,-,-⟩:=ae r;obtain ⟨y,z,he,ey,ez⟩:=ae a;have HR:=hD he3;unfold fw;rw[<- ey, <-ez];unfold ai at HC;rw[he3,he] at HC;have HZ:Hd (aC 0= .agg #[.int .u64 0, .int .u64 0]):=rfl;try rw[HZ.o] at HC
 clear he he3 ey ez hg ha;go_enter Tryz.func93,Tryz.ntmps93;go_wp2_with (go_at_call 94;refine (HC.o _).mono ?_;rintro e w1 ⟨rfl,hb⟩;obtain ⟨hc,hf⟩:=bT hb;have hz:=hb.size;simp at hz;have L1:w.heap.size+1<w1.heap.size:=by omega);exact bodyPost_ret (v:= .agg #[.int .u64 (y3:Int), .int .u64 (z3:Int)]) (by simp[results,Tryz.results93,go_sem,hc,hf,L1]) rfl ⟨by rw[HR.o],bL⟩
theorem wM (g:Nat) (op c1 c2 c3 c4 c5:Int) (a:Nat) (k:Int) (w:World) (ha:a<B*B) (hg:NodeAt w g op c1 c2 c3 c4 c5):
 Calls Tryz.prog 95 #[fw a k, .pointer (some ⟨g,0,none⟩)] w (ai w ((0+(B*B-a))%(B*B)%2 ^ sh c1)):=by
 have HC:Hd (∀ W,Calls Tryz.prog 96 #[aC 0,aC a, .int .i64 c1] W (ai W ((0+(B*B-a))%(B*B)%2 ^ sh c1))):=fun W=>mK 0 a c1 W (by unfold B;omega) ha
 unfold NodeAt at hg;have hgl:g<w.heap.size:=(bV hg).1;have q1:w.cell? ⟨g,1,none⟩=some (.int .i64 c1):=by simp[World.cell?,hg]
 have q2:w.cell? ⟨g,2,none⟩=some (.int .i64 c2):=by simp[World.cell?,hg]
 have q3:w.cell? ⟨g,3,none⟩=some (.int .i64 c3):=by simp[World.cell?,hg]
 generalize (0+(B*B-a))%(B*B)%2 ^ sh c1=r at*;obtain ⟨y3,z3,he3,-,-⟩:=ae r;obtain ⟨y,z,he,ey,ez⟩:=ae a;have HR:=hD he3;unfold fw;rw[<- ey, <-ez];unfold ai at HC;rw[he3,he] at HC;have HZ:Hd (aC 0= .agg #[.int .u64 0, .int .u64 0]):=rfl;try rw[HZ.o] at HC
 clear he he3 ey ez hg ha;go_enter Tryz.func95,Tryz.ntmps95;go_wp2_with (go_at_call 96;refine (HC.o _).mono ?_;rintro e w1 ⟨rfl,hb⟩;obtain ⟨hc,hf⟩:=bT hb;have hz:=hb.size;simp at hz;have L1:w.heap.size+1<w1.heap.size:=by omega);exact bodyPost_ret (v:= .agg #[.int .u64 (y3:Int), .int .u64 (z3:Int)]) (by simp[results,Tryz.results95,go_sem,hc,hf,L1]) rfl ⟨by rw[HR.o],bL⟩
theorem sy (g:Nat) (op c1 c2 c3 c4 c5:Int) (a:Nat) (k:Int) (w:World) (ha:a<B*B) (hg:NodeAt w g op c1 c2 c3 c4 c5) (h0:0<=c3) (h1:c3<=c2) (h2:c2<128):
 Calls Tryz.prog 97 #[fw a k, .pointer (some ⟨g,0,none⟩)] w (ai w (a/2 ^ sh c3%2 ^ sh (c2-c3+1))):=by
 have HC:Hd (∀ W,Calls Tryz.prog 98 #[aC a, .int .i64 c2, .int .i64 c3] W (ai W (a/2 ^ sh c3%2 ^ sh (c2-c3+1)))):=fun W=>pl a c2 c3 W ha h0 h1 h2
 unfold NodeAt at hg;have hgl:g<w.heap.size:=(bV hg).1;have q1:w.cell? ⟨g,1,none⟩=some (.int .i64 c1):=by simp[World.cell?,hg]
 have q2:w.cell? ⟨g,2,none⟩=some (.int .i64 c2):=by simp[World.cell?,hg]
 have q3:w.cell? ⟨g,3,none⟩=some (.int .i64 c3):=by simp[World.cell?,hg]
 generalize a/2 ^ sh c3%2 ^ sh (c2-c3+1)=r at*;obtain ⟨y3,z3,he3,-,-⟩:=ae r;obtain ⟨y,z,he,ey,ez⟩:=ae a;have HR:=hD he3;unfold fw;rw[<- ey, <-ez];unfold ai at HC;rw[he3,he] at HC;have HZ:Hd (aC 0= .agg #[.int .u64 0, .int .u64 0]):=rfl;try rw[HZ.o] at HC
 clear he he3 ey ez hg ha;go_enter Tryz.func97,Tryz.ntmps97;go_wp2_with (go_at_call 98;refine (HC.o _).mono ?_;rintro e w1 ⟨rfl,hb⟩;obtain ⟨hc,hf⟩:=bT hb;have hz:=hb.size;simp at hz;have L1:w.heap.size+1<w1.heap.size:=by omega);exact bodyPost_ret (v:= .agg #[.int .u64 (y3:Int), .int .u64 (z3:Int)]) (by simp[results,Tryz.results97,go_sem,hc,hf,L1]) rfl ⟨by rw[HR.o],bL⟩
theorem wN (g:Nat) (op c1 c2 c3 c4 c5:Int) (a:Nat) (k:Int) (w:World) (ha:a<B*B) (hg:NodeAt w g op c1 c2 c3 c4 c5):
 Calls Tryz.prog 99 #[fw a k, .pointer (some ⟨g,0,none⟩)] w (ai w (a*2 ^ sh c2%(B*B)%2 ^ sh c1)):=by
 have HC:Hd (∀ W,Calls Tryz.prog 100 #[aC a, .int .i64 c2, .int .i64 c1] W (ai W (a*2 ^ sh c2%(B*B)%2 ^ sh c1))):=fun W=>mt a c2 c1 W ha
 unfold NodeAt at hg;have hgl:g<w.heap.size:=(bV hg).1;have q1:w.cell? ⟨g,1,none⟩=some (.int .i64 c1):=by simp[World.cell?,hg]
 have q2:w.cell? ⟨g,2,none⟩=some (.int .i64 c2):=by simp[World.cell?,hg]
 have q3:w.cell? ⟨g,3,none⟩=some (.int .i64 c3):=by simp[World.cell?,hg]
 generalize a*2 ^ sh c2%(B*B)%2 ^ sh c1=r at*;obtain ⟨y3,z3,he3,-,-⟩:=ae r;obtain ⟨y,z,he,ey,ez⟩:=ae a;have HR:=hD he3;unfold fw;rw[<- ey, <-ez];unfold ai at HC;rw[he3,he] at HC;have HZ:Hd (aC 0= .agg #[.int .u64 0, .int .u64 0]):=rfl;try rw[HZ.o] at HC
 clear he he3 ey ez hg ha;go_enter Tryz.func99,Tryz.ntmps99;go_wp2_with (go_at_call 100;refine (HC.o _).mono ?_;rintro e w1 ⟨rfl,hb⟩;obtain ⟨hc,hf⟩:=bT hb;have hz:=hb.size;simp at hz;have L1:w.heap.size+1<w1.heap.size:=by omega);exact bodyPost_ret (v:= .agg #[.int .u64 (y3:Int), .int .u64 (z3:Int)]) (by simp[results,Tryz.results99,go_sem,hc,hf,L1]) rfl ⟨by rw[HR.o],bL⟩
theorem wO (g:Nat) (op c1 c2 c3 c4 c5:Int) (a:Nat) (k:Int) (w:World) (ha:a<B*B) (hg:NodeAt w g op c1 c2 c3 c4 c5):
 Calls Tryz.prog 101 #[fw a k, .pointer (some ⟨g,0,none⟩)] w (ai w (a/2 ^ sh c2)):=by
 have HC:Hd (∀ W,Calls Tryz.prog 102 #[aC a, .int .i64 c2] W (ai W (a/2 ^ sh c2))):=fun W=>i7 a c2 W ha
 unfold NodeAt at hg;have hgl:g<w.heap.size:=(bV hg).1;have q1:w.cell? ⟨g,1,none⟩=some (.int .i64 c1):=by simp[World.cell?,hg]
 have q2:w.cell? ⟨g,2,none⟩=some (.int .i64 c2):=by simp[World.cell?,hg]
 have q3:w.cell? ⟨g,3,none⟩=some (.int .i64 c3):=by simp[World.cell?,hg]
 generalize a/2 ^ sh c2=r at*;obtain ⟨y3,z3,he3,-,-⟩:=ae r;obtain ⟨y,z,he,ey,ez⟩:=ae a;have HR:=hD he3;unfold fw;rw[<- ey, <-ez];unfold ai at HC;rw[he3,he] at HC;have HZ:Hd (aC 0= .agg #[.int .u64 0, .int .u64 0]):=rfl;try rw[HZ.o] at HC
 clear he he3 ey ez hg ha;go_enter Tryz.func101,Tryz.ntmps101;go_wp2_with (go_at_call 102;refine (HC.o _).mono ?_;rintro e w1 ⟨rfl,hb⟩;obtain ⟨hc,hf⟩:=bT hb;have hz:=hb.size;simp at hz;have L1:w.heap.size+1<w1.heap.size:=by omega);exact bodyPost_ret (v:= .agg #[.int .u64 (y3:Int), .int .u64 (z3:Int)]) (by simp[results,Tryz.results101,go_sem,hc,hf,L1]) rfl ⟨by rw[HR.o],bL⟩
theorem wP (a b:Nat) (k j:Int) (w:World) (ha:a<B*B) (hb:b<B*B):
 Calls Tryz.prog 103 #[fw a k,fw b j] w (ai w ((a*2 ^ sh j%(B*B)%2 ^ sh 128) ||| (b%2 ^ sh j))):=by
 have HC:Hd (∀ W,Calls Tryz.prog 104 #[aC a,aC b, .int .i64 j] W (ai W ((a*2 ^ sh j%(B*B)%2 ^ sh 128) ||| (b%2 ^ sh j)))):=fun W=>sw a b j W ha hb
 generalize (a*2 ^ sh j%(B*B)%2 ^ sh 128) ||| (b%2 ^ sh j)=r at*
 obtain ⟨y3,z3,he3,-,-⟩:=ae r;obtain ⟨y,z,he,ey,ez⟩:=ae a;obtain ⟨y1,z1,he1,ey1,ez1⟩:=ae b;have HR:=hD he3;unfold fw;rw[<- ey, <-ez, <-ey1, <-ez1];unfold ai at HC;rw[he3,he,he1] at HC;clear he he1 he3 ey ez ey1 ez1 ha hb;go_enter Tryz.func103,Tryz.ntmps103;go_wp2_with (go_at_call 104;refine (HC.o _).mono ?_;rintro e w1 ⟨rfl,hb⟩;obtain ⟨hc,hf⟩:=bT hb;have hz:=hb.size;simp at hz;have L1:w.heap.size+1<w1.heap.size:=by omega);exact bodyPost_ret (v:= .agg #[.int .u64 (y3:Int), .int .u64 (z3:Int)]) (by simp[results,Tryz.results103,go_sem,hc,hf,L1]) rfl ⟨by rw[HR.o],bL⟩
theorem wQ (g:Nat) (op c1 c2 c3 c4 c5:Int) (a b:Nat) (k j:Int) (w:World) (ha:a<B*B) (hb:b<B*B) (hg:NodeAt w g op c1 c2 c3 c4 c5):
 Calls Tryz.prog 105 #[fw a k,fw b j, .pointer (some ⟨g,0,none⟩)] w (ai w ((a+b)%(B*B)%2 ^ sh c1)):=by
 have HC:Hd (∀ W,Calls Tryz.prog 106 #[aC a,aC b, .int .i64 c1] W (ai W ((a+b)%(B*B)%2 ^ sh c1))):=fun W=>sv a b c1 W ha hb
 unfold NodeAt at hg;have hgl:g<w.heap.size:=(bV hg).1;have hgl1:g<w.heap.size+1:=om;have hgl2:g<w.heap.size+1+1:=om;have q1:w.cell? ⟨g,1,none⟩=some (.int .i64 c1):=by simp[World.cell?,hg]
 clear hg;generalize (a+b)%(B*B)%2 ^ sh c1=r at*;obtain ⟨y3,z3,he3,-,-⟩:=ae r;obtain ⟨y,z,he,ey,ez⟩:=ae a;obtain ⟨y1,z1,he1,ey1,ez1⟩:=ae b;have HR:=hD he3;unfold fw;rw[<- ey, <-ez, <-ey1, <-ez1];unfold ai at HC;rw[he3,he,he1] at HC;clear he he1 he3 ey ez ey1 ez1 ha hb;go_enter Tryz.func105,Tryz.ntmps105;go_wp2_with (go_at_call 106;refine (HC.o _).mono ?_;rintro e w1 ⟨rfl,hb⟩;obtain ⟨hc,hf⟩:=bT hb;have hz:=hb.size;simp at hz;have L1:w.heap.size+1<w1.heap.size:=by omega);exact bodyPost_ret (v:= .agg #[.int .u64 (y3:Int), .int .u64 (z3:Int)]) (by simp[results,Tryz.results105,go_sem,hc,hf,L1]) rfl ⟨by rw[HR.o],bL⟩
theorem wR (g:Nat) (op c1 c2 c3 c4 c5:Int) (a b:Nat) (k j:Int) (w:World) (ha:a<B*B) (hb:b<B*B) (hg:NodeAt w g op c1 c2 c3 c4 c5):
 Calls Tryz.prog 107 #[fw a k,fw b j, .pointer (some ⟨g,0,none⟩)] w (ai w ((a+(B*B-b))%(B*B)%2 ^ sh c1)):=by
 have HC:Hd (∀ W,Calls Tryz.prog 96 #[aC a,aC b, .int .i64 c1] W (ai W ((a+(B*B-b))%(B*B)%2 ^ sh c1))):=fun W=>mK a b c1 W ha hb
 unfold NodeAt at hg;have hgl:g<w.heap.size:=(bV hg).1;have hgl1:g<w.heap.size+1:=om;have hgl2:g<w.heap.size+1+1:=om;have q1:w.cell? ⟨g,1,none⟩=some (.int .i64 c1):=by simp[World.cell?,hg]
 clear hg;generalize (a+(B*B-b))%(B*B)%2 ^ sh c1=r at*;obtain ⟨y3,z3,he3,-,-⟩:=ae r;obtain ⟨y,z,he,ey,ez⟩:=ae a;obtain ⟨y1,z1,he1,ey1,ez1⟩:=ae b;have HR:=hD he3;unfold fw;rw[<- ey, <-ez, <-ey1, <-ez1];unfold ai at HC;rw[he3,he,he1] at HC;clear he he1 he3 ey ez ey1 ez1 ha hb;go_enter Tryz.func107,Tryz.ntmps107;go_wp2_with (go_at_call 96;refine (HC.o _).mono ?_;rintro e w1 ⟨rfl,hb⟩;obtain ⟨hc,hf⟩:=bT hb;have hz:=hb.size;simp at hz;have L1:w.heap.size+1<w1.heap.size:=by omega);exact bodyPost_ret (v:= .agg #[.int .u64 (y3:Int), .int .u64 (z3:Int)]) (by simp[results,Tryz.results107,go_sem,hc,hf,L1]) rfl ⟨by rw[HR.o],bL⟩
theorem wS (a b:Nat) (k j:Int) (w:World) (ha:a<B*B) (hb:b<B*B):
 Calls Tryz.prog 108 #[fw a k,fw b j] w (ai w (a &&& b)):=by
 have HC:Hd (∀ W,Calls Tryz.prog 109 #[aC a,aC b] W (ai W (a &&& b))):=fun W=>lq a b W ha hb
 generalize a &&& b=r at*;obtain ⟨y3,z3,he3,-,-⟩:=ae r;obtain ⟨y,z,he,ey,ez⟩:=ae a;obtain ⟨y1,z1,he1,ey1,ez1⟩:=ae b;have HR:=hD he3;unfold fw;rw[<- ey, <-ez, <-ey1, <-ez1];unfold ai at HC;rw[he3,he,he1] at HC;clear he he1 he3 ey ez ey1 ez1 ha hb;go_enter Tryz.func108,Tryz.ntmps108;go_wp2_with (go_at_call 109;refine (HC.o _).mono ?_;rintro e w1 ⟨rfl,hb⟩;obtain ⟨hc,hf⟩:=bT hb;have hz:=hb.size;simp at hz;have L1:w.heap.size+1<w1.heap.size:=by omega);exact bodyPost_ret (v:= .agg #[.int .u64 (y3:Int), .int .u64 (z3:Int)]) (by simp[results,Tryz.results108,go_sem,hc,hf,L1]) rfl ⟨by rw[HR.o],bL⟩
theorem wT (a b:Nat) (k j:Int) (w:World) (ha:a<B*B) (hb:b<B*B):
 Calls Tryz.prog 110 #[fw a k,fw b j] w (ai w (a ^^^ b)):=by
 have HC:Hd (∀ W,Calls Tryz.prog 111 #[aC a,aC b] W (ai W (a ^^^ b))):=fun W=>mH a b W ha hb
 generalize a ^^^ b=r at*;obtain ⟨y3,z3,he3,-,-⟩:=ae r;obtain ⟨y,z,he,ey,ez⟩:=ae a;obtain ⟨y1,z1,he1,ey1,ez1⟩:=ae b;have HR:=hD he3;unfold fw;rw[<- ey, <-ez, <-ey1, <-ez1];unfold ai at HC;rw[he3,he,he1] at HC;clear he he1 he3 ey ez ey1 ez1 ha hb;go_enter Tryz.func110,Tryz.ntmps110;go_wp2_with (go_at_call 111;refine (HC.o _).mono ?_;rintro e w1 ⟨rfl,hb⟩;obtain ⟨hc,hf⟩:=bT hb;have hz:=hb.size;simp at hz;have L1:w.heap.size+1<w1.heap.size:=by omega);exact bodyPost_ret (v:= .agg #[.int .u64 (y3:Int), .int .u64 (z3:Int)]) (by simp[results,Tryz.results110,go_sem,hc,hf,L1]) rfl ⟨by rw[HR.o],bL⟩
theorem yL (a b:Nat) (k j:Int) (w:World) (ha:a<B*B) (hb:b<B*B):
 Calls Tryz.prog 112 #[fw a k,fw b j] w (ai w (a ||| b)):=by
 have HC:Hd (∀ W,Calls Tryz.prog 113 #[aC a,aC b] W (ai W (a ||| b))):=fun W=>nJ a b W ha hb
 generalize a ||| b=r at*
 obtain ⟨y3,z3,he3,-,-⟩:=ae r;obtain ⟨y,z,he,ey,ez⟩:=ae a;obtain ⟨y1,z1,he1,ey1,ez1⟩:=ae b;have HR:=hD he3;unfold fw;rw[<- ey, <-ez, <-ey1, <-ez1];unfold ai at HC;rw[he3,he,he1] at HC;clear he he1 he3 ey ez ey1 ez1 ha hb;go_enter Tryz.func112,Tryz.ntmps112;go_wp2_with (go_at_call 113;refine (HC.o _).mono ?_;rintro e w1 ⟨rfl,hb⟩;obtain ⟨hc,hf⟩:=bT hb;have hz:=hb.size;simp at hz;have L1:w.heap.size+1<w1.heap.size:=by omega);exact bodyPost_ret (v:= .agg #[.int .u64 (y3:Int), .int .u64 (z3:Int)]) (by simp[results,Tryz.results112,go_sem,hc,hf,L1]) rfl ⟨by rw[HR.o],bL⟩
theorem yM (a b:Nat) (k j:Int) (w:World) (ha:a<B*B) (hb:b<B*B):
 Calls Tryz.prog 115 #[fw a k,fw b j] w (ai w (dI (decide (a<b)))):=by
 have HC:Hd (∀ W,CR 116 #[aC a,aC b] W (.int .i64 (dX a b))):=fun W=>mL a b W ha hb
 have HO:Hd (∀ (t:Bool) W,Calls Tryz.prog 92 #[.bool t] W (ai W (dI t))):=fun t W=>kY t W
 have HT:Hd (decide (dX a b<0)=decide (a<b)):=by
  show _=_;unfold dX;split
  ·simp;omega
  split<;>simp<;>omega
 obtain ⟨y,z,he,ey,ez⟩:=ae a;obtain ⟨y1,z1,he1,ey1,ez1⟩:=ae b;unfold fw;rw[<- ey, <-ez, <-ey1, <-ez1];rw[he,he1] at HC;generalize dX a b=c at*;clear he he1 ey ez ey1 ez1 ha hb;go_enter Tryz.func115,Tryz.ntmps115;go_wp2_with (go_at_call 116;refine (HC.o _).mono ?_;rintro e w1 ⟨rfl,hb⟩;obtain ⟨hc,hf⟩:=bT hb;have hz:=hb.size;simp at hz;have L1:w.heap.size+1<w1.heap.size:=by omega);rw[HT.o];have HO1:=HO.o (decide (a<b));generalize dI (decide (a<b))=r at*;obtain ⟨y3,z3,he3,-,-⟩:=ae r;have HR:=hD he3;unfold ai at HO1;rw[he3] at HO1;refine (HO1 _).mono ?_;rintro e w2 ⟨rfl,hb2⟩;obtain ⟨hc2,hf2⟩:=bT hb2;have hz2:=hb2.size;have L2:w.heap.size+1<w2.heap.size:=om;have L3:w.heap.size+1+1<w1.heap.size:=om;have L4:w.heap.size+1+1<w2.heap.size:=om;clear HO1;go_wp2_with fail;exact bodyPost_ret (v:= .agg #[.int .u64 (y3:Int), .int .u64 (z3:Int)]) (by simp[results,Tryz.results115,go_sem,hc,hf,hc2,hf2,L1,L2,L3,L4]) rfl ⟨by rw[HR.o],bL⟩
theorem yN (a b:Nat) (k j:Int) (w:World) (ha:a<B*B) (hb:b<B*B):
 Calls Tryz.prog 117 #[fw a k,fw b j] w (ai w (dI (decide (a<=b)))):=by
 have HC:Hd (∀ W,CR 116 #[aC a,aC b] W (.int .i64 (dX a b))):=fun W=>mL a b W ha hb
 have HO:Hd (∀ (t:Bool) W,Calls Tryz.prog 92 #[.bool t] W (ai W (dI t))):=fun t W=>kY t W
 have HT:Hd (decide (dX a b<=0)=decide (a<=b)):=by
  show _=_;unfold dX;split
  ·simp;omega
  split<;>simp<;>omega
 obtain ⟨y,z,he,ey,ez⟩:=ae a;obtain ⟨y1,z1,he1,ey1,ez1⟩:=ae b;unfold fw;rw[<- ey, <-ez, <-ey1, <-ez1];rw[he,he1] at HC;generalize dX a b=c at*;clear he he1 ey ez ey1 ez1 ha hb;go_enter Tryz.func117,Tryz.ntmps117;go_wp2_with (go_at_call 116;refine (HC.o _).mono ?_;rintro e w1 ⟨rfl,hb⟩;obtain ⟨hc,hf⟩:=bT hb;have hz:=hb.size;simp at hz;have L1:w.heap.size+1<w1.heap.size:=by omega);rw[HT.o];have HO1:=HO.o (decide (a<=b));generalize dI (decide (a<=b))=r at*;obtain ⟨y3,z3,he3,-,-⟩:=ae r;have HR:=hD he3;unfold ai at HO1;rw[he3] at HO1;refine (HO1 _).mono ?_;rintro e w2 ⟨rfl,hb2⟩;obtain ⟨hc2,hf2⟩:=bT hb2;have hz2:=hb2.size;have L2:w.heap.size+1<w2.heap.size:=om;have L3:w.heap.size+1+1<w1.heap.size:=om;have L4:w.heap.size+1+1<w2.heap.size:=om;clear HO1;go_wp2_with fail;exact bodyPost_ret (v:= .agg #[.int .u64 (y3:Int), .int .u64 (z3:Int)]) (by simp[results,Tryz.results117,go_sem,hc,hf,hc2,hf2,L1,L2,L3,L4]) rfl ⟨by rw[HR.o],bL⟩
theorem Ea (x y z u:Nat) (W:World):(Go.binOp .eql 60 (.agg #[.int .u64 (x:Int), .int .u64 (y:Int)]) (.agg #[.int .u64 (z:Int), .int .u64 (u:Int)])).run Tryz.prog W= .ok (.bool (decide (x=z/\y=u))) W:=by
 exact Dx
theorem yO (a b:Nat) (k j:Int) (w:World) (ha:a<B*B) (hb:b<B*B):
 Calls Tryz.prog 114 #[fw a k,fw b j] w (ai w (dI (decide (a=b)))):=by
 have HO1:Hd (∀ W,Calls Tryz.prog 92 #[.bool (decide (a=b))] W (ai W (dI (decide (a=b))))):=fun W=>kY _ W
 obtain ⟨y,z,he,ey,ez⟩:=ae a;obtain ⟨y1,z1,he1,ey1,ez1⟩:=ae b;have HT:decide (a=b)=decide (y=y1/\z=z1):=by
  rw[decide_eq_decide,ey,ez,ey1,ez1];exact DW
 have heq:=fun W=>Ea y z y1 z1 W
 rw[<- HT] at heq;unfold fw;rw[<- ey, <-ez, <-ey1, <-ez1];generalize decide (a=b)=t at*;generalize dI t=r at*;obtain ⟨y3,z3,he3,-,-⟩:=ae r;have HR:=hD he3;unfold ai at HO1;rw[he3] at HO1;clear he he1 he3 ey ez ey1 ez1 ha hb HT;go_enter Tryz.func114,Tryz.ntmps114;go_wp2_with (go_at_call 92;refine (HO1.o _).mono ?_;rintro e w1 ⟨rfl,hb⟩;obtain ⟨hc,hf⟩:=bT hb;have hz:=hb.size;simp at hz;have L1:w.heap.size+1<w1.heap.size:=by omega);exact bodyPost_ret (v:= .agg #[.int .u64 (y3:Int), .int .u64 (z3:Int)]) (by simp[results,Tryz.results114,go_sem,hc,hf,L1]) rfl ⟨by rw[HR.o],bL⟩
open Stab
def eI (x:Pkt) (args:List Nat) (c:List Nod) (k:Nat):List (Nat×Int):=(c.take k).foldl (fT x args) []
inductive NStep (p:Prg) (act:Int) (x:Pkt) (args:List Nat) (n:Nod):List (Nat×Int)->List (Nat×Int)->Prop
 |leaf (st):1<=n.op->n.op<=6->bs p act n=n.w->dl n.w=true->NStep p act x args n st ((ir x args n%2 ^ sh n.w,n.w)::st)
 |un (a:Nat) (j:Int) (r):fO n.op->a<B*B->dl j=true->dm n j=n.w->dl n.w=true->NStep p act x args n ((a,j)::r) ((kM n a%2 ^ sh n.w,n.w)::r)
 |bin (a:Nat) (i:Int) (b:Nat) (j:Int) (r):¬fO n.op->(n.op=10\/(11<=n.op/\n.op<=17)\/n.op=18\/n.op=19\/n.op=20)->a<B*B->b<B*B->NStep p act x args n ((b,j)::(a,i)::r) ((eT n a b j%2 ^ sh n.w,n.w)::r)
theorem mO (v:Nat) (k:Int):v%2 ^ sh k<B*B:=cL (k:=k) (Nat.mod_lt _ (Nat.two_pow_pos _))
theorem uC (x:Pkt) (args:List Nat) (c:List Nod) {k:Nat} (hn:c[k]?=some n):eI x args c (k+1)=fT x args (eI x args c k) n:=by
 unfold eI;rw[List.take_add_one,hn,List.foldl_append];rfl
def tj (p:Prg) (act:Int) (c:List Nod) (k:Nat) (st:List (Nat×Int)):Prop:=bI p act [] (c.take k)=some (st.map Prod.snd)/\∀e∈st,e.1<B*B/\dl e.2=true
theorem mP {c d:List Nod} {st r:List Int} (h:bI p act st (c++d)=some r):∃s,bI p act st c=some s/\bI p act s d=some r:=by
 rw[fR] at h;cases hq:bI p act st c with
 |none=>rw[hq] at h;cases h
 |some s=>rw[hq] at h;exact ⟨s,rfl,h⟩
theorem qK {c:List Nod} (x:Pkt) (args:List Nat) (hw:aL p act c=some wt) {k:Nat} (hn:c[k]?=some n) (hs:tj p act c k (eI x args c k)):
 NStep p act x args n (eI x args c k) (eI x args c (k+1))/\tj p act c (k+1) (eI x args c (k+1)):=by
 rw[uC x args c hn];generalize eI x args c k=st at*;obtain ⟨h1,h2⟩:=hs;have hc:bI p act [] c=some [wt]:=by
  unfold aL at hw;split at hw
  ·cases hw
  split at hw
  ·rename_i w' hq;cases hw;exact hq
  cases hw
 have htk:c.take (k+1)=c.take k++[n]:=by rw[List.take_add_one,hn];rfl
 have hd:c=c.take (k+1)++c.drop (k+1):=(List.take_append_drop _ _).symm;obtain ⟨s2,h3,-⟩:=mP (c:=c.take (k+1)) (d:=c.drop (k+1)) (by rw[<- hd];exact hc);have h3':=h3;rw[htk] at h3';obtain ⟨s1,h4,h5⟩:=mP h3';rw[h1] at h4;cases h4;rw[bI] at h5;cases hq:cO p act (st.map Prod.snd) n with
 |none=>rw[hq] at h5;cases h5
 |some s3=>
  rw[hq] at h5;simp only[bI,Option.some.injEq] at h5;subst h5;unfold tj;rw[h3];unfold cO at hq;simp only at hq;split at hq
  ·rename_i hop;split at hq
   ·rename_i hp;cases hq;have e:fT x args st n=(ir x args n%2 ^ sh n.w,n.w)::st:=by unfold fT;rw[if_pos hop.2]
    rw[e];have hok:dl n.w=true:=by rw[<- hp.1];exact hp.2
    refine ⟨.leaf st hop.1 hop.2 hp.1 hok,by simp[hp.1],fun e he=>?_⟩;rcases List.mem_cons.1 he with rfl|he
    ·exact ⟨mO _ _,hok⟩
    ·exact h2 e he
   cases hq
  rename_i hop;split at hq
  ·cases hq
  split at hq
  ·rename_i hun;split at hq
   ·cases hq
   rename_i t r hst;split at hq
   ·rename_i hp;cases hq;match st,hst with
    |(a,j)::st,hst=>
     simp only[List.map_cons,List.cons.injEq] at hst;obtain ⟨rfl,rfl⟩:=hst;have e:fT x args ((a,j)::st) n=(kM n a%2 ^ sh n.w,n.w)::st:=by unfold fT;rw[if_neg (o8 hun),if_pos hun]
     rw[e];have hok:dl n.w=true:=by rw[<- hp.1];exact hp.2
     have ha:=h2 (a,j) sm;refine ⟨.un a j st hun ha.1 ha.2 hp.1 hok,by simp[hp.1],fun e he=>?_⟩;rcases List.mem_cons.1 he with rfl|he
     ·exact ⟨mO _ _,hok⟩
     exact h2 e (by simp[he])
   cases hq
  rename_i hun;split at hq
  ·rename_i b a r hst;split at hq
   ·rename_i hp;cases hq;match st,hst with
    |(b',j)::(a',i)::st,hst=>
     simp only[List.map_cons,List.cons.injEq] at hst;obtain ⟨rfl,rfl,rfl⟩:=hst;have hok:dl n.w=true:=by rw[<- hp.1];exact hp.2
     have hb:=lF hp.1 hok;have e:fT x args ((b',j)::(a',i)::st) n=(eT n a' b' j%2 ^ sh n.w,n.w)::st:=by unfold fT;rw[if_neg om,if_neg hun]
     rw[e];refine ⟨.bin a' i b' j st hun hb (h2 (a',i) sm).1 (h2 (b',j) sm).1,by simp[hp.1],fun e he=>?_⟩;rcases List.mem_cons.1 he with rfl|he
     ·exact ⟨mO _ _,hok⟩
     exact h2 e (by simp[he])
   cases hq
  cases hq
theorem wU {c:List Nod} (x:Pkt) (args:List Nat) (hw:aL p act c=some wt):∀k,k<=c.length->tj p act c k (eI x args c k)
 |0,_=>⟨by simp[eI,bI],by simp[eI]⟩
 |k+1,hk=>(qK x args hw (bS om) (wU x args hw k om)).2
theorem qL {c:List Nod} (x:Pkt) (args:List Nat) (hw:aL p act c=some wt) {k:Nat} (hn:c[k]?=some n):NStep p act x args n (eI x args c k) (eI x args c (k+1)):=
 (qK x args hw hn (wU x args hw k (Nat.le_of_lt (bO hn).1))).1
theorem qM {c:List Nod} (x:Pkt) (args:List Nat) (hw:aL p act c=some wt):∀k,k<=c.length->(eI x args c k).length<=k
 |0,_=>by simp[eI]
 |k+1,hk=>by
  have ih:=qM x args hw k om;have h:=qL x args hw (bS (show k<c.length by omega));generalize eI x args c k=st at*;generalize eI x args c (k+1)=st2 at*;cases h<;>simp at ih⊢<;>omega
theorem wV {c:List Nod} (x:Pkt) (args:List Nat) (hw:aL p act c=some wt):∃j,eI x args c c.length=[(ct x args c,j)]:=by
 obtain ⟨t,rfl,ht⟩:=kK hw;refine ⟨t.root.w,?_⟩;unfold eI;rw[List.take_length,lS x args ht,lT x args ht]
def iN (x:Pkt) (c:List Nod) (k:Nat):Bool:=(c.take k).any (eO x)
theorem uD {x:Pkt} {c:List Nod} {k:Nat} (hn:c[k]?=some n):iN x c (k+1)=(iN x c k||eO x n):=by
 unfold iN;rw[List.take_add_one,hn];simp
theorem wW (x:Pkt) (c:List Nod):iN x c c.length=co x c:=by unfold iN co;rw[List.take_length]
end Go.Proofs.YtjfhfaodbjecdaaGreat
