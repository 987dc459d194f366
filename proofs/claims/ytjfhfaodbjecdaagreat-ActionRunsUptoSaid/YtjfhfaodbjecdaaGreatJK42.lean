/- Lemmas. -/
import Derived.Test.YtjfhfaodbjecdaaGreatJK41
set_option maxHeartbeats 4000000
set_option maxRecDepth 100000
namespace Go.Proofs.YtjfhfaodbjecdaaGreat
open Go.RowKit Go.Maps
variable {w WB:World} {n0 m g n c y gN g4 r z y3 z3 cv:Nat} {st:List (Nat×Int)} {v:Value} {b:Int} {js:List Nat} {L:Array Bool} {pv:Option Addr} {l:List Value}
theorem Stk.push {w1:World} {x:Value×Value} {a:Nat} {k:Int} {cap:Nat}
 (h1:w.heap[m]?=some (.cells #[x.1,x.2,v] 102 (0,0))) (hk:w1.heap[m]?=w.heap[m]?) (h4:n0<=m) (h5:st.length<100000)
 (hown:w1.ownsRow n0 105 3 (.slice (some ⟨g,0,none⟩) (st.length+1) cap) (st.length+1) (dA st++jX (a,k))) (hgm:g≠m):
 Stk (w1.setCell ⟨m,2,none⟩ (.slice (some ⟨g,0,none⟩) (st.length+1) cap)) n0 m x (st++[(a,k)]):=by
 refine ⟨.slice (some ⟨g,0,none⟩) (st.length+1) cap,iU (hk.trans h1),?_,fun e=>hgm (by simpa [Value.ownBlock] using e),h4,by simp;omega⟩;rw[iT,List.length_append,List.length_singleton];obtain ⟨q0,q|⟨g',cap',cur,q1,q2,q3,q4⟩⟩:=hown
 ·exact absurd q.1 sm
 simp only[Value.slice.injEq,Option.some.injEq,Addr.mk.injEq,and_true,true_and] at q1;obtain ⟨rfl,rfl⟩:=q1;exact ⟨q0, .inr ⟨g,cap,cur,rfl,q2,by rw[aq hgm];exact q3,q4⟩⟩
theorem xh {base e size:Nat} {xs:List Value} (h:w.ownsRow base e size v n xs) {k:Nat} (hk:v.ownBlock=some k):∃cur,w.heap[k]?=some (.cells cur e (0,0))/\base<=k:=by
 obtain ⟨-,q|⟨g,cap,cur,rfl,q2,q3,-⟩⟩:=h
 ·rw[q.1] at hk;cases hk
 simp only[Value.ownBlock,Option.some.injEq] at hk;subst hk;exact ⟨cur,q3,q2⟩
theorem uF:(Tryz.prog.info? 105).map (fun i=>(i.zero,i.size,i.bytes))=some (some (.agg #[.int .u64 0, .int .u64 0, .int .i64 0]),3,24):=by kernel_rfl
theorem uG (a b c:Int):∀u∈[Value.int .u64 a, .int .u64 b, .int .i64 c],u.oneCell'=true:=by
 intro u hu;simp only[List.mem_cons,List.not_mem_nil,or_false] at hu;rcases hu with rfl|rfl|rfl<;>rfl
section
variable {P:Program} {o:Oper} {w:World} {ev:Operand->Value}
theorem kC {x:Operand} {p:Addr} (h:o.op= .nilCheck x) (hx:ev x= .pointer (some p)):(execOp ev o).run P w= .ok (.value (.pointer (some p))) w:=by
 unfold execOp;rw[h];dsimp only;rw[hx];rfl
theorem mS {x:Operand} (h:o.op= .fieldAddr 102 x 2) (hx:ev x= .pointer (some ⟨g,0,none⟩)):(execOp ev o).run Tryz.prog w= .ok (.value (.pointer (some ⟨g,2,none⟩))) w:=by
 exact A4
theorem sA {x:Operand} (h:o.op= .fieldAddr 65 x 1) (hx:ev x= .pointer (some ⟨g,0,none⟩)):(execOp ev o).run Tryz.prog w= .ok (.value (.pointer (some ⟨g,1,none⟩))) w:=by
 exact A4
theorem nE {x:Operand} {j:Nat} {p:Option Addr} (h:o.op= .load 100 x) (hx:ev x= .pointer (some ⟨g,j,none⟩)) (h0:w.cell? ⟨g,j,none⟩=some (.slice p n c)):
 (execOp ev o).run Tryz.prog w= .ok (.value (.slice p n c)) w:=by
 exact A4
theorem oA {x:Operand} {j:Nat} {v:Int} (h:o.op= .load 3 x) (hx:ev x= .pointer (some ⟨g,j,none⟩)) (h0:w.cell? ⟨g,j,none⟩=some (.int .i64 v)):
 (execOp ev o).run Tryz.prog w= .ok (.value (.int .i64 v)) w:=by
 exact A4
theorem uH {x:Operand} {a:Int} (h:o.op= .load 60 x) (hx:ev x= .pointer (some ⟨g,0,none⟩)) (h0:w.cell? ⟨g,0,none⟩=some (.int .u64 a)) (h1:w.cell? ⟨g,1,none⟩=some (.int .u64 b)):
 (execOp ev o).run Tryz.prog w= .ok (.value (.agg #[.int .u64 a, .int .u64 b])) w:=by
 exact A4
theorem mT {x y:Operand} {a k:Int} (h:o.op= .build 105 #[(0,x),(1,y)]) (hx:ev x= .agg #[.int .u64 a, .int .u64 b]) (hy:ev y= .int .i64 k):
 (execOp ev o).run Tryz.prog w= .ok (.value (.agg #[.int .u64 a, .int .u64 b, .int .i64 k])) w:=by
 unfold execOp;rw[h];dsimp only;simp only[List.map_toArray,List.map_cons,List.map_nil];rw[hx,hy];go_simp
theorem mU {x:Operand} {a b k:Value} (h:o.op= .buildSlice 100 1 #[(0,x)]) (hx:ev x= .agg #[a,b,k]):
 (execOp ev o).run Tryz.prog w= .ok (.value (.slice (some ⟨w.heap.size,0,none⟩) 1 1)) (w.alloc (.cells #[a,b,k] 105)):=by
 unfold execOp;rw[h];dsimp only;simp only[List.map_toArray,List.map_cons,List.map_nil];rw[hx];go_simp
theorem mV {x y:Operand} {j:Nat} {p:Option Addr} {u:Value} (h:o.op= .store 100 x y) (hx:ev x= .pointer (some ⟨g,j,none⟩)) (hy:ev y= .slice p n c) (h0:w.cell? ⟨g,j,none⟩=some u) (h1:w.frozen? ⟨g,j,none⟩=false):
 (execOp ev o).run Tryz.prog w= .ok .skip (w.setCell ⟨g,j,none⟩ (.slice p n c)):=by
 unfold execOp;rw[h];dsimp only;rw[hx,hy];go_simp
end
structure PC (n0 m gN g4:Nat) (x:Value×Value) (st:List (Nat×Int)) (r:Nat) (k:Int) (y z y3 z3:Nat) (pv:Option Addr) (cv:Nat) (WB:World) (T:List Value):Prop where
 tl:T.length=70
 t0:fZ T 0= .pointer (some ⟨m,0,none⟩)
 t3:fZ T 3= .pointer (some ⟨gN,0,none⟩)
 t4:fZ T 4= .pointer (some ⟨g4,0,none⟩)
 hm:WB.heap[m]?=some (.cells #[x.1,x.2, .slice pv st.length cv] 102 (0,0))
 own:WB.ownsRow n0 105 3 (.slice pv st.length cv) st.length (dA st)
 nm:(Value.slice pv st.length cv).ownBlock≠some m
 n0m:n0<=m
 len:st.length<100000
 cn:WB.cell? ⟨gN,1,none⟩=some (.int .i64 k)
 ca:WB.cell? ⟨g4,0,none⟩=some (.int .u64 (y:Int))
 cb:WB.cell? ⟨g4,1,none⟩=some (.int .u64 (z:Int))
 cut:∀W,Calls Tryz.prog 69 #[.agg #[.int .u64 (y:Int), .int .u64 (z:Int)], .int .i64 k] W fun e w'=>e= .returned (.agg #[.int .u64 (y3:Int), .int .u64 (z3:Int)])/\Bl W w'
 e3:jX (r,k)=[.int .u64 (y3:Int), .int .u64 (z3:Int), .int .i64 k]
def Eg (n0 m:Nat) (st:List (Nat×Int)) (r:Nat) (k:Int) (WB:World) (v:Value) (w:World):Prop:=
 ∃g cap,v= .slice (some ⟨g,0,none⟩) (st.length+1) cap/\w.ownsRow n0 105 3 v (st.length+1) (dA st++jX (r,k))/\g≠m/\w.heap[m]?=WB.heap[m]?/\Below n0 WB w
def pB (n0 m:Nat) (x:Value×Value) (st:List (Nat×Int)) (r:Nat) (k:Int) (WB w:World):Prop:=Stk w n0 m x (st++[(r,k)])/\Below n0 WB w
def pS (y3 z3:Nat) (k:Int) (WB:World) (v:Value) (w:World):Prop:=∃g,v= .slice (some ⟨g,0,none⟩) 1 1/\WB.heap.size<=g/\w.heap[g]?=some (.cells #[.int .u64 (y3:Int), .int .u64 (z3:Int), .int .i64 k] 105 (0,0))
def qN (js:List Nat) (v:Value):List Nat×Tw:=(js,fun _ _ _ x=>x=v)
def uI (js:List Nat):List Nat×Tw:=(js,fun _ _ _ _=>True)
def pR (n0 m gN g4:Nat) (x:Value×Value) (st:List (Nat×Int)) (r:Nat) (k:Int) (y z y3 z3:Nat) (pv:Option Addr) (cv:Nat) (WB:World):Rw where
 n0:=WB.heap.size
 dep:=fun _=>False
 kd:=[qN [] (.pointer (some ⟨m,0,none⟩)),qN [] (.pointer (some ⟨m,0,none⟩)),qN [] (.pointer (some ⟨m,0,none⟩)),qN [] (.pointer (some ⟨m,2,none⟩)),qN [] (.slice pv st.length cv),qN [] (.agg #[.int .u64 (y:Int), .int .u64 (z:Int)]),
  qN [] (.pointer (some ⟨gN,1,none⟩)),qN [] (.int .i64 k),qN [5,7] (.agg #[.int .u64 (y3:Int), .int .u64 (z3:Int)]),qN [] (.pointer (some ⟨gN,1,none⟩)),qN [] (.int .i64 k),qN [8,10] (.agg #[.int .u64 (y3:Int), .int .u64 (z3:Int), .int .i64 k]),uI [11],uI [4,12],
  qN [] (.pointer (some ⟨m,0,none⟩)),qN [] (.pointer (some ⟨m,2,none⟩)),uI [13]]
 G:=fun L l w=>(aZ L 13=false->Bl WB w/\(aZ L 12=true->pS y3 z3 k WB (fZ l 12) w))/\(aZ L 13=true->aZ L 16=false->Eg n0 m st r k WB (fZ l 13) w)/\(aZ L 16=true->pB n0 m x st r k WB w)
section
variable {S:Rw} {w w':World} {L:Array Bool} {l:List Value}
def Rw.Free (S:Rw):Prop:=∀(i:Nat) (js:List Nat) (P:Tw),S.kd[i]?=some (js,P)->∀(B:Nat->Prop) (w w':World) (ls:List Value) (v:Value),P B w ls v->P B w' ls v
theorem RW.free (i:Nat) (v:Value) {P:Tw} (h:RW S L l w) (hS:S.Free) (hn:aZ L i=false) (hL:i<L.size) (hl:i<l.length) (hk:S.kd[i]?=some (js,P)) (hjs:∀j∈js,aZ L j=true) (hsz:w.heap.size<=w'.heap.size)
 (hG:S.G L l w->S.G (L.setIfInBounds i true) (l.set i v) w') (hnew:P (uE w w') w' (js.map (fZ l)) v):RW S (L.setIfInBounds i true) (l.set i v) w':=by
 obtain ⟨B,h⟩:=h;exact h.turn i v hn hL hl hk hjs hsz (fun j js' P' _ hk' hp=>hS j js' P' hk' _ _ _ _ _ hp) (hG h.glob) hnew
theorem RW.gotJ (h:RW S L l w) (i:Nat) (hd:aZ L i=true) (hk:S.kd[i]?=some (qN js v)):fZ l i=v:=by
 obtain ⟨B,h⟩:=h;exact (h.ok i _ _ hd hk).2
theorem RW.hangs (h:RW S L l w) (i:Nat) {P:Tw} (hd:aZ L i=true) (hk:S.kd[i]?=some (js,P)):∀j∈js,aZ L j=true:=by
 obtain ⟨B,h⟩:=h;exact (h.ok i _ _ hd hk).1
end
section
variable {n0 m gN g4:Nat} {x:Value×Value} {st:List (Nat×Int)} {r:Nat} {k:Int} {y z y3 z3:Nat} {pv:Option Addr} {cv:Nat} {WB w w':World} {T l:List Value} {L:Array Bool}
theorem yU:(pR n0 m gN g4 x st r k y z y3 z3 pv cv WB).Free:=fun i js P hk B w w' ls v hp=>by
 match i,hk with
 |0,hk=>cases hk;exact hp
 |1,hk=>cases hk;exact hp
 |2,hk=>cases hk;exact hp
 |3,hk=>cases hk;exact hp
 |4,hk=>cases hk;exact hp
 |5,hk=>cases hk;exact hp
 |6,hk=>cases hk;exact hp
 |7,hk=>cases hk;exact hp
 |8,hk=>cases hk;exact hp
 |9,hk=>cases hk;exact hp
 |10,hk=>cases hk;exact hp
 |11,hk=>cases hk;exact hp
 |12,hk=>cases hk;exact hp
 |13,hk=>cases hk;exact hp
 |14,hk=>cases hk;exact hp
 |15,hk=>cases hk;exact hp
 |16,hk=>cases hk;exact hp
 |i+17,hk=>simp[pR] at hk
theorem Bi (h:RW (pR n0 m gN g4 x st r k y z y3 z3 pv cv WB) L l w) (hd:aZ L 13=true):aZ L 4=true/\aZ L 5=true/\aZ L 7=true/\aZ L 8=true/\aZ L 10=true/\aZ L 11=true/\aZ L 12=true:=by
 have h13:=h.hangs 13 hd rfl;have d4:=h13 4 sm;have d12:=h13 12 sm;have d11:=h.hangs 12 d12 rfl 11 sm;have h11:=h.hangs 11 d11 rfl;have d8:=h11 8 sm;have h8:=h.hangs 8 d8 rfl;exact ⟨d4,h8 5 sm,h8 7 sm,d8,h11 10 sm,d11,d12⟩
theorem Bj (h:RW (pR n0 m gN g4 x st r k y z y3 z3 pv cv WB) L l w) (hd:aZ L 16=true):aZ L 13=true:=h.hangs 16 hd rfl 13 sm
theorem pq {a b:Nat} (h1:aZ L a=true) (h2:aZ L b=true):∀j∈[a,b],aZ L j=true:=fun j hj=>by
 simp only[List.mem_cons,List.not_mem_nil,or_false] at hj;rcases hj with rfl|rfl
 ·exact h1
 ·exact h2
theorem Bk {b:Bool} (h:b=true->False):b=false:=by cases b;rfl;exact (h rfl).elim
theorem xi (h:RW (pR n0 m gN g4 x st r k y z y3 z3 pv cv WB) L l w) (hd:aZ L 13=false):Bl WB w:=(h.glob.1 hd).1
theorem yV {i:Nat} (h12:i≠12) (h13:i≠13) (h16:i≠16) (h:(pR n0 m gN g4 x st r k y z y3 z3 pv cv WB).G L l w):(pR n0 m gN g4 x st r k y z y3 z3 pv cv WB).G (L.setIfInBounds i true) (l.set i v) w:=by
 obtain ⟨a,b,c⟩:=h;refine ⟨?_,?_,?_⟩
 ·rw[aT (fun e=>h13 e.symm),aT (fun e=>h12 e.symm),dO h12];exact a
 ·rw[aT (fun e=>h13 e.symm),aT (fun e=>h16 e.symm),dO h13];exact b
 rw[aT (fun e=>h16 e.symm)];exact c
theorem xj {i:Nat} (h13:i≠13) (h16:i≠16) (d13:aZ L 13=false) (d16:aZ L 16=false) (hb:Bl w w') (hi:i=12->pS y3 z3 k WB v w') (hL:i<l.length) (h:(pR n0 m gN g4 x st r k y z y3 z3 pv cv WB).G L l w):(pR n0 m gN g4 x st r k y z y3 z3 pv cv WB).G (L.setIfInBounds i true) (l.set i v) w':=by
 obtain ⟨a,b,c⟩:=h;obtain ⟨a1,a2⟩:=a d13;refine ⟨fun _=>⟨a1.trans (hb.mono a1.size),fun hd=>?_⟩,fun hd=>?_,fun hd=>?_⟩
 ·by_cases e:i=12
  ·subst e;rw[jF hL];exact hi rfl
  rw[aT (fun q=>e q.symm)] at hd;rw[dO e];obtain ⟨g,e1,e2,e3⟩:=a2 hd;exact CG
 ·rw[aT (fun e=>h13 e.symm),d13] at hd;cases hd
 rw[aT (fun e=>h16 e.symm),d16] at hd;cases hd
end
abbrev ed:List (Option Nat):=[some 54,some 55,some 56,some 57,some 58,some 59,some 60,some 61,some 62,some 63,some 64,some 65,some 66,some 67,some 68,some 69,none]
noncomputable def reg9:{ c:Array Oper // (Tryz.f41.body.bind (bN 9))=some (.region 9 c true) }:=⟨_,rfl⟩
theorem iK:reg9.1.size=17:=rfl
theorem Bm:∃o,reg9.1[0]?=some o/\o.dst=some 54/\o.guard=none/\o.op= .move (.tmp 0):=⟨_,rfl,rfl,rfl,rfl⟩
theorem Bn:∃o,reg9.1[1]?=some o/\o.dst=some 55/\o.guard=none/\o.op= .move (.tmp 0):=⟨_,rfl,rfl,rfl,rfl⟩
theorem Bo:∃o,reg9.1[2]?=some o/\o.dst=some 56/\o.guard=none/\o.op= .nilCheck (.tmp 55):=⟨_,rfl,rfl,rfl,rfl⟩
theorem Bp:∃o,reg9.1[3]?=some o/\o.dst=some 57/\o.guard=none/\o.op= .fieldAddr 102 (.tmp 56) 2:=⟨_,rfl,rfl,rfl,rfl⟩
theorem Bq:∃o,reg9.1[4]?=some o/\o.dst=some 58/\o.guard=none/\o.op= .load 100 (.tmp 57):=⟨_,rfl,rfl,rfl,rfl⟩
theorem Br:∃o,reg9.1[5]?=some o/\o.dst=some 59/\o.guard=none/\o.op= .load 60 (.tmp 4):=⟨_,rfl,rfl,rfl,rfl⟩
theorem Bs:∃o,reg9.1[6]?=some o/\o.dst=some 60/\o.guard=none/\o.op= .fieldAddr 65 (.tmp 3) 1:=⟨_,rfl,rfl,rfl,rfl⟩
theorem Bt:∃o,reg9.1[7]?=some o/\o.dst=some 61/\o.guard=none/\o.op= .load 3 (.tmp 60):=⟨_,rfl,rfl,rfl,rfl⟩
theorem Bu:∃o,reg9.1[8]?=some o/\o.dst=some 62/\o.guard=none/\o.op= .call { callee:= .value (.func 69),args:=#[.tmp 59, .tmp 61],argTypes:=#[60,3] }:=⟨_,rfl,rfl,rfl,rfl⟩
theorem Bv:∃o,reg9.1[9]?=some o/\o.dst=some 63/\o.guard=none/\o.op= .fieldAddr 65 (.tmp 3) 1:=⟨_,rfl,rfl,rfl,rfl⟩
theorem Ah:∃o,reg9.1[10]?=some o/\o.dst=some 64/\o.guard=none/\o.op= .load 3 (.tmp 63):=⟨_,rfl,rfl,rfl,rfl⟩
theorem Ai:∃o,reg9.1[11]?=some o/\o.dst=some 65/\o.guard=none/\o.op= .build 105 #[(0, .tmp 62),(1, .tmp 64)]:=⟨_,rfl,rfl,rfl,rfl⟩
theorem Aj:∃o,reg9.1[12]?=some o/\o.dst=some 66/\o.guard=none/\o.op= .buildSlice 100 1 #[(0, .tmp 65)]:=⟨_,rfl,rfl,rfl,rfl⟩
theorem Ak:∃o,reg9.1[13]?=some o/\o.dst=some 67/\o.guard=none/\o.op= .call { callee:= .builtin .append,args:=#[.tmp 58, .tmp 66],argTypes:=#[100,100] }:=⟨_,rfl,rfl,rfl,rfl⟩
theorem Al:∃o,reg9.1[14]?=some o/\o.dst=some 68/\o.guard=none/\o.op= .nilCheck (.tmp 54):=⟨_,rfl,rfl,rfl,rfl⟩
theorem Am:∃o,reg9.1[15]?=some o/\o.dst=some 69/\o.guard=none/\o.op= .fieldAddr 102 (.tmp 68) 2:=⟨_,rfl,rfl,rfl,rfl⟩
theorem An:∃o,reg9.1[16]?=some o/\o.dst=none/\o.guard=none/\o.op= .store 100 (.tmp 69) (.tmp 67):=⟨_,rfl,rfl,rfl,rfl⟩
theorem uJ:∀(i:Nat) (o:Oper),reg9.1[i]?=some o->∀e∈o.after,Region.binds .any e=true->e.on<i:=by
 have h:((List.range 17).all fun i=>(reg9.1[i]?.map fun o=>o.after.all fun e=> !Region.binds .any e||decide (e.on<i)).getD false)=true:=by kernel_rfl
 intro i o ho e he hb;have hi:i<17:=by
  by_cases q:i<17
  ·exact q
  rw[Array.getElem?_eq_none (by rw[iK];omega)] at ho;cases ho
 have h2:=List.all_eq_true.1 h i (List.mem_range.2 hi);rw[ho] at h2;simp only[Option.map_some,Option.getD_some,Array.all_eq_true'] at h2;have h3:=h2 e he;rw[hb] at h3;simpa using h3
structure PT (n0 m gN g4:Nat) (x:Value×Value) (st:List (Nat×Int)) (r:Nat) (k:Int) (y z y3 z3:Nat) (pv:Option Addr) (cv:Nat) (WB:World) (T:List Value) (L:Array Bool) (l:List Value) (w:World) (i:Nat):Prop where
 c:PC n0 m gN g4 x st r k y z y3 z3 pv cv WB T
 len:l.length=17
 size:L.size=17
 lt:i<17
 non:aZ L i=false
 rw:RW (pR n0 m gN g4 x st r k y z y3 z3 pv cv WB) L l w
 dep:∀o,reg9.1[i]?=some o->∀e∈o.after,Region.binds .any e=true->aZ L e.on=true
section
variable {n0 m gN g4:Nat} {x:Value×Value} {st:List (Nat×Int)} {r:Nat} {k:Int} {y z y3 z3:Nat} {pv:Option Addr} {cv:Nat} {WB w w':World} {T l:List Value} {L:Array Bool} {i:Nat} {Q:Exit->Act->World->Prop} {o:Oper} {v:Value} {d:Nat}
theorem PT.next (h:PT n0 m gN g4 x st r k y z y3 z3 pv cv WB T L l w i) {p:Tw} (hk:(pR n0 m gN g4 x st r k y z y3 z3 pv cv WB).kd[i]?=some (js,p)) (hjs:∀j∈js,aZ L j=true) (hsz:w.heap.size<=w'.heap.size)
 (hG:(pR n0 m gN g4 x st r k y z y3 z3 pv cv WB).G L l w->(pR n0 m gN g4 x st r k y z y3 z3 pv cv WB).G (L.setIfInBounds i true) (l.set i v) w') (hp:p (uE w w') w' (js.map (fZ l)) v):
 SJ (pR n0 m gN g4 x st r k y z y3 z3 pv cv WB) 17 ed T (L.setIfInBounds i true) (cJ ed T (l.set i v)) w':=
 ⟨_,by simp[h.len],by simp[h.size],rfl,h.rw.free i v yU h.non (by rw[h.size];exact h.lt) (by rw[h.len];exact h.lt) hk hjs hsz hG hp⟩
theorem PT.value (h:PT n0 m gN g4 x st r k y z y3 z3 pv cv WB T L l w i) (ho:reg9.1[i]?=some o) (hd:o.dst=some d) (hs:ew ed d=some i) (hg:o.guard=none)
 (hex:(execOp (cJ ed T l).eval o).run Tryz.prog w= .ok (.value v) w') (hn:SJ (pR n0 m gN g4 x st r k y z y3 z3 pv cv WB) 17 ed T (L.setIfInBounds i true) (cJ ed T (l.set i v)) w'):wpOp Tryz.prog reg9.1 Q i (SJ (pR n0 m gN g4 x st r k y z y3 z3 pv cv WB) 17 ed T (L.setIfInBounds i true)) (cJ ed T l) w:=
 wpOp_step ho fun K hK=>by
  rw[if_pos (iJ hg)];unfold Oper.wp;rw[hex,Oper.upon_value,hd,mR v hs (by rw[h.len];exact h.lt)];exact hK _ _ hn
theorem PT.same (h:PT n0 m gN g4 x st r k y z y3 z3 pv cv WB T L l w i) (ho:reg9.1[i]?=some o) (hd:o.dst=some d) (hs:ew ed d=some i) (hg:o.guard=none) (js:List Nat) (hk:(pR n0 m gN g4 x st r k y z y3 z3 pv cv WB).kd[i]?=some (qN js v)) (hjs:∀j∈js,aZ L j=true) (h12:i≠12) (h13:i≠13) (h16:i≠16)
 (hex:(execOp (cJ ed T l).eval o).run Tryz.prog w= .ok (.value v) w):wpOp Tryz.prog reg9.1 Q i (SJ (pR n0 m gN g4 x st r k y z y3 z3 pv cv WB) 17 ed T (L.setIfInBounds i true)) (cJ ed T l) w:=
 h.value ho hd hs hg hex (h.next hk hjs lr (yV h12 h13 h16) rfl)
theorem PT.new (h:PT n0 m gN g4 x st r k y z y3 z3 pv cv WB T L l w i) {s j:Nat} (hs:ew ed s=some j) (ht:s<70):(cJ ed T l).eval (.tmp s)=fZ l j:=xe (by rw[h.c.tl];exact ht) hs
theorem PT.old (h:PT n0 m gN g4 x st r k y z y3 z3 pv cv WB T L l w i) {s:Nat} (hs:ew ed s=none) (ht:s<70):(cJ ed T l).eval (.tmp s)=fZ T s:=xg (by rw[h.c.tl];exact ht) hs
theorem PT.ahead (h:PT n0 m gN g4 x st r k y z y3 z3 pv cv WB T L l w i) (hi:i∈[4,5,7,8,10,11,12,13]):aZ L 13=false/\aZ L 16=false/\Bl WB w:=by
 have h13:aZ L 13=false:=Bk fun hd=>by
  obtain ⟨a,b,c,d,e,f,g⟩:=Bi h.rw hd;have hn:=h.non;simp only[List.mem_cons,List.not_mem_nil,or_false] at hi;rcases hi with rfl|rfl|rfl|rfl|rfl|rfl|rfl|rfl<;>simp_all
 exact ⟨h13,Bk fun hd=>(by rw[Bj h.rw hd] at h13;cases h13),xi h.rw h13⟩
theorem PT.cell (h:PT n0 m gN g4 x st r k y z y3 z3 pv cv WB T L l w i) (hi:i∈[4,5,7,8,10,11,12,13]) {p:Addr} {u:Value} (hc:WB.cell? p=some u):w.cell? p=some u:=
 (((h.ahead hi).2.2).cell (af hc).1).trans hc
end
theorem Bw {x:Value×Value} {k:Int} {T:List Value} (Q:Exit->Act->World->Prop) (h:PT n0 m gN g4 x st r k y z y3 z3 pv cv WB T L l w 0):wpOp Tryz.prog reg9.1 Q 0 (SJ (pR n0 m gN g4 x st r k y z y3 z3 pv cv WB) 17 ed T (L.setIfInBounds 0 true)) (cJ ed T l) w:=by
 obtain ⟨o,ho,hd,hg,hop⟩:=Bm;exact D2
theorem By {x:Value×Value} {k:Int} {T:List Value} (Q:Exit->Act->World->Prop) (h:PT n0 m gN g4 x st r k y z y3 z3 pv cv WB T L l w 1):wpOp Tryz.prog reg9.1 Q 1 (SJ (pR n0 m gN g4 x st r k y z y3 z3 pv cv WB) 17 ed T (L.setIfInBounds 1 true)) (cJ ed T l) w:=by
 obtain ⟨o,ho,hd,hg,hop⟩:=Bn;exact D2
theorem Bz {x:Value×Value} {k:Int} {T:List Value} (Q:Exit->Act->World->Prop) (h:PT n0 m gN g4 x st r k y z y3 z3 pv cv WB T L l w 2):wpOp Tryz.prog reg9.1 Q 2 (SJ (pR n0 m gN g4 x st r k y z y3 z3 pv cv WB) 17 ed T (L.setIfInBounds 2 true)) (cJ ed T l) w:=by
 obtain ⟨o,ho,hd,hg,hop⟩:=Bo;exact h.same ho hd rfl hg [] rfl (fun j hj=>by cases hj) dq dq dq (kC hop ((h.new (s:=55) (j:=1) rfl dq).trans (h.rw.gotJ 1 (cq (a:=1) kq h.dep) rfl)))
theorem BA {x:Value×Value} {k:Int} {T:List Value} (Q:Exit->Act->World->Prop) (h:PT n0 m gN g4 x st r k y z y3 z3 pv cv WB T L l w 3):wpOp Tryz.prog reg9.1 Q 3 (SJ (pR n0 m gN g4 x st r k y z y3 z3 pv cv WB) 17 ed T (L.setIfInBounds 3 true)) (cJ ed T l) w:=by
 obtain ⟨o,ho,hd,hg,hop⟩:=Bp;exact h.same ho hd rfl hg [] rfl (fun j hj=>by cases hj) dq dq dq (mS hop ((h.new (s:=56) (j:=2) rfl dq).trans (h.rw.gotJ 2 (cq (a:=2) kq h.dep) rfl)))
theorem BB {x:Value×Value} {k:Int} {T:List Value} (Q:Exit->Act->World->Prop) (h:PT n0 m gN g4 x st r k y z y3 z3 pv cv WB T L l w 4):wpOp Tryz.prog reg9.1 Q 4 (SJ (pR n0 m gN g4 x st r k y z y3 z3 pv cv WB) 17 ed T (L.setIfInBounds 4 true)) (cJ ed T l) w:=by
 obtain ⟨o,ho,hd,hg,hop⟩:=Bq;exact h.same ho hd rfl hg [] rfl (fun j hj=>by cases hj) dq dq dq (nE hop ((h.new (s:=57) (j:=3) rfl dq).trans (h.rw.gotJ 3 (cq (a:=3) kq h.dep) rfl)) (h.cell dq (by simp[World.cell?,h.c.hm])))
theorem BC {x:Value×Value} {k:Int} {T:List Value} (Q:Exit->Act->World->Prop) (h:PT n0 m gN g4 x st r k y z y3 z3 pv cv WB T L l w 5):wpOp Tryz.prog reg9.1 Q 5 (SJ (pR n0 m gN g4 x st r k y z y3 z3 pv cv WB) 17 ed T (L.setIfInBounds 5 true)) (cJ ed T l) w:=by
 obtain ⟨o,ho,hd,hg,hop⟩:=Br;exact h.same ho hd rfl hg [] rfl (fun j hj=>by cases hj) dq dq dq (uH hop ((h.old (s:=4) rfl dq).trans h.c.t4) (h.cell dq h.c.ca) (h.cell dq h.c.cb))
theorem BE {x:Value×Value} {k:Int} {T:List Value} (Q:Exit->Act->World->Prop) (h:PT n0 m gN g4 x st r k y z y3 z3 pv cv WB T L l w 6):wpOp Tryz.prog reg9.1 Q 6 (SJ (pR n0 m gN g4 x st r k y z y3 z3 pv cv WB) 17 ed T (L.setIfInBounds 6 true)) (cJ ed T l) w:=by
 obtain ⟨o,ho,hd,hg,hop⟩:=Bs;exact DY
theorem BF {x:Value×Value} {k:Int} {T:List Value} (Q:Exit->Act->World->Prop) (h:PT n0 m gN g4 x st r k y z y3 z3 pv cv WB T L l w 7):wpOp Tryz.prog reg9.1 Q 7 (SJ (pR n0 m gN g4 x st r k y z y3 z3 pv cv WB) 17 ed T (L.setIfInBounds 7 true)) (cJ ed T l) w:=by
 obtain ⟨o,ho,hd,hg,hop⟩:=Bt;exact h.same ho hd rfl hg [] rfl (fun j hj=>by cases hj) dq dq dq (oA hop ((h.new (s:=60) (j:=6) rfl dq).trans (h.rw.gotJ 6 (cq (a:=6) kq h.dep) rfl)) (h.cell dq h.c.cn))
theorem BG {x:Value×Value} {k:Int} {T:List Value} (Q:Exit->Act->World->Prop) (h:PT n0 m gN g4 x st r k y z y3 z3 pv cv WB T L l w 8):wpOp Tryz.prog reg9.1 Q 8 (SJ (pR n0 m gN g4 x st r k y z y3 z3 pv cv WB) 17 ed T (L.setIfInBounds 8 true)) (cJ ed T l) w:=by
 obtain ⟨o,ho,hd,hg,hop⟩:=Bu;obtain ⟨d13,d16,hb⟩:=h.ahead dq;have e59:=((h.new (s:=59) (j:=5) rfl dq).trans (h.rw.gotJ 5 (cq (a:=5) kq h.dep) rfl));have e61:=((h.new (s:=61) (j:=7) rfl dq).trans (h.rw.gotJ 7 (cq (a:=7) kq h.dep) rfl));refine wpOp_step ho fun K hK=>?_
 rw[if_pos (iJ hg)];unfold Oper.wp;rw[yS hop rfl rfl (args:=#[.agg #[.int .u64 (y:Int), .int .u64 (z:Int)], .int .i64 k]) (all:=#[.agg #[.int .u64 (y:Int), .int .u64 (z:Int)], .int .i64 k]) (by simp only[List.map_toArray,List.map_cons,List.map_nil];rw[e59,e61]) sm (fun av W=>by kernel_rfl),Oper.upon_enter];refine (h.c.cut w).mono ?_;rintro e w' ⟨rfl,hb'⟩;show K ((cJ ed T l).put o.dst _) w';rw[hd,mR (i:=8) _ rfl (by rw[h.len];decide)];exact hK _ _ (h.next (p:=(qN [5,7] (.agg #[.int .u64 (y3:Int), .int .u64 (z3:Int)])).2) rfl (pq (cq (a:=5) kq h.dep) (cq (a:=7) kq h.dep)) hb'.size (xj dq dq d13 d16 hb' (fun e=>by cases e) (by rw[h.len];decide)) rfl)
theorem BH {x:Value×Value} {k:Int} {T:List Value} (Q:Exit->Act->World->Prop) (h:PT n0 m gN g4 x st r k y z y3 z3 pv cv WB T L l w 9):wpOp Tryz.prog reg9.1 Q 9 (SJ (pR n0 m gN g4 x st r k y z y3 z3 pv cv WB) 17 ed T (L.setIfInBounds 9 true)) (cJ ed T l) w:=by
 obtain ⟨o,ho,hd,hg,hop⟩:=Bv;exact DY
theorem Ao {x:Value×Value} {k:Int} {T:List Value} (Q:Exit->Act->World->Prop) (h:PT n0 m gN g4 x st r k y z y3 z3 pv cv WB T L l w 10):wpOp Tryz.prog reg9.1 Q 10 (SJ (pR n0 m gN g4 x st r k y z y3 z3 pv cv WB) 17 ed T (L.setIfInBounds 10 true)) (cJ ed T l) w:=by
 obtain ⟨o,ho,hd,hg,hop⟩:=Ah;exact h.same ho hd rfl hg [] rfl (fun j hj=>by cases hj) dq dq dq (oA hop ((h.new (s:=63) (j:=9) rfl dq).trans (h.rw.gotJ 9 (cq (a:=9) kq h.dep) rfl)) (h.cell dq h.c.cn))
theorem Aq {x:Value×Value} {k:Int} {T:List Value} (Q:Exit->Act->World->Prop) (h:PT n0 m gN g4 x st r k y z y3 z3 pv cv WB T L l w 11):wpOp Tryz.prog reg9.1 Q 11 (SJ (pR n0 m gN g4 x st r k y z y3 z3 pv cv WB) 17 ed T (L.setIfInBounds 11 true)) (cJ ed T l) w:=by
 obtain ⟨o,ho,hd,hg,hop⟩:=Ai;exact h.same ho hd rfl hg [8,10] rfl (pq (cq (a:=8) kq h.dep) (cq (a:=10) kq h.dep)) dq dq dq (mT hop ((h.new (s:=62) (j:=8) rfl dq).trans (h.rw.gotJ 8 (cq (a:=8) kq h.dep) rfl)) ((h.new (s:=64) (j:=10) rfl dq).trans (h.rw.gotJ 10 (cq (a:=10) kq h.dep) rfl)))
theorem Ar {x:Value×Value} {k:Int} {T:List Value} (Q:Exit->Act->World->Prop) (h:PT n0 m gN g4 x st r k y z y3 z3 pv cv WB T L l w 12):wpOp Tryz.prog reg9.1 Q 12 (SJ (pR n0 m gN g4 x st r k y z y3 z3 pv cv WB) 17 ed T (L.setIfInBounds 12 true)) (cJ ed T l) w:=by
 obtain ⟨o,ho,hd,hg,hop⟩:=Aj;obtain ⟨d13,d16,hb⟩:=h.ahead dq;have hb':Bl w (w.alloc (.cells #[.int .u64 (y3:Int), .int .u64 (z3:Int), .int .i64 k] 105)):=br.alloc lr _;exact h.value ho hd rfl hg (mU hop ((h.new (s:=65) (j:=11) rfl dq).trans (h.rw.gotJ 11 (cq (a:=11) kq h.dep) rfl))) (h.next (p:=(uI [11]).2) rfl (fun j hj=>by simp only[List.mem_cons,List.not_mem_nil,or_false] at hj;subst hj;exact (cq (a:=11) kq h.dep)) hb'.size (xj dq dq d13 d16 hb' (fun _=>⟨w.heap.size,rfl,hb.size,ag w _⟩) (by rw[h.len];decide)) trivial)
theorem As {x:Value×Value} {k:Int} {T:List Value} (Q:Exit->Act->World->Prop) (h:PT n0 m gN g4 x st r k y z y3 z3 pv cv WB T L l w 13):wpOp Tryz.prog reg9.1 Q 13 (SJ (pR n0 m gN g4 x st r k y z y3 z3 pv cv WB) 17 ed T (L.setIfInBounds 13 true)) (cJ ed T l) w:=by
 obtain ⟨o,ho,hd,hg,hop⟩:=Ak;obtain ⟨d13,d16,hb⟩:=h.ahead dq;have d12:=(cq (a:=12) kq h.dep);obtain ⟨gS,eS,hgS,hS⟩:=(h.rw.glob.1 d13).2 d12;have hx:=(h.new (s:=66) (j:=12) rfl dq).trans eS;obtain ⟨i0,hi0,hz0,hz1,hz2⟩:=info_parts uF;have hlen:=h.c.len;have lm:m<WB.heap.size:=aI h.c.hm;have hn0:n0<=WB.heap.size:=Nat.le_trans h.c.n0m (Nat.le_of_lt lm);refine wpOp_step ho fun K hK=>?_
 rw[if_pos (iJ hg)];refine wp_append_lies w (.tmp 58) (.tmp 66) 100 hop n0 105 i0 (.agg #[.int .u64 0, .int .u64 0, .int .i64 0]) 3 24 Tryz.underlying100 hi0 hz0 hz1 hz2 rfl dq _ st.length (dA st) ((h.new (s:=58) (j:=4) rfl dq).trans (h.rw.gotJ 4 (cq (a:=4) kq h.dep) rfl)) (nH h.c.own hb) ⟨gS,0,none⟩ 1 1 [.int .u64 (y3:Int), .int .u64 (z3:Int), .int .i64 k] hx rfl (World.news_of_block hS) (uG _ _ _) om (by unfold maxLen;omega) om (Nat.le_trans hn0 hb.size) _ rfl ?_;intro g cap w2 hown hgrow hat hlt;rw[hd,mR (i:=13) _ rfl (by rw[h.len];decide)];have hgm:g≠m:=by
  intro e;rcases hat with q|q
  ·exact h.c.nm (by rw[q,e])
  have:=hb.size;omega
 have hk:w2.heap[m]?=WB.heap[m]?:=(hgrow.block m (Nat.lt_of_lt_of_le lm hb.size) (fun e=>h.c.nm e.symm)).trans (hb.block m lm);have hbl:Below n0 WB w2:=(hb.mono hn0).grown hgrow (Nat.le_trans hn0 hb.size) (fun j e=>by obtain ⟨cur,-,q⟩:=xh h.c.own e;exact q);refine hK _ _ (h.next (p:=(uI [4,12]).2) rfl (pq (cq (a:=4) kq h.dep) d12) hgrow.size (fun _=>⟨fun hd'=>?_,fun _ _=>?_,fun hd'=>?_⟩) trivial)
 ·rw[mQ (by rw[h.size];decide)] at hd';cases hd'
 ·rw[jF (by rw[h.len];decide)];exact ⟨g,cap,rfl,by rw[h.c.e3];exact hown,hgm,hk,hbl⟩
 rw[aT dq,d16] at hd';cases hd'
theorem Au {x:Value×Value} {k:Int} {T:List Value} (Q:Exit->Act->World->Prop) (h:PT n0 m gN g4 x st r k y z y3 z3 pv cv WB T L l w 14):wpOp Tryz.prog reg9.1 Q 14 (SJ (pR n0 m gN g4 x st r k y z y3 z3 pv cv WB) 17 ed T (L.setIfInBounds 14 true)) (cJ ed T l) w:=by
 obtain ⟨o,ho,hd,hg,hop⟩:=Al;exact h.same ho hd rfl hg [] rfl (fun j hj=>by cases hj) dq dq dq (kC hop ((h.new (s:=54) (j:=0) rfl dq).trans (h.rw.gotJ 0 (cq (a:=0) kq h.dep) rfl)))
theorem Av {x:Value×Value} {k:Int} {T:List Value} (Q:Exit->Act->World->Prop) (h:PT n0 m gN g4 x st r k y z y3 z3 pv cv WB T L l w 15):wpOp Tryz.prog reg9.1 Q 15 (SJ (pR n0 m gN g4 x st r k y z y3 z3 pv cv WB) 17 ed T (L.setIfInBounds 15 true)) (cJ ed T l) w:=by
 obtain ⟨o,ho,hd,hg,hop⟩:=Am;exact h.same ho hd rfl hg [] rfl (fun j hj=>by cases hj) dq dq dq (mS hop ((h.new (s:=68) (j:=14) rfl dq).trans (h.rw.gotJ 14 (cq (a:=14) kq h.dep) rfl)))
theorem Aw {x:Value×Value} {k:Int} {T:List Value} (Q:Exit->Act->World->Prop) (h:PT n0 m gN g4 x st r k y z y3 z3 pv cv WB T L l w 16):wpOp Tryz.prog reg9.1 Q 16 (SJ (pR n0 m gN g4 x st r k y z y3 z3 pv cv WB) 17 ed T (L.setIfInBounds 16 true)) (cJ ed T l) w:=by
 obtain ⟨o,ho,hd,hg,hop⟩:=An;have d13:=(cq (a:=13) kq h.dep);obtain ⟨g,cap,e13,hown,hgm,hk,hbl⟩:=h.rw.glob.2.1 d13 h.non;have hy:=(h.new (s:=67) (j:=13) rfl dq).trans e13;have hm2:=hk.trans h.c.hm;rw[e13] at hown;have hSt:=Stk.push (a:=r) (k:=k) h.c.hm hk h.c.n0m h.c.len hown hgm;have hb2:Below n0 WB (w.setCell ⟨m,2,none⟩ (.slice (some ⟨g,0,none⟩) (st.length+1) cap)):=hbl.setCell h.c.n0m _;refine wpOp_step ho fun K hK=>?_
 rw[if_pos (iJ hg)];unfold Oper.wp;rw[mV hop ((h.new (s:=69) (j:=15) rfl dq).trans (h.rw.gotJ 15 (cq (a:=15) kq h.dep) rfl)) hy (u:= .slice pv st.length cv) (by simp[World.cell?,hm2]) (by simp[World.frozen?,hm2]),Oper.upon_skip,hd];have hput:(cJ ed T l).put none undef=cJ ed T (l.set 16 undef):=by
  refine congrArg (fun x=>(⟨x,[]⟩:Act)) ?_;refine congrArg List.toArray (List.map_congr_left fun s _=>?_);unfold kB;split
  ·rename_i j hj;exact (dO (fun e=>by have:=fG hj;rw[<- e] at this;cases this)).symm
  rfl
 rw[hput];refine hK _ _ (h.next (p:=(uI [13]).2) rfl (fun j hj=>by simp only[List.mem_cons,List.not_mem_nil,or_false] at hj;subst hj;exact d13) sm (fun _=>⟨fun hd'=>?_,fun _ hd'=>?_,fun _=>⟨hSt,hb2⟩⟩) trivial)
 ·rw[aT dq,d13] at hd';cases hd'
 rw[mQ (by rw[h.size];decide)] at hd';cases hd'
theorem fH (n0 m gN g4:Nat) (x:Value×Value) (st:List (Nat×Int)) (n:Nat) (op k c2 c3 c4 c5:Int) (WB:World) (HS:Hd (Stk WB n0 m x st)) (HN:Hd (NodeAt WB gN op k c2 c3 c4 c5)) (H4:Hd (WB.heap[g4]?=some (.cells #[.int .u64 ((n/B:Nat):Int), .int .u64 ((n%B:Nat):Int)] 60 (0,0))))
 (HL:Hd (n<B*B)) (HLEN:Hd (st.length<100000))
 (s1 s2 s5 s6 s7 s8 s9 s10 s11 s12 s13 s14 s15 s16 s17 s18 s19 s20 s21 s22 s23 s24 s25 s26 s27 s28 s29 s30 s31 s32 s33 s34 s35 s36 s37 s38 s39 s40 s41 s42 s43 s44 s45 s46 s47 s48 s49 s50 s51 s52 s53 s54 s55 s56 s57 s58 s59 s60 s61 s62 s63 s64 s65 s66 s67 s68 s69:Value) (Q:Exit->Act->World->Prop)
 (hexit:∀(u54 u55 u56 u57 u58 u59 u60 u61 u62 u63 u64 u65 u66 u67 u68 u69:Value) (w':World),Stk w' n0 m x (st++[(n%2 ^ sh k,k)])->Below n0 WB w'->Q .normal ⟨#[.pointer (some ⟨m,0,none⟩),s1,s2, .pointer (some ⟨gN,0,none⟩), .pointer (some ⟨g4,0,none⟩),s5,s6,s7,s8,s9,s10,s11,s12,s13,s14,s15,s16,s17,s18,s19,s20,s21,s22,s23,s24,s25,s26,s27,s28,s29,s30,s31,s32,s33,s34,s35,s36,s37,s38,s39,s40,s41,s42,s43,s44,s45,s46,s47,s48,s49,s50,s51,s52,s53,u54,u55,u56,u57,u58,u59,u60,u61,u62,u63,u64,u65,u66,u67,u68,u69],[]⟩ w'):
 Code.wp Tryz.prog ((Tryz.f41.body.bind (bN 9)).getD .skip) Q ⟨#[.pointer (some ⟨m,0,none⟩),s1,s2, .pointer (some ⟨gN,0,none⟩), .pointer (some ⟨g4,0,none⟩),s5,s6,s7,s8,s9,s10,s11,s12,s13,s14,s15,s16,s17,s18,s19,s20,s21,s22,s23,s24,s25,s26,s27,s28,s29,s30,s31,s32,s33,s34,s35,s36,s37,s38,s39,s40,s41,s42,s43,s44,s45,s46,s47,s48,s49,s50,s51,s52,s53,s54,s55,s56,s57,s58,s59,s60,s61,s62,s63,s64,s65,s66,s67,s68,s69],[]⟩ WB:=by
 have HC:∀W,Calls Tryz.prog 69 #[aC n, .int .i64 k] W (ai W (n%2 ^ sh k)):=fun W=>dh n k W HL.o
 generalize n%2 ^ sh k=r at*;obtain ⟨y,z,he,ey,ez⟩:=ae n;obtain ⟨y3,z3,he3,ey3,ez3⟩:=ae r;unfold ai at HC;rw[he,he3] at HC;have h4:=H4.o;rw[<- ey, <-ez] at h4;have hN:=HN.o;unfold NodeAt at hN;obtain ⟨v,h1,h2,h3,h5,h6⟩:=HS.o;obtain ⟨pv,cv,rfl,hlv⟩:∃p c,v= .slice p st.length c/\st.length<=maxLen:=by
  obtain ⟨-,q|⟨g,cap,cur,q1,q2,q3,q4,q5,q6⟩⟩:=h2
  ·exact ⟨none,0,by rw[q.1,q.2],by rw[q.2];exact zl⟩
  exact ⟨_,_,q1,om⟩
 have c:PC n0 m gN g4 x st r k y z y3 z3 pv cv WB [.pointer (some ⟨m,0,none⟩),s1,s2, .pointer (some ⟨gN,0,none⟩), .pointer (some ⟨g4,0,none⟩),s5,s6,s7,s8,s9,s10,s11,s12,s13,s14,s15,s16,s17,s18,s19,s20,s21,s22,s23,s24,s25,s26,s27,s28,s29,s30,s31,s32,s33,s34,s35,s36,s37,s38,s39,s40,s41,s42,s43,s44,s45,s46,s47,s48,s49,s50,s51,s52,s53,s54,s55,s56,s57,s58,s59,s60,s61,s62,s63,s64,s65,s66,s67,s68,s69]:={ tl:=rfl,t0:=rfl,t3:=rfl,t4:=rfl,hm:=h1,own:=h2,nm:=h3,n0m:=h5,len:=HLEN.o,cn:=by simp[World.cell?,hN],ca:=by simp[World.cell?,h4],cb:=by simp[World.cell?,h4],cut:=HC,e3:=by show _=_;rw[ey3,ez3];rfl };have h0:(⟨#[.pointer (some ⟨m,0,none⟩),s1,s2, .pointer (some ⟨gN,0,none⟩), .pointer (some ⟨g4,0,none⟩),s5,s6,s7,s8,s9,s10,s11,s12,s13,s14,s15,s16,s17,s18,s19,s20,s21,s22,s23,s24,s25,s26,s27,s28,s29,s30,s31,s32,s33,s34,s35,s36,s37,s38,s39,s40,s41,s42,s43,s44,s45,s46,s47,s48,s49,s50,s51,s52,s53,s54,s55,s56,s57,s58,s59,s60,s61,s62,s63,s64,s65,s66,s67,s68,s69],[]⟩:Act)=cJ ed [.pointer (some ⟨m,0,none⟩),s1,s2, .pointer (some ⟨gN,0,none⟩), .pointer (some ⟨g4,0,none⟩),s5,s6,s7,s8,s9,s10,s11,s12,s13,s14,s15,s16,s17,s18,s19,s20,s21,s22,s23,s24,s25,s26,s27,s28,s29,s30,s31,s32,s33,s34,s35,s36,s37,s38,s39,s40,s41,s42,s43,s44,s45,s46,s47,s48,s49,s50,s51,s52,s53,s54,s55,s56,s57,s58,s59,s60,s61,s62,s63,s64,s65,s66,s67,s68,s69] [s54,s55,s56,s57,s58,s59,s60,s61,s62,s63,s64,s65,s66,s67,s68,s69,undef]:=rfl;have hend:∀f:Nat->Value,cJ ed [.pointer (some ⟨m,0,none⟩),s1,s2, .pointer (some ⟨gN,0,none⟩), .pointer (some ⟨g4,0,none⟩),s5,s6,s7,s8,s9,s10,s11,s12,s13,s14,s15,s16,s17,s18,s19,s20,s21,s22,s23,s24,s25,s26,s27,s28,s29,s30,s31,s32,s33,s34,s35,s36,s37,s38,s39,s40,s41,s42,s43,s44,s45,s46,s47,s48,s49,s50,s51,s52,s53,s54,s55,s56,s57,s58,s59,s60,s61,s62,s63,s64,s65,s66,s67,s68,s69] ((List.range 17).map f)=⟨#[.pointer (some ⟨m,0,none⟩),s1,s2, .pointer (some ⟨gN,0,none⟩), .pointer (some ⟨g4,0,none⟩),s5,s6,s7,s8,s9,s10,s11,s12,s13,s14,s15,s16,s17,s18,s19,s20,s21,s22,s23,s24,s25,s26,s27,s28,s29,s30,s31,s32,s33,s34,s35,s36,s37,s38,s39,s40,s41,s42,s43,s44,s45,s46,s47,s48,s49,s50,s51,s52,s53,f 0,f 1,f 2,f 3,f 4,f 5,f 6,f 7,f 8,f 9,f 10,f 11,f 12,f 13,f 14,f 15],[]⟩:=fun f=>rfl
 have hex:∀(f:Nat->Value) (w':World),Stk w' n0 m x (st++[(r,k)])->Below n0 WB w'->Q .normal ⟨#[.pointer (some ⟨m,0,none⟩),s1,s2, .pointer (some ⟨gN,0,none⟩), .pointer (some ⟨g4,0,none⟩),s5,s6,s7,s8,s9,s10,s11,s12,s13,s14,s15,s16,s17,s18,s19,s20,s21,s22,s23,s24,s25,s26,s27,s28,s29,s30,s31,s32,s33,s34,s35,s36,s37,s38,s39,s40,s41,s42,s43,s44,s45,s46,s47,s48,s49,s50,s51,s52,s53,f 0,f 1,f 2,f 3,f 4,f 5,f 6,f 7,f 8,f 9,f 10,f 11,f 12,f 13,f 14,f 15],[]⟩ w':=fun f w' a b=>hexit (f 0) (f 1) (f 2) (f 3) (f 4) (f 5) (f 6) (f 7) (f 8) (f 9) (f 10) (f 11) (f 12) (f 13) (f 14) (f 15) w' a b
 rw[h0];clear h0 hexit HC he he3 h1 h2 h3 h5 h6 h4 hN;generalize [.pointer (some ⟨m,0,none⟩),s1,s2, .pointer (some ⟨gN,0,none⟩), .pointer (some ⟨g4,0,none⟩),s5,s6,s7,s8,s9,s10,s11,s12,s13,s14,s15,s16,s17,s18,s19,s20,s21,s22,s23,s24,s25,s26,s27,s28,s29,s30,s31,s32,s33,s34,s35,s36,s37,s38,s39,s40,s41,s42,s43,s44,s45,s46,s47,s48,s49,s50,s51,s52,s53,s54,s55,s56,s57,s58,s59,s60,s61,s62,s63,s64,s65,s66,s67,s68,s69]=T at*;rw[reg9.2];show Code.wp Tryz.prog (.region 9 reg9.1 true) Q _ WB;refine ft kq (SJ (pR n0 m gN g4 x st r k y z y3 z3 pv cv WB) 17 ed T) ?_ ?_ ?_ ?_
 ·exact ⟨_,rfl,by rw[iK];simp,rfl,RW.init (fun i=>fe _ _) lr ⟨fun _=>⟨below_drewN br 1,fun hd=>(by rw[fe] at hd;cases hd)⟩,fun hd=>(by rw[fe] at hd;cases hd),fun hd=>(by rw[fe] at hd;cases hd)⟩⟩
 ·rintro L a w1 i hL hi hnd hdep ⟨l,hl,hLn,rfl,hI⟩;have ht:PT n0 m gN g4 x st r k y z y3 z3 pv cv WB T L l w1 i:=⟨c,hl,hLn,hi,hnd,hI,hdep⟩;match i,hi with
  |0,_=>exact Bw Q ht
  |1,_=>exact By Q ht
  |2,_=>exact Bz Q ht
  |3,_=>exact BA Q ht
  |4,_=>exact BB Q ht
  |5,_=>exact BC Q ht
  |6,_=>exact BE Q ht
  |7,_=>exact BF Q ht
  |8,_=>exact BG Q ht
  |9,_=>exact BH Q ht
  |10,_=>exact Ao Q ht
  |11,_=>exact Aq Q ht
  |12,_=>exact Ar Q ht
  |13,_=>exact As Q ht
  |14,_=>exact Au Q ht
  |15,_=>exact Av Q ht
  |16,_=>exact Aw Q ht
  |i+17,hi=>exact absurd hi (by rw[iK];omega)
 ·exact uJ
 rintro L a w1 hall ⟨l,hl,hLn,rfl,hI⟩;have h1:=hend (fZ l);rw[xd hl] at h1;rw[h1];have hB:=hI.glob.2.2 (hall 16 (by rw[iK];decide));exact hex (fZ l) w1 hB.1 hB.2
theorem Stk.base {x:Value×Value} (h:Stk w n0 m x st):n0<=w.heap.size:=by
 obtain ⟨v,h1,-,-,h4,-⟩:=h;exact Nat.le_trans h4 (Nat.le_of_lt (bV h1).1)
theorem uK (w:World) (o o':Obj):((w.alloc o).alloc o').heap[w.heap.size]?=some o:=(Below.heap_alloc _ _ _ sm).trans (ag w o)
theorem NodeAt.cells {op c1 c2 c3 c4 c5:Int} (h:NodeAt w g op c1 c2 c3 c4 c5):w.cell? ⟨g,0,none⟩=some (.int .u8 op)/\w.cell? ⟨g,1,none⟩=some (.int .i64 c1)/\w.cell? ⟨g,2,none⟩=some (.int .i64 c2)/\w.cell? ⟨g,3,none⟩=some (.int .i64 c3)/\w.cell? ⟨g,4,none⟩=some (.int .u64 c4)/\w.cell? ⟨g,5,none⟩=some (.int .u64 c5):=by
 unfold NodeAt at h;refine ⟨?_,?_,?_,?_,?_,?_⟩<;>simp[World.cell?,h]
theorem sB (n0 m:Nat) (x:Value×Value) (st:List (Nat×Int)) (n:Nat) (k c2 c3:Int) (w:World) (hS:Stk w n0 m x st) (hn:n<B*B) (hlen:st.length<100000):
 Calls Tryz.prog 41 #[.pointer (some ⟨m,0,none⟩),aP 1 k c2 c3 ((n/B:Nat):Int) ((n%B:Nat):Int)] w fun e w'=>e= .returned (.tuple #[])/\Stk w' n0 m x (st++[(n%2 ^ sh k,k)])/\Below n0 w w':=by
 have HS:=hD hS;have HN:=hD hn;have HLEN:=hD hlen;have HL:Hd (∀ W,CR 66 #[.pointer (some ⟨m,0,none⟩),aP 1 k c2 c3 ((n/B:Nat):Int) ((n%B:Nat):Int)] W (.tuple #[.agg #[.int .u64 ((n/B:Nat):Int), .int .u64 ((n%B:Nat):Int)], .bool true])):=fun W=>mN m k c2 c3 _ _ W
 have HA:Hd (∀ W,Calls Tryz.prog 67 #[aP 1 k c2 c3 ((n/B:Nat):Int) ((n%B:Nat):Int)] W fun e w'=>∃mm,e= .returned (.map (some mm))/\UMap w' mm (bR W.heap.size)/\NodeAt w' W.heap.size 1 k c2 c3 ((n/B:Nat):Int) ((n%B:Nat):Int)/\Bl W w'):=fun W=>iI _ _ _ _ _ _ W
 have HBO:Hd (∀ W,Calls Tryz.prog 68 #[aP 1 k c2 c3 ((n/B:Nat):Int) ((n%B:Nat):Int)] W fun e w'=>∃mm,e= .returned (.map (some mm))/\UMap w' mm (cT W.heap.size)/\NodeAt w' W.heap.size 1 k c2 c3 ((n/B:Nat):Int) ((n%B:Nat):Int)/\Bl W w'):=fun W=>jC _ _ _ _ _ _ W
 have HNA:Hd (NodeAt (w.alloc (.cells #[.int .u8 1, .int .i64 k, .int .i64 c2, .int .i64 c3, .int .u64 ((n/B:Nat):Int), .int .u64 ((n%B:Nat):Int)] 65)) w.heap.size 1 k c2 c3 ((n/B:Nat):Int) ((n%B:Nat):Int)):=ag w _;obtain ⟨y,hy⟩:∃y:Int,y=((n/B:Nat):Int):=⟨_,rfl⟩;obtain ⟨z,hz⟩:∃z:Int,z=((n%B:Nat):Int):=⟨_,rfl⟩;have HY:=hD hy;have HZ:=hD hz;rw[<- hy, <-hz] at HL HA HBO HNA⊢;clear hS hn hlen hy hz;unfold aP at HL HA HBO⊢;have hml:w.heap.size<w.heap.size+1:=om;go_enter Tryz.func41,Tryz.ntmps41;go_wp2_with (go_at_call 66;refine (HL.o _).mono ?_;rintro e w1 ⟨rfl,hb1⟩;have HB1:=hD hb1;have hz1:=hb1.size;simp at hz1;clear hb1);obtain ⟨W2,hW2⟩:=nm (w1.alloc (.cells #[.int .u64 y, .int .u64 z] 60));have HB2:Hd (Bl w W2):=by
  exact Cx
 have HN2:Hd (NodeAt W2 w.heap.size 1 k c2 c3 y z):=by
  exact Cz
 have H42:Hd (W2.heap[w1.heap.size]?=some (.cells #[.int .u64 y, .int .u64 z] 60 (0,0))):=by
  show _=_;rw[hW2];exact ag w1 _
 rw[<- hW2];have hz2:w1.heap.size<W2.heap.size:=by rw[hW2];simp
 clear hW2 HB1 HNA;generalize w1.heap.size=g4 at*;clear w1;have hcs:=HN2.o.cells;obtain ⟨q0,q1,q2,q3,q4,q5⟩:=hcs;have HS2:Hd ((fun Wk=>Below (W2.heap.size) (W2) Wk/\Cl Wk w.heap.size 0 (.int .u8 1)/\Cl Wk w.heap.size 1 (.int .i64 k)/\Cl Wk w.heap.size 2 (.int .i64 c2)/\Cl Wk w.heap.size 3 (.int .i64 c3)/\Cl Wk w.heap.size 4 (.int .u64 y)/\Cl Wk w.heap.size 5 (.int .u64 z)) W2.drew):=⟨below_drewN br 1,q0,q1,q2,q3,q4,q5⟩;go_region_held3 (fun Wk=>Below (W2.heap.size) (W2) Wk/\Wk.cell? ⟨w.heap.size,0,none⟩=some (.int .u8 1)/\Wk.cell? ⟨w.heap.size,1,none⟩=some (.int .i64 k)/\Wk.cell? ⟨w.heap.size,2,none⟩=some (.int .i64 c2)/\Wk.cell? ⟨w.heap.size,3,none⟩=some (.int .i64 c3)/\Wk.cell? ⟨w.heap.size,4,none⟩=some (.int .u64 y)/\Wk.cell? ⟨w.heap.size,5,none⟩=some (.int .u64 z))
  (first|exact HS2.o|assumption|exact dv hb1 (by assumption))
  (first
  |(go_at_call 67;refine (HA.o _).mono ?_;rintro e w1 ⟨mm,rfl,hU,-,hb1⟩;have hlk:=hU.miss (P:=Tryz.prog) (k:=5) (T:=136) (e:=134) Tryz.underlying5 Tryz.underlying136 (Tryz.zeroValue134 _) (x:=1) dq (by simp[bR])))
 rename_i hH;obtain ⟨hb2,q0,q1,q2,q3,q4,q5⟩:=hH;have HB3:=hD hb2;have hz3:=hb2.size;clear hU hlk hb1 hb2;go_wp2_with fail;have HS3:Hd ((fun Wk=>Below (W2.heap.size) (W2) Wk/\Cl Wk w.heap.size 0 (.int .u8 1)/\Cl Wk w.heap.size 1 (.int .i64 k)/\Cl Wk w.heap.size 2 (.int .i64 c2)/\Cl Wk w.heap.size 3 (.int .i64 c3)/\Cl Wk w.heap.size 4 (.int .u64 y)/\Cl Wk w.heap.size 5 (.int .u64 z)) w1.drew):=⟨below_drewN HB3.o 1,q0,q1,q2,q3,q4,q5⟩;go_region_held3 (fun Wk=>Below (W2.heap.size) (W2) Wk/\Wk.cell? ⟨w.heap.size,0,none⟩=some (.int .u8 1)/\Wk.cell? ⟨w.heap.size,1,none⟩=some (.int .i64 k)/\Wk.cell? ⟨w.heap.size,2,none⟩=some (.int .i64 c2)/\Wk.cell? ⟨w.heap.size,3,none⟩=some (.int .i64 c3)/\Wk.cell? ⟨w.heap.size,4,none⟩=some (.int .u64 y)/\Wk.cell? ⟨w.heap.size,5,none⟩=some (.int .u64 z))
  (first|exact HS3.o|assumption|exact dv hb1 (by assumption))
  (first
  |(go_at_call 68;refine (HBO.o _).mono ?_;rintro e w3 ⟨mm2,rfl,hU,-,hb1⟩;have hlk:=hU.miss (P:=Tryz.prog) (k:=5) (T:=140) (e:=138) Tryz.underlying5 Tryz.underlying140 (Tryz.zeroValue138 _) (x:=1) dq (by simp[cT])))
 rename_i hH;obtain ⟨hb2,q0,q1,q2,q3,q4,q5⟩:=hH;have HB4:=hD hb2;have hz4:=hb2.size;clear hU hlk hb1 hb2;go_wp2_with fail;have HS4:Hd (Stk w3 n0 m x st):=HS.o.below (HB2.o.trans (HB4.o.mono HB2.o.size));have HN4:Hd (NodeAt w3 w.heap.size 1 k c2 c3 y z):=HN2.o.below HB4.o;have H44:Hd (w3.heap[g4]?=some (.cells #[.int .u64 ((n/B:Nat):Int), .int .u64 ((n%B:Nat):Int)] 60 (0,0))):=by
  show _=_;rw[<- HY.o, <-HZ.o];exact (HB4.o.block _ hz2).trans H42.o
 refine fH n0 m w.heap.size g4 x st n 1 k c2 c3 y z w3 HS4 HN4 H44 HN HLEN _ _ _ _ _ _ _ _ _ _ _ _ _ _ _ _ _ _ _ _ _ _ _ _ _ _ _ _ _ _ _ _ _ _ _ _ _ _ _ _ _ _ _ _ _ _ _ _ _ _ _ _ _ _ _ _ _ _ _ _ _ _ _ _ _ _ _ _ ?_;intro u54 u55 u56 u57 u58 u59 u60 u61 u62 u63 u64 u65 u66 u67 u68 u69 w5 h5 hb5;dsimp only;go_wp2_with fail;go_end0;have hn0:n0<=w.heap.size:=HS.o.base;exact ⟨rfl,h5,((HB2.o.trans (HB4.o.mono HB2.o.size)).mono hn0).trans hb5⟩
end Go.Proofs.YtjfhfaodbjecdaaGreat
