/- Lemmas. -/
import Derived.Test.YtjfhfaodbjecdaaGreatJK47
set_option maxHeartbeats 6000000
set_option maxRecDepth 100000
namespace Go.Proofs.YtjfhfaodbjecdaaGreat
open Go.RowKit Stab
variable {s g r n0:Nat} {w:World} {t ty:TypeId} {D:Nat->Prop} {ls:List Value} {L:Array Bool} {x y:Value}
section
variable {w0 w w':World} {base X:Nat} {p:Prg} {act:Int} {x y:Pkt} {r v f mm:Value} {fs:List Value} {args:List Nat} {gp:Option Addr} {gn gc:Nat}
theorem AG (s:PgS) (lp:Option Addr) (ln lc:Nat) {l:List Ent} (hp:PgOk w0 s p) (hW:WPos p) (hSm:Sm p) (hl:ERow w0 (.slice lp ln lc) l):pC w0 base X p s lp ln lc l r v f mm fs:=
 fun j W y args gp gn gc c bp bn bc hc hrow hlen hm hj=>zE hc s lp ln lc true hp hW hSm hl hrow hlen hm (fun h=>by omega) (fun h=>by omega) (fun h=>by omega)
theorem uS (h:RCtx w0 w base X p act x r v f mm fs args gp gn gc) (s:PgS) (lp:Option Addr) (ln lc:Nat) {l:List Ent} {c:List Ist} {cp:Option Addr} {cn cc:Nat} (hp:PgOk w0 s p) (hW:WPos p) (hSm:Sm p) (hl:ERow w0 (.slice lp ln lc) l) (hc:IstRow w0 (.slice cp cn cc) c) (hcl:∀i∈c,i.e.length<=6000) (hm:aH p act c=true) (hao:act<0->ApOk p l):
 Calls Tryz.prog 8 #[cE s, .slice lp ln lc, .pointer (some ⟨X,0,none⟩), .slice cp cn cc, .slice gp gn gc] w fun e w'=>e= .returned (.tuple #[])/\PktB base w' X (eM p l act args c x) r v f mm fs/\Fr (PS X r v f mm fs) w w':=by
 have HR:Hd (∀ W,Bl w W->Calls Tryz.prog 21 #[.agg #[.slice s.hp s.hn s.hc, .slice s.mp s.mn s.mc, .slice s.sp s.sn s.sc, .slice s.ap s.an s.ac, .slice s.tp s.tn s.tc, .slice s.cp s.cn s.cc, .slice s.ep s.en s.ec, .slice s.v1 s.n1 s.c1, .slice s.v2 s.n2 s.c2, .slice s.v3 s.n3 s.c3, .slice s.v4 s.n4 s.c4, .slice s.v5 s.n5 s.c5, .slice lp ln lc, .pointer (some ⟨X,0,none⟩), .slice gp gn gc, .bool false], .slice cp cn cc] W fun e w'=>e= .returned (.tuple #[])/\PktB base w' X (eM p l act args c x) r v f mm fs/\Fr (PS X r v f mm fs) W w'):=fun W hb=>
  zE (h.below hb) s lp ln lc false hp hW hSm hl hc hcl hm (fun _=>rfl) hao (fun _=>AG s lp ln lc hp hW hSm hl)
 clear h hp hW hSm hl hc hcl hm hao;unfold cE;go_enter Tryz.func8,Tryz.ntmps8;have HB:Hd (Bl w (w.alloc (.cells (pA s) 33))):=br.alloc lr _;go_wp2_with (go_at_call 21;refine (HR.o _ HB.o).mono ?_;rintro e w1 ⟨rfl,h1,h2⟩;have H1:=hD h1;have H2:=hD h2;clear h1 h2);go_end0;exact ⟨rfl,H1.o,(Fr.of_below HB.o).trans H2.o⟩
end
open Go.Maps
structure Nd where
 op:Int
 k:Int
 a:Int
 b:Int
 v:Nat
def Nd.val (d:Nd):Value:=aP d.op d.k d.a d.b ((d.v/B:Nat):Int) ((d.v%B:Nat):Int)
def Nd.cells (d:Nd):List Value:=[.int .u8 d.op, .int .i64 d.k, .int .i64 d.a, .int .i64 d.b, .int .u64 ((d.v/B:Nat):Int), .int .u64 ((d.v%B:Nat):Int)]
inductive Step:Nd->List (Nat×Int)->List (Nat×Int)->Prop
 |const (k a b:Int) (v:Nat) (st):v<B*B->Step ⟨1,k,a,b,v⟩ st (st++[(v%2 ^ sh k,k)])
 |bnot (k a b:Int) (v:Nat) (st) (n:Nat) (j:Int):n<B*B->Step ⟨7,k,a,b,v⟩ (st++[(n,j)]) (st++[(((n%2 ^ sh k) ^^^ (2 ^ sh k-1))%2 ^ sh k,k)])
 |neg (k a b:Int) (v:Nat) (st) (n:Nat) (j:Int):n<B*B->Step ⟨8,k,a,b,v⟩ (st++[(n,j)]) (st++[((0+(B*B-n))%(B*B)%2 ^ sh k%2 ^ sh k,k)])
 |slice (k a b:Int) (v:Nat) (st) (n:Nat) (j:Int):n<B*B->0<=b->b<=a->a<128->Step ⟨9,k,a,b,v⟩ (st++[(n,j)]) (st++[(n/2 ^ sh b%2 ^ sh (a-b+1)%2 ^ sh k,k)])
 |cat (k a b:Int) (v:Nat) (st) (n m:Nat) (i j:Int):n<B*B->m<B*B->Step ⟨10,k,a,b,v⟩ (st++[(n,i)]++[(m,j)]) (st++[(((n*2 ^ sh j%(B*B)%2 ^ sh 128) ||| (m%2 ^ sh j))%2 ^ sh k,k)])
 |add (k a b:Int) (v:Nat) (st) (n m:Nat) (i j:Int):n<B*B->m<B*B->Step ⟨11,k,a,b,v⟩ (st++[(n,i)]++[(m,j)]) (st++[((n+m)%(B*B)%2 ^ sh k%2 ^ sh k,k)])
 |sub (k a b:Int) (v:Nat) (st) (n m:Nat) (i j:Int):n<B*B->m<B*B->Step ⟨12,k,a,b,v⟩ (st++[(n,i)]++[(m,j)]) (st++[((n+(B*B-m))%(B*B)%2 ^ sh k%2 ^ sh k,k)])
 |lt (k a b:Int) (v:Nat) (st) (n m:Nat) (i j:Int):n<B*B->m<B*B->Step ⟨19,k,a,b,v⟩ (st++[(n,i)]++[(m,j)]) (st++[(dI (decide (n<m))%2 ^ sh k,k)])
 |le (k a b:Int) (v:Nat) (st) (n m:Nat) (i j:Int):n<B*B->m<B*B->Step ⟨20,k,a,b,v⟩ (st++[(n,i)]++[(m,j)]) (st++[(dI (decide (n<=m))%2 ^ sh k,k)])
theorem uT {d:Nd} {s s':List (Nat×Int)} (h:Step d s s') (n0 m:Nat) (x:Value×Value) (w:World) (hS:Stk w n0 m x s) (hl:s.length<=50):
 Calls Tryz.prog 41 #[.pointer (some ⟨m,0,none⟩),d.val] w fun e w'=>e= .returned (.tuple #[])/\Stk w' n0 m x s'/\Below n0 w w':=by
 cases h with
 |const k a b v st hv=>exact sB n0 m x _ v k a b w hS hv om
 |bnot k a b v st n j hn=>exact qO n0 m x st n j k a b _ _ w hS (by simp at hl;omega) hn
 |neg k a b v st n j hn=>exact qP n0 m x st n j k a b _ _ w hS (by simp at hl;omega) hn
 |slice k a b v st n j hn h0 h1 h2=>exact mW n0 m x st n j k a b _ _ w hS (by simp at hl;omega) hn h0 h1 h2
 |cat k a b v st n m i j hn hm=>exact qQ n0 _ x st n m i j k a b _ _ w hS (by simp at hl;omega) hn hm
 |add k a b v st n m i j hn hm=>exact qR n0 _ x st n m i j k a b _ _ w hS (by simp at hl;omega) hn hm
 |sub k a b v st n m i j hn hm=>exact qS n0 _ x st n m i j k a b _ _ w hS (by simp at hl;omega) hn hm
 |lt k a b v st n m i j hn hm=>exact tu n0 _ x st n m i j k a b _ _ w hS (by simp at hl;omega) hn hm
 |le k a b v st n m i j hn hm=>exact tv n0 _ x st n m i j k a b _ _ w hS (by simp at hl;omega) hn hm
theorem ze (a b c:Int) (w:World):(Instr.field 105 (.agg #[.int .u64 a, .int .u64 b, .int .i64 c]) 0).run Tryz.prog w= .ok (.agg #[.int .u64 a, .int .u64 b]) w:=by kernel_rfl
def qV:Value:= .agg #[.slice none 0 0, .slice none 0 0, .slice none 0 0, .slice none 0 0, .slice none 0 0, .slice none 0 0, .slice none 0 0, .slice none 0 0, .slice none 0 0, .slice none 0 0, .slice none 0 0, .slice none 0 0]
theorem uU (nd:Nat->Nd) (sts:Nat->List (Nat×Int)) (N cap gx gc:Nat) (r:Nat) (kr:Int) (w:World) (hN:N<=50) (hstep:∀i,i<N->Step (nd i) (sts i) (sts (i+1))) (hlen:∀i,i<=N->(sts i).length<=50) (h0:sts 0=[]) (hr:sts N=[(r,kr)])
 (hc:∀i,i<N->∀j v,(nd i).cells[j]?=some v->w.cell? ⟨gc,i*6+j,none⟩=some v):
 Calls Tryz.prog 20 #[qV, .pointer (some ⟨gx,0,none⟩), .slice (some ⟨gc,0,none⟩) N cap, .slice none 0 0] w (ai w r):=by
 unfold qV;have HC:=hD hc;have HST:=hD hstep;have HLE:=hD hlen;have HRR:=hD hr;have HGC:Hd (0<N->gc<w.heap.size):=fun h=>(af (hc 0 h 0 (.int .u8 (nd 0).op) rfl)).1
 have HH0:=hD h0;clear hc hstep hlen hr h0;obtain ⟨y3,z3,he3,ey3,ez3⟩:=ae r;have HE3:=hD he3;have HYZ:Hd (((r/B:Nat):Int)=(y3:Int)/\((r%B:Nat):Int)=(z3:Int)):=⟨by rw[ey3],by rw[ez3]⟩;clear he3 ey3 ez3;go_enter Tryz.func20,Tryz.ntmps20;go_wp2_with fail;obtain ⟨W0,hW0⟩:=nm (((w.alloc (.cells #[.slice none 0 0, .slice none 0 0, .slice none 0 0, .slice none 0 0, .slice none 0 0, .slice none 0 0, .slice none 0 0, .slice none 0 0, .slice none 0 0, .slice none 0 0, .slice none 0 0, .slice none 0 0] 33)).alloc (.cells #[.int .u64 0, .int .u64 0] 60)).alloc (.cells #[.pointer (some ⟨gx,0,none⟩), .slice none 0 0, .slice none 0 0] 102));have HB0:Hd (Bl w W0):=by show Below _ _ _;rw[hW0];exact bL
 have hsz0:W0.heap.size=w.heap.size+1+1+1:=by rw[hW0];simp
 have HM0:Hd (W0.heap[w.heap.size+1+1]?=some (.cells #[.pointer (some ⟨gx,0,none⟩), .slice none 0 0, .slice none 0 0] 102 (0,0))):=by
  show _=_;exact xJ
 have HR0:Hd (W0.heap[w.heap.size+1]?=some (.cells #[.int .u64 0, .int .u64 0] 60 (0,0))):=by
  exact Cf
 rw[<- hW0];clear hW0;go_loopw [21] (fun i wr=>∃k:Nat,k<=N/\i= .int .i64 k/\Stk wr (w.heap.size+1+1) (w.heap.size+1+1) (.pointer (some ⟨gx,0,none⟩), .slice none 0 0) (sts k)/\Below (w.heap.size+1+1) W0 wr) (fun i _=>N-(intOf i).toNat)
 case atStart=>
  refine ⟨0,zl,rfl,?_,Below.refl _ _⟩;rw[HH0.o];exact ⟨.slice none 0 0,HM0.o,⟨rfl, .inl ⟨rfl,rfl⟩⟩,by simp[Value.ownBlock],Nat.le_refl _,by simp⟩
 case round=>
  obtain ⟨k,hk,rfl,hS,hB⟩:=hrel;have HS:=hD hS;have HB:=hD hB;have hszr:=hB.size;rw[hsz0] at hszr;clear hS hB;by_cases hlt:k<N
  ·obtain ⟨op,kk,a,b,v,hnd⟩:∃op kk a b v,nd k=⟨op,kk,a,b,v⟩:=⟨_,_,_,_,_,rfl⟩;have hgc:=HGC.o om;have HCK:Hd (∀ j u,(nd k).cells[j]?=some u->Cl wr gc (k*6+j) u):=fun j u h=>(HB.o.cell (p:=⟨gc,k*6+j,none⟩) (by show gc<_;omega)).trans ((HB0.o.cell (p:=⟨gc,k*6+j,none⟩) hgc).trans (HC.o k hlt j u h))
   have HND:Hd (∀ W,Stk W (w.heap.size+1+1) (w.heap.size+1+1) (.pointer (some ⟨gx,0,none⟩), .slice none 0 0) (sts k)->Calls Tryz.prog 41 #[.pointer (some ⟨w.heap.size+1+1,0,none⟩),(nd k).val] W fun e w'=>e= .returned (.tuple #[])/\Stk w' (w.heap.size+1+1) (w.heap.size+1+1) (.pointer (some ⟨gx,0,none⟩), .slice none 0 0) (sts (k+1))/\Below (w.heap.size+1+1) W w'):=fun W h=>uT (HST.o k hlt) _ _ _ W h (HLE.o k om)
   rw[hnd] at HCK HND;have a0:wr.cell? ⟨gc,k*6,none⟩=some (.int .u8 op):=HCK.o 0 _ rfl;have a1:wr.cell? ⟨gc,k*6+1,none⟩=some (.int .i64 kk):=HCK.o 1 _ rfl;have a2:wr.cell? ⟨gc,k*6+2,none⟩=some (.int .i64 a):=HCK.o 2 _ rfl;have a3:wr.cell? ⟨gc,k*6+3,none⟩=some (.int .i64 b):=HCK.o 3 _ rfl;have a4:wr.cell? ⟨gc,k*6+4,none⟩=some (.int .u64 ((v/B:Nat):Int)):=HCK.o 4 _ rfl;have a5:wr.cell? ⟨gc,k*6+5,none⟩=some (.int .u64 ((v%B:Nat):Int)):=HCK.o 5 _ rfl;unfold Nd.val aP at HND;dsimp only at HND;generalize ((v/B:Nat):Int)=v1 at*;generalize ((v%B:Nat):Int)=v2 at*;clear HCK hnd;go_wp2_with (go_at_call 41;refine (HND.o _ (HS.o.below (br.alloc lr _))).mono ?_;rintro e w1 ⟨rfl,hs1,hb1⟩;have HS1:=hD hs1;have HB1:=hD hb1;clear hs1 hb1);go_roundw
   case rel=>exact ⟨k+1,om,by go_num,HS1.o,(HB.o.alloc om _).trans HB1.o⟩
   case measure=>exact mz
  have hkN:k=N:=om;subst hkN;have HP:Hd (Calls Tryz.prog 42 #[.pointer (some ⟨w.heap.size+1+1,0,none⟩)] wr fun e w'=>e= .returned (.agg #[.int .u64 (y3:Int), .int .u64 (z3:Int), .int .i64 kr])/\Below (w.heap.size+1+1) wr w'):=by
   have h:=HS.o;rw[HRR.o] at h;have hp:=jD (w.heap.size+1+1) (w.heap.size+1+1) (.pointer (some ⟨gx,0,none⟩), .slice none 0 0) [] r kr wr h;rw[HYZ.o.1,HYZ.o.2] at hp;exact hp.mono fun e w' h=>⟨h.1,h.2.2.1⟩
  have hfn:=ze;go_wp2_with (go_at_call 42;refine HP.o.mono ?_;rintro e w1 ⟨rfl,hb1⟩;have HB1:=hD hb1;have hr1:w1.heap[w.heap.size+1]?=some (.cells #[.int .u64 0, .int .u64 0] 60 (0,0)):=(hb1.block _ om).trans ((HB.o.block _ om).trans HR0.o);have b0:w1.cell? ⟨w.heap.size+1,0,none⟩=some (.int .u64 0):=(by simp[World.cell?,hr1]);have b1:w1.cell? ⟨w.heap.size+1,1,none⟩=some (.int .u64 0):=(by simp[World.cell?,hr1]);have b2:w1.frozen? ⟨w.heap.size+1,0,none⟩=false:=(by simp[World.frozen?,hr1]);have b3:w1.frozen? ⟨w.heap.size+1,1,none⟩=false:=(by simp[World.frozen?,hr1]);clear hb1 hr1);exact bodyPost_ret (v:= .agg #[.int .u64 (y3:Int), .int .u64 (z3:Int)]) (by simp[results,Tryz.results20,go_sem,b0,b1,b2,b3]) rfl ⟨by rw[HE3.o],((HB0.o.trans ((HB.o.mono om))).trans (HB1.o.mono om)).setCell (by show w.heap.size<=w.heap.size+1;omega) _ |>.setCell (by show w.heap.size<=w.heap.size+1;omega) _⟩
def zf (w:World) (g:Nat) (b0 b1 b2 b3 b4 b5:Value):World:=(((((w.setCell ⟨g,0,none⟩ b0).setCell ⟨g,1,none⟩ b1).setCell ⟨g,2,none⟩ b2).setCell ⟨g,3,none⟩ b3).setCell ⟨g,4,none⟩ b4).setCell ⟨g,5,none⟩ b5
theorem xD {a0 a1 a2 a3 a4 a5 b0 b1 b2 b3 b4 b5:Value} (h:w.heap[g]?=some (.cells #[a0,a1,a2,a3,a4,a5] t (0,0))):(zf w g b0 b1 b2 b3 b4 b5).heap[g]?=some (.cells #[b0,b1,b2,b3,b4,b5] t (0,0)):=
 heap_setCell_same _ g 5 _ t b5 (heap_setCell_same _ g 4 _ t b4 (heap_setCell_same _ g 3 _ t b3 (heap_setCell_same _ g 2 _ t b2 (heap_setCell_same _ g 1 _ t b1 (heap_setCell_same _ g 0 _ t b0 h)))))
structure Runs (nd:Nat->Nd) (N:Nat) (r:Nat) (sts:Nat->List (Nat×Int)) (kr:Int):Prop where
 small:N<=50
 step:∀i,i<N->Step (nd i) (sts i) (sts (i+1))
 len:∀i,i<=N->(sts i).length<=50
 start:sts 0=[]
 fin:sts N=[(r,kr)]
def CodeAt (w:World) (gc N:Nat) (nd:Nat->Nd):Prop:=∀i,i<N->∀j v,(nd i).cells[j]?=some v->w.cell? ⟨gc,i*6+j,none⟩=some v
def AW (l:List Nd) (i:Nat):Nd:=l.getD i ⟨0,0,0,0,0⟩
def AH (l:List (List (Nat×Int))) (i:Nat):List (Nat×Int):=l.getD i []
theorem CodeAt.of_block {gc:Nat} {l:List Nd} {fr:Nat×Nat} (h:w.heap[gc]?=some (.cells (l.flatMap Nd.cells).toArray t fr)):CodeAt w gc l.length (AW l):=by
 intro i hi j v hv;have hj:j<6:=by
  have:=(bO hv).1;simpa [Nd.cells] using this
 have key:∀(l:List Nd) (i:Nat),i<l.length->(l.flatMap Nd.cells)[i*6+j]?=(AW l i).cells[j]?:=by
  intro l;induction l with
  |nil=>intro i hi;simp at hi
  |cons d l ih=>
   intro i hi;rw[List.flatMap_cons];cases i with
   |zero=>
    rw[Nat.zero_mul,Nat.zero_add,List.getElem?_append_left (by simp[Nd.cells];omega)];rfl
   |succ i=>
    have hd:d.cells.length=6:=rfl;rw[List.getElem?_append_right (by rw[hd];omega),hd,show (i+1)*6+j-6=i*6+j by omega];exact ih i (by simpa using hi)
 have e:=(key l i hi).trans hv;simp only[World.cell?,h];simpa using e
theorem Runs.of_list {l:List Nd} {ss:List (List (Nat×Int))} {kr:Int} (hn:l.length<=40) (hs:∀i,i<l.length->Step (AW l i) (AH ss i) (AH ss (i+1))) (hl:∀s∈ss,s.length<=50) (h0:AH ss 0=[]) (hr:AH ss l.length=[(r,kr)]):Runs (AW l) l.length r (AH ss) kr:=by
 refine ⟨om,hs,fun i _=>?_,h0,hr⟩;unfold AH;rw[List.getD_eq_getElem?_getD];cases h:ss[i]? with
 |none=>simp
 |some s=>simpa using hl s (cX h)
abbrev cN (k:Int) (v:Nat):Nd:=⟨1,k,0,0,v⟩
def mZ (l:List Nd) (r:Nat):Prop:=∃sts kr,Runs (AW l) l.length r sts kr
variable {k:Int} {m n:Nat}
theorem uV (k:Int):2 ^ sh k<=B*B:=by rw[dV];exact Nat.pow_le_pow_right om (ld k)
theorem tw (hm:m<2 ^ sh k):m<B*B:=Nat.lt_of_lt_of_le hm (uV k)
theorem zh (op:Int) (v:Nat) (hm:m<2 ^ sh k) (hn:n<2 ^ sh k) (kk:Int) (h:∀i j,Step ⟨op,kk,0,0,0⟩ ([]++[(m,i)]++[(n,j)]) ([]++[(v%2 ^ sh kk,kk)])):mZ [cN k m,cN k n,⟨op,kk,0,0,0⟩] (v%2 ^ sh kk):=by
 have e1:m%2 ^ sh k=m:=Nat.mod_eq_of_lt hm;have e2:n%2 ^ sh k=n:=Nat.mod_eq_of_lt hn;refine ⟨AH [[],[(m,k)],[(m,k),(n,k)],[(v%2 ^ sh kk,kk)]],kk,Runs.of_list sm (fun i hi=>?_) sm rfl rfl⟩;match i,hi with
 |0,_=>
  have:=Step.const k 0 0 m [] (tw hm);rw[e1] at this;exact this
 |1,_=>
  have:=Step.const k 0 0 n [(m,k)] (tw hn);rw[e2] at this;exact this
 |2,_=>exact h k k
 |i+3,hi=>exact absurd hi (by show ¬(i+3<3);omega)
theorem tx (hm:m<2 ^ sh k) (hn:n<2 ^ sh k):mZ [cN k m,cN k n,⟨12,k,0,0,0⟩] (nC m n k):=by
 have h:=zh (k:=k) 12 ((m+(B*B-n))%(B*B)%2 ^ sh k) hm hn k (fun i j=>Step.sub k 0 0 0 [] m n i j (tw hm) (tw hn));rw[Nat.mod_mod,dV] at h;exact h
theorem AI (n:Nat) (w:World) (hn:n<B):
 Calls Tryz.prog 18 #[.int .u64 (n:Int)] w fun e w'=>e= .returned (Nd.val ⟨1,4,0,0,n⟩)/\Bl w w':=by
 have HO:Hd (∀ W,Calls Tryz.prog 19 #[.int .u64 (n:Int)] W (ai W n)):=fun W=>eZ n hn W
 unfold Nd.val aP;dsimp only;obtain ⟨y3,z3,he3,ey3,ez3⟩:=ae n;unfold ai at HO;rw[he3] at HO;rw[<- ey3, <-ez3];clear he3 ey3 ez3 hn;go_enter Tryz.func18,Tryz.ntmps18;go_wp2_with (go_at_call 19;refine (HO.o _).mono ?_;rintro e w1 ⟨rfl,hb1⟩;obtain ⟨hc,hf⟩:=bT hb1;have hz1:=hb1.size;(try simp at hz1);have L1:w.heap.size<w1.heap.size:=by omega);have h0:w1.heap[w.heap.size]?=some (.cells #[.int .u8 0, .int .i64 0, .int .i64 0, .int .i64 0, .int .u64 0, .int .u64 0] 65 (0,0)):=by
  rw[hb1.block _ sm];exact ag w _
 have h6:=xD (b0:= .int .u8 1) (b1:= .int .i64 4) (b2:= .int .i64 0) (b3:= .int .i64 0) (b4:= .int .u64 (y3:Int)) (b5:= .int .u64 (z3:Int)) h0;have hbF:Bl w (zf w1 w.heap.size (.int .u8 1) (.int .i64 4) (.int .i64 0) (.int .i64 0) (.int .u64 (y3:Int)) (.int .u64 (z3:Int))):=by
  have hA:Bl w w1:=Below.trans bL (hb1.mono (by simp<;>omega));exact (((((hA.setCell lr _).setCell lr _).setCell lr _).setCell lr _).setCell lr _).setCell lr _
 change bodyPost _ _ _ _ _ (zf w1 w.heap.size (.int .u8 1) (.int .i64 4) (.int .i64 0) (.int .i64 0) (.int .u64 (y3:Int)) (.int .u64 (z3:Int)));generalize zf w1 w.heap.size (.int .u8 1) (.int .i64 4) (.int .i64 0) (.int .i64 0) (.int .u64 (y3:Int)) (.int .u64 (z3:Int))=WF at*;have e0:WF.cell? ⟨w.heap.size,0,none⟩=some (.int .u8 1):=by simp[World.cell?,h6]
 have e1:WF.cell? ⟨w.heap.size,1,none⟩=some (.int .i64 4):=by simp[World.cell?,h6]
 have e2:WF.cell? ⟨w.heap.size,2,none⟩=some (.int .i64 0):=by simp[World.cell?,h6]
 have e3:WF.cell? ⟨w.heap.size,3,none⟩=some (.int .i64 0):=by simp[World.cell?,h6]
 have e4:WF.cell? ⟨w.heap.size,4,none⟩=some (.int .u64 (y3:Int)):=by simp[World.cell?,h6]
 have e5:WF.cell? ⟨w.heap.size,5,none⟩=some (.int .u64 (z3:Int)):=by simp[World.cell?,h6]
 exact bodyPost_ret (v:= .agg #[.int .u8 1, .int .i64 4, .int .i64 0, .int .i64 0, .int .u64 (y3:Int), .int .u64 (z3:Int)]) (by simp[results,Tryz.results18,go_sem,e0,e1,e2,e3,e4,e5]) rfl ⟨rfl,hbF⟩
theorem qW {l:List Nd} (hr:mZ l r) (gx gc cap:Nat) (w:World) (t:TypeId) (h:w.heap[gc]?=some (.cells (l.flatMap Nd.cells).toArray t (0,0))):
 Calls Tryz.prog 20 #[qV, .pointer (some ⟨gx,0,none⟩), .slice (some ⟨gc,0,none⟩) l.length cap, .slice none 0 0] w (ai w r):=by
 obtain ⟨sts,kr,hr⟩:=hr;exact uU (AW l) sts l.length cap gx gc r kr w hr.small hr.step hr.len hr.start hr.fin (CodeAt.of_block h)
theorem AJ:mZ [cN 4 5,cN 4 3,⟨12,4,0,0,0⟩] 2:=by
 have h:=tx (k:=4) (m:=5) (n:=3) dq dq;have e:nC 5 3 4=2:=by decide
 rwa [e] at h
theorem AK:mZ [cN 4 3,cN 4 5,⟨12,4,0,0,0⟩] 14:=by
 have h:=tx (k:=4) (m:=3) (n:=5) dq dq;have e:nC 3 5 4=14:=by decide
 rwa [e] at h
def TSl (n:Nat) (cs:Array Value) (t:TypeId):Tw:=fun B W _ v=>∃g,v= .slice (some ⟨g,0,none⟩) n n/\B g/\W.heap[g]?=some (.cells cs t (0,0))
theorem TSl.stab {n:Nat} {cs:Array Value} {B:Nat->Prop} {w':World} {v:Value} (h:TSl n cs t B w ls v) (hk:∀k,B k\/D k->w'.heap[k]?=w.heap[k]?):TSl n cs t B w' ls v:=by
 obtain ⟨g,rfl,h1,h2⟩:=h;exact ⟨g,rfl,h1,(hk _ (.inl h1)).trans h2⟩
def TTwo (t:TypeId):Tw:=fun B W _ v=>∃g,v= .pointer (some ⟨g,0,none⟩)/\B g/\∃x y,W.heap[g]?=some (.cells #[x,y] t (0,0))
theorem TTwo.stab {B:Nat->Prop} {w':World} {v:Value} (h:TTwo t B w ls v) (hk:∀k,B k\/D k->w'.heap[k]?=w.heap[k]?):TTwo t B w' ls v:=by
 obtain ⟨g,rfl,h1,x,y,h2⟩:=h;exact ⟨g,rfl,h1,x,y,(hk _ (.inl h1)).trans h2⟩
def xE:Tw:=fun _ _ _ _=>True
theorem RWg.boxTwo {S:Rw} {l:List Value} {B:Nat->Nat->Prop} {t:Nat} {js:List Nat} (h:RWg S L l w B) (hd:aZ L t=true) (hk:S.kd[t]?=some (js,TTwo ty)) (e:fZ l t= .pointer (some ⟨g,0,none⟩)):∀j,aZ L j=true->j≠t->¬B j g:=fun j hj hne hb=>by
 obtain ⟨-,g',e',h1,-⟩:=h.ok t _ _ hd hk;rw[e] at e';have eg:g=g':=by simpa using e'
 subst eg;exact hne (h.apart j t g hj hd hb h1)
def LaidTwo (s t n0:Nat) (x y:Value) (ty:TypeId) (L:Array Bool) (l:List Value) (w:World):Prop:=aZ L s=true->aZ L t=true/\∃g,fZ l t= .pointer (some ⟨g,0,none⟩)/\n0<=g/\w.heap[g]?=some (.cells #[x,y] ty (0,0))
theorem LaidTwo.start {t n:Nat} {l:List Value} :LaidTwo s t n0 x y ty (Array.replicate n false) l w:=fun hd=>by rw[fe] at hd;cases hd
theorem LaidTwo.quiet {t i:Nat} {v:Value} {l:List Value} {w':World} (h:LaidTwo s t n0 x y ty L l w) (hn:aZ L i=false) (hs:i≠s) (hb:Bl w w'):LaidTwo s t n0 x y ty (L.setIfInBounds i true) (l.set i v) w':=fun hd=>by
 rw[aT (fun e=>hs e.symm)] at hd;obtain ⟨h1,g,e1,h2,h3⟩:=h hd;have it:i≠t:=fun e=>by rw[e,h1] at hn;cases hn
 exact ⟨by rw[aT (fun e=>it e.symm)];exact h1,g,by rw[dO it];exact e1,h2,(hb.block _ (aI h3)).trans h3⟩
def kR (gx g2 kc a b r:Nat) (w0:World):Rw where
 n0:=w0.heap.size
 dep:=fun _=>False
 kd:=[nD (.agg #[.slice none 0 0, .slice none 0 0, .slice none 0 0, .slice none 0 0, .slice none 0 0, .slice none 0 0, .slice none 0 0, .slice none 0 0, .slice none 0 0, .slice none 0 0, .slice none 0 0, .slice none 0 0]),nD (.pointer (some ⟨gx,0,none⟩)),nD (.func (Fn.func kc) #[] #[]),nD (.agg #[.int .u8 1, .int .i64 4, .int .i64 0, .int .i64 0, .int .u64 0, .int .u64 a]),nD (.func (Fn.func kc) #[] #[]),nD (.agg #[.int .u8 1, .int .i64 4, .int .i64 0, .int .i64 0, .int .u64 0, .int .u64 b]),nD (.agg #[.int .u8 12, .int .i64 4, .int .i64 0, .int .i64 0, .int .u64 0, .int .u64 0]),
  ([],TSl 3 #[.int .u8 1, .int .i64 4, .int .i64 0, .int .i64 0, .int .u64 0, .int .u64 a, .int .u8 1, .int .i64 4, .int .i64 0, .int .i64 0, .int .u64 0, .int .u64 b, .int .u8 12, .int .i64 4, .int .i64 0, .int .i64 0, .int .u64 0, .int .u64 0] 65),nD (.agg #[.int .u64 0, .int .u64 r]),([],TTwo 60),([9],xE)]
 G:=fun L l w=>Bl w0 w/\LaidTwo 10 9 w0.heap.size (.int .u64 0) (.int .u64 r) 60 L l w
theorem tz {gx g2 kc a b:Nat} {w0:World}:(kR gx g2 kc a b r w0).Fine where
 old:=fun _ h=>h.elim
 stab:=fun i js P hk B w w' ls v hp _ hw hs=>by
  match i,hk with
  |0,hk=>cases hk;exact hp
  |1,hk=>cases hk;exact hp
  |2,hk=>cases hk;exact hp
  |3,hk=>cases hk;exact hp
  |4,hk=>cases hk;exact hp
  |5,hk=>cases hk;exact hp
  |6,hk=>cases hk;exact hp
  |7,hk=>cases hk;exact TSl.stab hp hw
  |8,hk=>cases hk;exact hp
  |9,hk=>cases hk;exact TTwo.stab hp hw
  |10,hk=>cases hk;trivial
  |i+11,hk=>simp[kR] at hk
theorem oF {g':Nat} {u v:Value} (h:w.heap[g']?=some (.cells #[x,y] t (0,0))):∃a b,((w.setCell ⟨g,0,none⟩ u).setCell ⟨g,1,none⟩ v).heap[g']?=some (.cells #[a,b] t (0,0)):=by
 by_cases e:g'=g
 ·subst e;exact ⟨_,_,bP _ (bQ _ h)⟩
 exact ⟨_,_,by rw[aq e,aq e];exact h⟩
theorem BP (gx g2:Nat) (WB:World)
 (HF:Hd (Rw.Fine (kR gx g2 18 5 3 2 WB))) (HG0:Hd (∀ l:List Value,(kR gx g2 18 5 3 2 WB).G (Array.replicate 11 false) l WB.drew)) (Hn0:(kR gx g2 18 5 3 2 WB).n0<=WB.heap.size)
 (HK5:Hd (∀ W,CR 18 #[.int .u64 5] W (.agg #[.int .u8 1, .int .i64 4, .int .i64 0, .int .i64 0, .int .u64 0, .int .u64 5])))
 (HK3:Hd (∀ W,CR 18 #[.int .u64 3] W (.agg #[.int .u8 1, .int .i64 4, .int .i64 0, .int .i64 0, .int .u64 0, .int .u64 3])))
 (HC:Hd (∀ W,Bl WB W->Cl W g2 0 (.int .u8 12)/\Cl W g2 1 (.int .i64 4)/\Cl W g2 2 (.int .i64 0)/\Cl W g2 3 (.int .i64 0)/\Cl W g2 4 (.int .u64 0)/\Cl W g2 5 (.int .u64 0)))
 (HV:Hd (∀ W gc,W.heap[gc]?=some (.cells #[.int .u8 1, .int .i64 4, .int .i64 0, .int .i64 0, .int .u64 0, .int .u64 5, .int .u8 1, .int .i64 4, .int .i64 0, .int .i64 0, .int .u64 0, .int .u64 3, .int .u8 12, .int .i64 4, .int .i64 0, .int .i64 0, .int .u64 0, .int .u64 0] 65 (0,0))->CR 20 #[.agg #[.slice none 0 0, .slice none 0 0, .slice none 0 0, .slice none 0 0, .slice none 0 0, .slice none 0 0, .slice none 0 0, .slice none 0 0, .slice none 0 0, .slice none 0 0, .slice none 0 0, .slice none 0 0], .pointer (some ⟨gx,0,none⟩), .slice (some ⟨gc,0,none⟩) 3 3, .slice none 0 0] W (.agg #[.int .u64 0, .int .u64 2])))
 (HGQ:Hd (∀ (i:Nat) (v:Value) (L:Array Bool) (l:List Value) (w w':World),aZ L i=false->i<L.size->i<l.length->Bl w w'->(kR gx g2 18 5 3 2 WB).G L l w->i≠10->(kR gx g2 18 5 3 2 WB).G (L.setIfInBounds i true) (l.set i v) w'))
 (c0 c4 c5 c6 c7 c8 c9 c10 c11 c12 c13 c14 c15 c16 c17 c18 c19 c20 c21 c22 c23 c24 c25 c26 c27 c28 c29 c30 c31 c32 c33 c34:Value) (Q:Exit->Act->World->Prop)
 (hexit:∀(u0 u1 u2 u3 u4 u5 u6 u7 u8 u9:Value) (L:Array Bool) (w':World),(∀ i,i<11->aZ L i=true)->RW (kR gx g2 18 5 3 2 WB) L [u0,u1,u2,u3,u4,u5,u6,u7,u8,u9,undef] w'->Q .normal ⟨#[c0, .func (Fn.func 18) #[] #[], .pointer (some ⟨g2,0,none⟩), .pointer (some ⟨gx,0,none⟩),u9,c5,c6,c7,c8,u0,u1,u2,u3,u4,u5,u6,u7,u8,c18,c19,c20,c21,c22,c23,c24,c25,c26,c27,c28,c29,c30,c31,c32,c33,c34],[]⟩ w'):
 Code.wp Tryz.prog ((Tryz.f6.body.bind (bN 4)).getD .skip) Q ⟨#[c0, .func (Fn.func 18) #[] #[], .pointer (some ⟨g2,0,none⟩), .pointer (some ⟨gx,0,none⟩),c4,c5,c6,c7,c8,c9,c10,c11,c12,c13,c14,c15,c16,c17,c18,c19,c20,c21,c22,c23,c24,c25,c26,c27,c28,c29,c30,c31,c32,c33,c34],[]⟩ WB:=by
 dsimp only at hexit⊢;conv=>arg 2;whnf
 have HEX:=hD hexit;clear hexit;have hF:=HF.o;refine ft kq (fun L a' w'=>∃u0 u1 u2 u3 u4 u5 u6 u7 u8 u9:Value,a'=⟨#[c0, .func (Fn.func 18) #[] #[], .pointer (some ⟨g2,0,none⟩), .pointer (some ⟨gx,0,none⟩),u9,c5,c6,c7,c8,u0,u1,u2,u3,u4,u5,u6,u7,u8,c18,c19,c20,c21,c22,c23,c24,c25,c26,c27,c28,c29,c30,c31,c32,c33,c34],[]⟩/\L.size=11/\RW (kR gx g2 18 5 3 2 WB) L [u0,u1,u2,u3,u4,u5,u6,u7,u8,u9,undef] w') ?_ ?_ ?_ ?_
 ·exact ⟨_,_,_,_,_,_,_,_,_,_,rfl,by simp,RW.init (fun i=>fe _ _) Hn0 (HG0.o _)⟩
 ·rintro L a' w' i hL hi hnd hdep ⟨u0,u1,u2,u3,u4,u5,u6,u7,u8,u9,rfl,hLn,hI⟩;dsimp only;have hsz:∀i,(L.setIfInBounds i true).size=11:=fun i=>by simpa using hLn
  have hL11:L.size=11:=hL;have HI:=hD hI;clear hI;match i,hi with
  |0,_=>
   exact Dc
  |1,_=>
   exact Dd
  |2,_=>
   exact De
  |3,_=>
   have HN:=hD hnd;have q2:=(HI.o.got 2 (hdep _ rfl ⟨2, .data⟩ sm kq) rfl).symm;subst q2;have HJ:Hd (∀ j∈([]:List Nat),aZ L j=true):=fun j hj=>by cases hj
   clear hdep hnd;refine wpOp_step rfl (fun K' hK=>?_);go_simp;refine (HK5.o _).mono ?_;exact Dr
  |4,_=>
   exact Df
  |5,_=>
   have HN:=hD hnd;have q4:=(HI.o.got 4 (hdep _ rfl ⟨4, .data⟩ sm kq) rfl).symm;subst q4;have HJ:Hd (∀ j∈([]:List Nat),aZ L j=true):=fun j hj=>by cases hj
   clear hdep hnd;refine wpOp_step rfl (fun K' hK=>?_);go_simp;refine (HK3.o _).mono ?_;exact Ds
  |6,_=>
   exact C8
  |7,_=>
   have HN:=hD hnd;have q6:=(HI.o.got 6 (hdep _ rfl ⟨6, .data⟩ sm kq) rfl).symm;subst q6;have HJ:Hd (∀ j∈([]:List Nat),aZ L j=true):=fun j hj=>by cases hj
   have q3:=(HI.o.got 3 (hdep _ rfl ⟨3, .data⟩ sm kq) rfl).symm;subst q3;have q5:=(HI.o.got 5 (hdep _ rfl ⟨5, .data⟩ sm kq) rfl).symm;subst q5;clear hdep hnd;refine wpOp_step rfl (fun K' hK=>?_);go_simp;have hbK:Bl w' (w'.alloc (.cells #[.int .u8 1, .int .i64 4, .int .i64 0, .int .i64 0, .int .u64 0, .int .u64 5, .int .u8 1, .int .i64 4, .int .i64 0, .int .i64 0, .int .u64 0, .int .u64 3, .int .u8 12, .int .i64 4, .int .i64 0, .int .i64 0, .int .u64 0, .int .u64 0] 65)):=br.alloc lr _;exact Dm
  |8,_=>
   exact CZ
  |9,_=>
   exact C6
  |10,_=>
   have HN:=hD hnd;have d9:=hdep _ rfl ⟨9, .data⟩ sm kq;have HJ:Hd (∀ j∈([9]:List Nat),aZ L j=true):=by
    intro j hj;simp only[List.mem_cons,List.not_mem_nil,or_false] at hj;subst hj;assumption
   have q8:=(HI.o.got 8 (hdep _ rfl ⟨8, .data⟩ sm kq) rfl).symm;subst q8;obtain ⟨B9,hb9,g,e9,hg9,ex,ey,h9⟩:=HI.o.made 9 d9 rfl;have e9:u9= .pointer (some ⟨g,0,none⟩):=e9;subst e9;have HGE:Hd (WB.heap.size<=g):=(hb9 g hg9).1;have H9:=hD h9;have HD9:=hD d9;have z0:w'.cell? ⟨g,0,none⟩=some ex:=by simp[World.cell?,h9]
   have z1:w'.cell? ⟨g,1,none⟩=some ey:=by simp[World.cell?,h9]
   have z2:w'.frozen? ⟨g,0,none⟩=false:=by simp[World.frozen?,h9]
   have z3:w'.frozen? ⟨g,1,none⟩=false:=by simp[World.frozen?,h9]
   clear h9 hb9 hg9;clear hdep hnd d9;refine wpOp_step rfl (fun K' hK=>?_);go_simp;exact hK _ _ ⟨_,_,_,_,_,_,_,_,_,_,rfl,hsz _,(HI.o.put 10 9 g undef (js:=[9]) (P:=xE) (w':=(w'.setCell ⟨g,0,none⟩ (.int .u64 0)).setCell ⟨g,1,none⟩ (.int .u64 2)) hF HN.o om (by show 10<11;omega) rfl HJ.o (fun k hk=>by rw[aq hk,aq hk]) sm (fun B hB=>⟨hB.boxTwo HD9.o rfl rfl,fun h=>h⟩) (fun js' P' hk B ls x hp=>by cases hk;obtain ⟨g',rfl,q1,x',y',q2⟩:=hp;exact ⟨g',rfl,q1,oF q2⟩) (fun hg=>⟨(hg.1.setCell HGE.o _).setCell HGE.o _,fun _=>⟨by rw[aT om];exact HD9.o,g,rfl,HGE.o,bP _ (bQ _ H9.o)⟩⟩) trivial)⟩
  |i+11,hi=>exact absurd hi (by show ¬(i+11<11);omega)
 ·exact C0
 exact DJ
theorem BQ (gx g2:Nat) (WB:World)
 (HF:Hd (Rw.Fine (kR gx g2 18 3 5 14 WB))) (HG0:Hd (∀ l:List Value,(kR gx g2 18 3 5 14 WB).G (Array.replicate 11 false) l WB.drew)) (Hn0:(kR gx g2 18 3 5 14 WB).n0<=WB.heap.size)
 (HK3:Hd (∀ W,CR 18 #[.int .u64 3] W (.agg #[.int .u8 1, .int .i64 4, .int .i64 0, .int .i64 0, .int .u64 0, .int .u64 3])))
 (HK5:Hd (∀ W,CR 18 #[.int .u64 5] W (.agg #[.int .u8 1, .int .i64 4, .int .i64 0, .int .i64 0, .int .u64 0, .int .u64 5])))
 (HC:Hd (∀ W,Bl WB W->Cl W g2 0 (.int .u8 12)/\Cl W g2 1 (.int .i64 4)/\Cl W g2 2 (.int .i64 0)/\Cl W g2 3 (.int .i64 0)/\Cl W g2 4 (.int .u64 0)/\Cl W g2 5 (.int .u64 0)))
 (HV:Hd (∀ W gc,W.heap[gc]?=some (.cells #[.int .u8 1, .int .i64 4, .int .i64 0, .int .i64 0, .int .u64 0, .int .u64 3, .int .u8 1, .int .i64 4, .int .i64 0, .int .i64 0, .int .u64 0, .int .u64 5, .int .u8 12, .int .i64 4, .int .i64 0, .int .i64 0, .int .u64 0, .int .u64 0] 65 (0,0))->CR 20 #[.agg #[.slice none 0 0, .slice none 0 0, .slice none 0 0, .slice none 0 0, .slice none 0 0, .slice none 0 0, .slice none 0 0, .slice none 0 0, .slice none 0 0, .slice none 0 0, .slice none 0 0, .slice none 0 0], .pointer (some ⟨gx,0,none⟩), .slice (some ⟨gc,0,none⟩) 3 3, .slice none 0 0] W (.agg #[.int .u64 0, .int .u64 14])))
 (HGQ:Hd (∀ (i:Nat) (v:Value) (L:Array Bool) (l:List Value) (w w':World),aZ L i=false->i<L.size->i<l.length->Bl w w'->(kR gx g2 18 3 5 14 WB).G L l w->i≠10->(kR gx g2 18 3 5 14 WB).G (L.setIfInBounds i true) (l.set i v) w'))
 (c0 c4 c5 c6 c7 c8 c9 c10 c11 c12 c13 c14 c15 c16 c17 c18 c19 c20 c21 c22 c23 c24 c25 c26 c27 c28 c29 c30 c31 c32 c33 c34:Value) (Q:Exit->Act->World->Prop)
 (hexit:∀(u0 u1 u2 u3 u4 u5 u6 u7 u8 u9:Value) (L:Array Bool) (w':World),(∀ i,i<11->aZ L i=true)->RW (kR gx g2 18 3 5 14 WB) L [u0,u1,u2,u3,u4,u5,u6,u7,u8,u9,undef] w'->Q .normal ⟨#[c0, .func (Fn.func 18) #[] #[], .pointer (some ⟨g2,0,none⟩), .pointer (some ⟨gx,0,none⟩),c4,u9,c6,c7,c8,c9,c10,c11,c12,c13,c14,c15,c16,c17,u0,u1,u2,u3,u4,u5,u6,u7,u8,c27,c28,c29,c30,c31,c32,c33,c34],[]⟩ w'):
 Code.wp Tryz.prog ((Tryz.f6.body.bind (bN 5)).getD .skip) Q ⟨#[c0, .func (Fn.func 18) #[] #[], .pointer (some ⟨g2,0,none⟩), .pointer (some ⟨gx,0,none⟩),c4,c5,c6,c7,c8,c9,c10,c11,c12,c13,c14,c15,c16,c17,c18,c19,c20,c21,c22,c23,c24,c25,c26,c27,c28,c29,c30,c31,c32,c33,c34],[]⟩ WB:=by
 dsimp only at hexit⊢;conv=>arg 2;whnf
 have HEX:=hD hexit;clear hexit;have hF:=HF.o;refine ft kq (fun L a' w'=>∃u0 u1 u2 u3 u4 u5 u6 u7 u8 u9:Value,a'=⟨#[c0, .func (Fn.func 18) #[] #[], .pointer (some ⟨g2,0,none⟩), .pointer (some ⟨gx,0,none⟩),c4,u9,c6,c7,c8,c9,c10,c11,c12,c13,c14,c15,c16,c17,u0,u1,u2,u3,u4,u5,u6,u7,u8,c27,c28,c29,c30,c31,c32,c33,c34],[]⟩/\L.size=11/\RW (kR gx g2 18 3 5 14 WB) L [u0,u1,u2,u3,u4,u5,u6,u7,u8,u9,undef] w') ?_ ?_ ?_ ?_
 ·exact ⟨_,_,_,_,_,_,_,_,_,_,rfl,by simp,RW.init (fun i=>fe _ _) Hn0 (HG0.o _)⟩
 ·rintro L a' w' i hL hi hnd hdep ⟨u0,u1,u2,u3,u4,u5,u6,u7,u8,u9,rfl,hLn,hI⟩;dsimp only;have hsz:∀i,(L.setIfInBounds i true).size=11:=fun i=>by simpa using hLn
  have hL11:L.size=11:=hL;have HI:=hD hI;clear hI;match i,hi with
  |0,_=>
   exact Dc
  |1,_=>
   exact Dd
  |2,_=>
   exact De
  |3,_=>
   have HN:=hD hnd;have q2:=(HI.o.got 2 (hdep _ rfl ⟨2, .data⟩ sm kq) rfl).symm;subst q2;have HJ:Hd (∀ j∈([]:List Nat),aZ L j=true):=fun j hj=>by cases hj
   clear hdep hnd;refine wpOp_step rfl (fun K' hK=>?_);go_simp;refine (HK3.o _).mono ?_;exact Dr
  |4,_=>
   exact Df
  |5,_=>
   have HN:=hD hnd;have q4:=(HI.o.got 4 (hdep _ rfl ⟨4, .data⟩ sm kq) rfl).symm;subst q4;have HJ:Hd (∀ j∈([]:List Nat),aZ L j=true):=fun j hj=>by cases hj
   clear hdep hnd;refine wpOp_step rfl (fun K' hK=>?_);go_simp;refine (HK5.o _).mono ?_;exact Ds
  |6,_=>
   exact C8
  |7,_=>
   have HN:=hD hnd;have q6:=(HI.o.got 6 (hdep _ rfl ⟨6, .data⟩ sm kq) rfl).symm;subst q6;have HJ:Hd (∀ j∈([]:List Nat),aZ L j=true):=fun j hj=>by cases hj
   have q3:=(HI.o.got 3 (hdep _ rfl ⟨3, .data⟩ sm kq) rfl).symm;subst q3;have q5:=(HI.o.got 5 (hdep _ rfl ⟨5, .data⟩ sm kq) rfl).symm;subst q5;clear hdep hnd;refine wpOp_step rfl (fun K' hK=>?_);go_simp;have hbK:Bl w' (w'.alloc (.cells #[.int .u8 1, .int .i64 4, .int .i64 0, .int .i64 0, .int .u64 0, .int .u64 3, .int .u8 1, .int .i64 4, .int .i64 0, .int .i64 0, .int .u64 0, .int .u64 5, .int .u8 12, .int .i64 4, .int .i64 0, .int .i64 0, .int .u64 0, .int .u64 0] 65)):=br.alloc lr _;exact Dm
  |8,_=>
   exact CZ
  |9,_=>
   exact C6
  |10,_=>
   have HN:=hD hnd;have d9:=hdep _ rfl ⟨9, .data⟩ sm kq;have HJ:Hd (∀ j∈([9]:List Nat),aZ L j=true):=by
    intro j hj;simp only[List.mem_cons,List.not_mem_nil,or_false] at hj;subst hj;assumption
   have q8:=(HI.o.got 8 (hdep _ rfl ⟨8, .data⟩ sm kq) rfl).symm;subst q8;obtain ⟨B9,hb9,g,e9,hg9,ex,ey,h9⟩:=HI.o.made 9 d9 rfl;have e9:u9= .pointer (some ⟨g,0,none⟩):=e9;subst e9;have HGE:Hd (WB.heap.size<=g):=(hb9 g hg9).1;have H9:=hD h9;have HD9:=hD d9;have z0:w'.cell? ⟨g,0,none⟩=some ex:=by simp[World.cell?,h9]
   have z1:w'.cell? ⟨g,1,none⟩=some ey:=by simp[World.cell?,h9]
   have z2:w'.frozen? ⟨g,0,none⟩=false:=by simp[World.frozen?,h9]
   have z3:w'.frozen? ⟨g,1,none⟩=false:=by simp[World.frozen?,h9]
   clear h9 hb9 hg9;clear hdep hnd d9;refine wpOp_step rfl (fun K' hK=>?_);go_simp;exact hK _ _ ⟨_,_,_,_,_,_,_,_,_,_,rfl,hsz _,(HI.o.put 10 9 g undef (js:=[9]) (P:=xE) (w':=(w'.setCell ⟨g,0,none⟩ (.int .u64 0)).setCell ⟨g,1,none⟩ (.int .u64 14)) hF HN.o om (by show 10<11;omega) rfl HJ.o (fun k hk=>by rw[aq hk,aq hk]) sm (fun B hB=>⟨hB.boxTwo HD9.o rfl rfl,fun h=>h⟩) (fun js' P' hk B ls x hp=>by cases hk;obtain ⟨g',rfl,q1,x',y',q2⟩:=hp;exact ⟨g',rfl,q1,oF q2⟩) (fun hg=>⟨(hg.1.setCell HGE.o _).setCell HGE.o _,fun _=>⟨by rw[aT om];exact HD9.o,g,rfl,HGE.o,bP _ (bQ _ H9.o)⟩⟩) trivial)⟩
  |i+11,hi=>exact absurd hi (by show ¬(i+11<11);omega)
 ·exact C0
 exact DJ
end Go.Proofs.YtjfhfaodbjecdaaGreat
