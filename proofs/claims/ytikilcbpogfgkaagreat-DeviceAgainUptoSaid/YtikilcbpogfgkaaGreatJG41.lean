/- Lemmas. -/
import Derived.Test.YtikilcbpogfgkaaGreatJG40
import Derived.OpenShut
import Derived.Deep.Slices
set_option maxHeartbeats 12800000
set_option maxRecDepth 100000
namespace Go.Proofs.YtikilcbpogfgkaaGreat
open Go.RowKit Stab
variable {α:Type} {sz fuel base m:Nat} {W:World} {t e:TypeId} {fs:Array Field} {va c0 c1:Value}
def p22:Prg:=⟨[],[],[⟨[],[],[],-1⟩],[],[],[⟨5,0,0,[⟨1,9,0,0,3⟩],0⟩],[],[],[],[],[],[]⟩
theorem p22_ok:PaOk p22 []:=by
 have h1:greatN p22<=6000:=by decide
 have h2:mayP p22=true:=by first|rfl|decide +kernel
 exact ⟨Sm.of h1,h2,apok_of h2 (Sm.of h1) (fun _ h=>by cases h) sm (fewB_of fun _ h=>by cases h),fun _ h=>by cases h⟩
theorem p22_pass:passP p22 [] 1 [170]=⟨true,true,false,false,3,[170]⟩:=by
 rfl
theorem row_one {At:World->Nat->Nat->α->Prop} {w:World} {g:Nat} {x:α} (hlt:g<w.heap.size) (h:At w g 0 x):RowAt sz At w (.slice (some ⟨g,0,none⟩) 1 1) [x]:=by
 refine ⟨_,1,rfl,Nat.le_refl _,by decide,(fun e=>by cases e),fun _=>⟨g,0,rfl,hlt,fun j y hj=>?_⟩⟩
 match j,hj with
 |0,hj=>cases hj;simpa using h
theorem p22_at {gs gc gI:Nat} (h0:W.heap[gs]?=some (.cells #[.slice none 0 0, .slice none 0 0, .slice none 0 0, .int .i64 (-1)] 79 (0,0))) (h1:W.heap[gc]?=some (.cells #[.int .u8 1, .int .i64 9, .int .i64 0, .int .i64 0, .int .u64 0, .int .u64 3] 84 (0,0))) (h2:W.heap[gI]?=some (.cells #[.int .u8 5, .int .i64 0, .int .i64 0, .slice (some ⟨gc,0,none⟩) 1 1, .int .i64 0] 86 (0,0))):
 StpRow W (.slice (some ⟨gs,0,none⟩) 1 1) p22.steps/\IstRow W (.slice (some ⟨gI,0,none⟩) 1 1) p22.ctl:=by
 refine ⟨row_one (lt_some h0) ⟨⟨none,0,0,?_,RowAt.nil⟩,⟨none,0,0,?_,RowAt.nil⟩,⟨none,0,0,?_,RowAt.nil⟩,?_⟩,row_one (lt_some h2) ⟨?_,?_,?_,⟨some ⟨gc,0,none⟩,1,1,?_,row_one (lt_some h1) ?_⟩,?_⟩⟩
 all_goals first|(simp[World.cell?,h0];done)|(simp[World.cell?,h2];done)|skip
 refine ⟨?_,?_,?_,?_,by decide,?_,?_⟩
 all_goals (simp[World.cell?,h1];try decide)
theorem same22_true (p1 p2:Option Addr) (n c1 c2:Nat) (xs:List Int) (w:World) (h1:URow w (.slice p1 n c1) xs) (h2:URow w (.slice p2 n c2) xs):
 Calls Tryz.prog 22 #[.agg #[.bool true, .bool true, .bool false, .bool false, .int .i64 3, .slice p1 n c1], .agg #[.bool true, .bool true, .bool false, .bool false, .int .i64 3, .slice p2 n c2]] w fun e w'=>e= .returned (.bool true)/\Bl w w':=by
 have hb:Bl w ((w.alloc (.cells #[.bool true, .bool true, .bool false, .bool false, .int .i64 3, .slice p1 n c1] 39)).alloc (.cells #[.bool true, .bool true, .bool false, .bool false, .int .i64 3, .slice p2 n c2] 39)):=bL;have HB:=hD hb;have k1:=uconv (h1.below keepU hb);have k2:=uconv (h2.below keepU hb);clear hb h1 h2;generalize strOfNums xs=S at*;go_enter Tryz.func22,Tryz.ntmps22;go_wp2_with fail;go_ret;exact ⟨rfl,HB.o⟩
theorem chain4 (w:World) (o0 o1 o2 o3:Obj):((((w.alloc o0).alloc o1).alloc o2).alloc o3).heap[w.heap.size]?=some o0/\((((w.alloc o0).alloc o1).alloc o2).alloc o3).heap[w.heap.size+1]?=some o1/\((((w.alloc o0).alloc o1).alloc o2).alloc o3).heap[w.heap.size+1+1]?=some o2/\((((w.alloc o0).alloc o1).alloc o2).alloc o3).heap[w.heap.size+1+1+1]?=some o3:=by
 have h1:=heap_new (w.alloc o0) o1;have h2:=heap_new ((w.alloc o0).alloc o1) o2;have h3:=heap_new (((w.alloc o0).alloc o1).alloc o2) o3;simp only[World.size_alloc] at h1 h2 h3;refine ⟨?_,?_,?_,h3⟩
 ·rw[Below.heap_alloc _ _ _ (by simp;omega),Below.heap_alloc _ _ _ (by simp;omega),Below.heap_alloc _ _ _ sm];exact heap_new _ _
 ·rw[Below.heap_alloc _ _ _ sm,Below.heap_alloc _ _ _ sm];exact h1
 ·rw[Below.heap_alloc _ _ _ sm];exact h2
theorem one_new (w:World) (x:Int):URow (w.alloc (.cells #[.int .u8 x] 5)) (.slice (some ⟨w.heap.size,0,none⟩) 1 1) [x]:=by
 refine ⟨_,1,rfl,Nat.le_refl _,by decide,(fun e=>by cases e),fun _=>⟨w.heap.size,0,rfl,by simp,fun j y hj=>?_⟩⟩
 match j,hj with
 |0,hj=>
  cases hj;show (w.alloc _).cell? ⟨w.heap.size,0+0*1,none⟩=_;have hw:=heap_new w (.cells #[.int .u8 x] 5);generalize w.alloc (.cells #[.int .u8 x] 5)=W at hw⊢;simp[World.cell?,hw]
theorem known22_true (w:World):Calls Tryz.prog 7 #[] w fun e w'=>e= .returned (.bool true)/\Bl w w':=by
 go_enter Tryz.func7,Tryz.ntmps7;go_upto_region 2 with fail
 obtain ⟨W1,hW1⟩:=nm ((((w.alloc (.cells #[.slice none 0 0, .slice none 0 0, .slice none 0 0, .int .i64 (-1)] 79)).alloc (.cells #[.int .u8 1, .int .i64 9, .int .i64 0, .int .i64 0, .int .u64 0, .int .u64 3] 84)).alloc (.cells #[.int .u8 5, .int .i64 0, .int .i64 0, .slice (some ⟨w.heap.size+1,0,none⟩) 1 1, .int .i64 0] 86)).alloc (.cells #[.slice none 0 0, .slice none 0 0, .slice (some ⟨w.heap.size,0,none⟩) 1 1, .slice none 0 0, .slice none 0 0, .slice (some ⟨w.heap.size+1+1,0,none⟩) 1 1, .slice none 0 0, .slice none 0 0, .slice none 0 0, .slice none 0 0, .slice none 0 0, .slice none 0 0] 33));have hp:StpRow W1 (.slice (some ⟨w.heap.size,0,none⟩) 1 1) p22.steps/\IstRow W1 (.slice (some ⟨w.heap.size+1+1,0,none⟩) 1 1) p22.ctl:=by
  rw[hW1];obtain ⟨h0,h1,h2,-⟩:=chain4 w (.cells #[.slice none 0 0, .slice none 0 0, .slice none 0 0, .int .i64 (-1)] 79) (.cells #[.int .u8 1, .int .i64 9, .int .i64 0, .int .i64 0, .int .u64 0, .int .u64 3] 84) (.cells #[.int .u8 5, .int .i64 0, .int .i64 0, .slice (some ⟨w.heap.size+1,0,none⟩) 1 1, .int .i64 0] 86) (.cells #[.slice none 0 0, .slice none 0 0, .slice (some ⟨w.heap.size,0,none⟩) 1 1, .slice none 0 0, .slice none 0 0, .slice (some ⟨w.heap.size+1+1,0,none⟩) 1 1, .slice none 0 0, .slice none 0 0, .slice none 0 0, .slice none 0 0, .slice none 0 0, .slice none 0 0] 33);exact p22_at h0 h1 h2
 have hb1:Bl w W1:=by rw[hW1];exact bL
 have hg:W1.heap[w.heap.size+1+1+1]?=some (.cells #[.slice none 0 0, .slice none 0 0, .slice (some ⟨w.heap.size,0,none⟩) 1 1, .slice none 0 0, .slice none 0 0, .slice (some ⟨w.heap.size+1+1,0,none⟩) 1 1, .slice none 0 0, .slice none 0 0, .slice none 0 0, .slice none 0 0, .slice none 0 0, .slice none 0 0] 33 (0,0)):=by rw[hW1];exact (chain4 _ _ _ _ _).2.2.2
 rw[<- hW1];clear hW1;have q0:W1.cell? ⟨w.heap.size+1+1+1,0,none⟩=some (.slice none 0 0):=by simp[World.cell?,hg]
 have q1:W1.cell? ⟨w.heap.size+1+1+1,1,none⟩=some (.slice none 0 0):=by simp[World.cell?,hg]
 have q2:W1.cell? ⟨w.heap.size+1+1+1,2,none⟩=some (.slice (some ⟨w.heap.size,0,none⟩) 1 1):=by simp[World.cell?,hg]
 have q3:W1.cell? ⟨w.heap.size+1+1+1,3,none⟩=some (.slice none 0 0):=by simp[World.cell?,hg]
 have q4:W1.cell? ⟨w.heap.size+1+1+1,4,none⟩=some (.slice none 0 0):=by simp[World.cell?,hg]
 have q5:W1.cell? ⟨w.heap.size+1+1+1,5,none⟩=some (.slice (some ⟨w.heap.size+1+1,0,none⟩) 1 1):=by simp[World.cell?,hg]
 have q6:W1.cell? ⟨w.heap.size+1+1+1,6,none⟩=some (.slice none 0 0):=by simp[World.cell?,hg]
 have q7:W1.cell? ⟨w.heap.size+1+1+1,7,none⟩=some (.slice none 0 0):=by simp[World.cell?,hg]
 have q8:W1.cell? ⟨w.heap.size+1+1+1,8,none⟩=some (.slice none 0 0):=by simp[World.cell?,hg]
 have q9:W1.cell? ⟨w.heap.size+1+1+1,9,none⟩=some (.slice none 0 0):=by simp[World.cell?,hg]
 have q10:W1.cell? ⟨w.heap.size+1+1+1,10,none⟩=some (.slice none 0 0):=by simp[World.cell?,hg]
 have q11:W1.cell? ⟨w.heap.size+1+1+1,11,none⟩=some (.slice none 0 0):=by simp[World.cell?,hg]
 have hb2:Bl W1 (W1.alloc (.cells #[.int .u8 170] 5)):=br.alloc lr _;have hpg:PgOk (W1.alloc (.cells #[.int .u8 170] 5)) ⟨none,0,0,none,0,0,some ⟨w.heap.size,0,none⟩,1,1,none,0,0,none,0,0,some ⟨w.heap.size+1+1,0,none⟩,1,1,none,0,0,none,0,0,none,0,0,none,0,0,none,0,0,none,0,0⟩ p22:=⟨RowAt.nil,RowAt.nil,hp.1.below keepStp hb2,RowAt.nil,RowAt.nil,hp.2.below keepIst hb2,RowAt.nil,RowAt.nil,RowAt.nil,RowAt.nil,RowAt.nil,RowAt.nil⟩;have hpass:=passA_any _ p22 [] none 0 0 1 _ 1 1 [170] _ hpg p22_ok RowAt.nil (one_new W1 170) dq dq;rw[p22_pass] at hpass;have HB1:=hD hb1;have HB2:=hD hb2;clear hb1 hb2 hp hg hpg;unfold pgV at hpass;go_upto_region 3 with (go_at_call 8;refine hpass.mono ?_;rintro e w3 ⟨⟨bv,rfl,ho⟩,hb3⟩;have hu:=By.row ho;clear ho;obtain ⟨p,c,rfl,-⟩:=hu.shape;have HB3:=hD hb3;have HU3:Hd (URow w3 (.slice p 1 c) [170]):=hu;clear hb3 hu hpass)
 obtain ⟨W4,hW4⟩:=nm (w3.alloc (.cells #[.bool true, .bool true, .bool false, .bool false, .int .i64 3, .slice p 1 c] 39));have hb4:Bl w3 W4:=by rw[hW4];exact br.alloc lr _
 have hg4:W4.heap[w3.heap.size]?=some (.cells #[.bool true, .bool true, .bool false, .bool false, .int .i64 3, .slice p 1 c] 39 (0,0)):=by rw[hW4];exact heap_new _ _
 have h13:Bl w W4:=by
  have h3:=HB2.o.size;have h4:=HB3.o.size;have h5:=HB1.o.size;exact ((HB1.o.trans (HB2.o.mono h5)).trans (HB3.o.mono om)).trans (hb4.mono om)
 have hu4:=HU3.o.below keepU hb4;rw[<- hW4];clear hW4 HB1 HB2 HB3 HU3 hb4 q0 q1 q2 q3 q4 q5 q6 q7 q8 q9 q10 q11;have c0:W4.cell? ⟨w3.heap.size,0,none⟩=some (.bool true):=by simp[World.cell?,hg4]
 have c1:W4.cell? ⟨w3.heap.size,1,none⟩=some (.bool true):=by simp[World.cell?,hg4]
 have c2:W4.cell? ⟨w3.heap.size,2,none⟩=some (.bool false):=by simp[World.cell?,hg4]
 have c3:W4.cell? ⟨w3.heap.size,3,none⟩=some (.bool false):=by simp[World.cell?,hg4]
 have c4:W4.cell? ⟨w3.heap.size,4,none⟩=some (.int .i64 3):=by simp[World.cell?,hg4]
 have c5:W4.cell? ⟨w3.heap.size,5,none⟩=some (.slice p 1 c):=by simp[World.cell?,hg4]
 have hb5:Bl W4 (W4.alloc (.cells #[.int .u8 170] 5)):=br.alloc lr _;have hsame:=same22_true p (some ⟨W4.heap.size,0,none⟩) 1 c 1 [170] _ (hu4.below keepU hb5) (one_new W4 170);have H13:=hD (h13.trans (hb5.mono h13.size));clear h13 hb5 hu4 hg4;go_wp2_with (go_at_call 22;refine hsame.mono ?_;rintro e w6 ⟨rfl,hb6⟩;have HB6:=hD hb6;clear hb6 hsame);go_ret;exact ⟨rfl,H13.o.trans (HB6.o.mono H13.o.size)⟩
open Go.RowKit Stab
theorem own_ty {b E E' n k:Nat} {v:Value} {xs:List Value} {c:Array Value} (h:W.ownsRow b E sz v n xs) (he:W.heap[k]?=some (.cells c E' (0,0))) (hne:E≠E'):v.ownBlock≠some k:=fun hz=>by
 obtain ⟨-,⟨q1,-⟩|⟨g,cap,cur,q1,-,q3,-⟩⟩:=h
 ·rw[q1] at hz;cases hz
 ·rw[q1] at hz;cases hz;rw[he] at q3;simp only[Option.some.injEq,Obj.cells.injEq] at q3;exact hne q3.2.1.symm
theorem By.below {b:Nat} {W':World} {v:Value} {xs:List Int} (h:By b W v xs) (hb:Bl W W'):By b W' v xs:=own_far h fun z hz=>hb.block z (own_size h hz).2
def G0:Obj:= .cells #[.bool false, .bool false, .bool false, .bool false, .int .i64 0, .slice none 0 0] 39 (0,0)
def G1 (g:Gn) (bv:Value):Obj:= .cells #[.bool g.acc, .bool g.o, .bool g.long, .bool g.access, .int .i64 g.port,bv] 39 (0,0)
def GDone (b:Nat) (g:Gn) (W:World) (k:Nat):Prop:=∃bv,W.heap[k]?=some (G1 g bv)/\By b W bv g.b
structure GR (b:Nat) (g:Gn) (W W':World):Prop where
 low:Below b W W'
 ko:∀k:Nat,b<=k->(W.heap[k]?=some G0\/GDone b g W k)->(W'.heap[k]?=some G0\/GDone b g W' k)
 k1:∀k:Nat,b<=k->GDone b g W k->GDone b g W' k
 row:∀bv,By b W bv g.b->By b W' bv g.b
section
variable {b:Nat} {g:Gn} {W W':World}
theorem GR.refl (b:Nat) (g:Gn) (W:World):GR b g W W:=⟨Below.refl _ _,fun _ _=>id,fun _ _=>id,fun _=>id⟩
theorem GDone.below (h:Bl W W') {k:Nat} (e:GDone b g W k):GDone b g W' k:=by
 obtain ⟨bv,h1,h2⟩:=e;exact ⟨bv,(h.block k (lt_some h1)).trans h1,h2.below h⟩
theorem GR.of_below (hb:b<=W.heap.size) (h:Bl W W'):GR b g W W':=
 ⟨h.mono hb,fun k _ e=>e.imp (fun e=>(h.block k (lt_some e)).trans e) (GDone.below h),fun _k _ e=>GDone.below h e,fun _ e=>e.below h⟩
theorem GR.store {k:Nat} {bv:Value} (hk:b<=k) (h:W.heap[k]?=some G0\/GDone b g W k) (hb:By b W bv g.b):GR b g W (set6 W k (.bool g.acc) (.bool g.o) (.bool g.long) (.bool g.access) (.int .i64 g.port) bv)/\GDone b g (set6 W k (.bool g.acc) (.bool g.o) (.bool g.long) (.bool g.access) (.int .i64 g.port) bv) k:=by
 have ho:∀j,j≠k->(set6 W k (.bool g.acc) (.bool g.o) (.bool g.long) (.bool g.access) (.int .i64 g.port) bv).heap[j]?=W.heap[j]?:=fun j hj=>set6_other W _ _ _ _ _ _ hj
 have hl:Below b W (set6 W k (.bool g.acc) (.bool g.o) (.bool g.long) (.bool g.access) (.int .i64 g.port) bv):=set6_below _ _ _ _ _ _ br hk;have hp:(set6 W k (.bool g.acc) (.bool g.o) (.bool g.long) (.bool g.access) (.int .i64 g.port) bv).heap[k]?=some (G1 g bv):=by
  rcases h with h|⟨b0,h,-⟩
  ·exact set6_heap _ _ _ _ _ _ h
  ·exact set6_heap _ _ _ _ _ _ h
 have hn:∀v,By b W v g.b->v.ownBlock≠some k:=fun v e=>by
  rcases h with h|⟨b0,h,-⟩
  ·exact own_ty e h dq
  ·exact own_ty e h dq
 generalize set6 W k (.bool g.acc) (.bool g.o) (.bool g.long) (.bool g.access) (.int .i64 g.port) bv=W' at*;have hr:∀v,By b W v g.b->By b W' v g.b:=fun v e=>own_far e fun j hj=>ho j fun q=>hn v e (by rw[hj,q])
 have hd:∀j,GDone b g W j->GDone b g W' j:=fun j e=>by
  by_cases q:j=k
  ·subst q;exact ⟨bv,hp,hr _ hb⟩
  ·obtain ⟨v,e1,e2⟩:=e;exact ⟨v,(ho j q).trans e1,hr _ e2⟩
 refine ⟨⟨hl,fun j _ e=>?_,fun j _ e=>hd j e,hr⟩,⟨bv,hp,hr _ hb⟩⟩;by_cases q:j=k
 ·subst q;exact .inr ⟨bv,hp,hr _ hb⟩
 ·rcases e with e|e
  ·exact .inl ((ho j q).trans e)
  ·exact .inr (hd j e)
end
open Go.RowKit Stab
theorem g_six {b:Nat} {G:Gn} {k:Nat} (h:W.heap[k]?=some G0\/GDone b G W k):∃d0 d1 d2 d3 d4 d5,Gx W k [d0,d1,d2,d3,d4,d5]:=by
 rcases h with h|⟨bv,h,-⟩
 ·exact ⟨_,_,_,_,_,_,h⟩
 ·exact ⟨_,_,_,_,_,_,h⟩
theorem againLaw_any (s:PgS) (p:Prg) (l:List Ent) (lp:Option Addr) (ln lc:Nat) (port:Int) (bp:Option Addr) (n bc:Nat) (xs:List Int) (w:World) (hp:PgOk w s p) (hL:Lm p) (hl:ERow w (.slice lp ln lc) l) (hla:∀e∈l,e.pats.length<=1000000/\e.args.length<=1000000) (hb:URow w (.slice bp n bc) xs):
 Calls Tryz.prog 3 #[pgV s, .slice lp ln lc, .int .i64 port, .slice bp n bc] w fun e w'=>e= .returned (.bool true)/\Bl w w':=by
 have HM:Hd (∀ W,Bl w W->Calls Tryz.prog 6 #[pgV s, .slice lp ln lc, .int .i64 port, .slice bp n bc] W fun e w'=>AnsB (fun b=>b=true->Seen2 p l port n) e/\Bl W w'):=fun W h=>may22_any s p l lp ln lc port bp n bc W (hp.below h) hL (hl.below keepE h) fun e he=>(hla e he).2
 have HKN:Hd (∀ W,CR 7 #[] W (.bool true)):=fun W=>known22_true W
 have HPS:Hd (∀ W,Bl w W->Seen2 p l port n->Calls Tryz.prog 8 #[pgV s, .slice lp ln lc, .int .i64 port, .slice bp n bc] W fun e w'=>AnsGn W.heap.size w' (passP p l port xs) e/\Bl W w'):=fun W h hs=>passA_any s p l lp ln lc port bp n bc xs W (hp.below h) (paOk_of hs hla) (hl.below keepE h) (hb.below keepU h) (by have:=hs.rest;omega) ⟨hs.p0,hs.p1⟩
 have HPA:Hd (∀ W,Bl w W->Seen2 p l port n->Calls Tryz.prog 9 #[pgV s, .int .i64 port, .slice bp n bc] W fun e w'=>AnsP W.heap.size w' (parseP p port xs) e/\Bl W w'):=fun W h hs=>by
  have hk:=paOk_of hs hla;exact parseA_any s p port bp n bc xs W (hp.below h) hk.sm (hdOk_of hk.may) (stOk_of hk.may) (hb.below keepU h) (by have:=hs.rest;omega) ⟨hs.p0,hs.p1⟩
 have HOK:Hd (Seen2 p l port n->GnOk p port xs (passP p l port xs) (parseP p port xs)):=fun hs=>gn_ok (paOk_of hs hla) port xs
 have HFI:Hd (∀ (W:World) (k:KS) (y:Pkt),Bl w W->Seen2 p l port n->KOk W k y->CR 10 #[pgV s,kV k y.port y.dropped y.sent y.egress y.access] W (.bool (pktP p y))):=fun W k y h hs hk=>fits19_any s p k y y.port y.egress y.dropped y.sent y.access W (hp.below h) (Sm.of hs.great) hk
 have HB:=hD hb;generalize passP p l port xs=G at*;generalize parseP p port xs=R at*;clear hp hL hl hla hb;unfold pgV at HM HPS HPA HFI⊢;go_enter Tryz.func3,Tryz.ntmps3;go_upto_region 1 with fail
 obtain ⟨W0,hW0⟩:=nm (w.alloc (.cells (pA s) 33));have HB0:Hd (Bl w W0):=by show Below _ _ _;rw[hW0];exact bL
 have HG0:Hd (GBox W0 w.heap.size s):=by show _=_;rw[hW0];exact heap_new _ _
 rw[<- hW0];clear hW0;obtain ⟨q0,q1,q2,q3,q4,q5,q6,q7,q8,q9,q10,q11⟩:=HG0.o.cells;go_upto_region 3 with (first
  |(go_at_call 6;refine (HM.o _ HB0.o).mono ?_;rintro e w1 ⟨⟨b,rfl,hs⟩,hb1⟩;have HS:=hD hs;have HB1:=hD hb1;clear hs hb1;have HG1:Hd (GBox w1 w.heap.size s):=(HB1.o.block _ (lt_some HG0.o)).trans HG0.o;have HW1:=hD (HB0.o.trans (HB1.o.mono HB0.o.size));clear q0 q1 q2 q3 q4 q5 q6 q7 q8 q9 q10 q11;cases b)
  |(go_at_call 7;refine (HKN.o _).mono ?_;rintro e w9 ⟨rfl,hb9⟩;have HB9:=hD hb9;clear hb9))
 ·go_ret;exact ⟨rfl,HW1.o.trans (HB9.o.mono HW1.o.size)⟩
 ·have hs:=HS.o trivial;have HC:Hd (∀ W,Bl w1 W->Calls Tryz.prog 8 #[.agg (pA s), .slice lp ln lc, .int .i64 port, .slice bp n bc] W fun e w'=>AnsGn W.heap.size w' G e/\Bl W w'):=fun W h=>HPS.o W (HW1.o.trans (h.mono HW1.o.size)) hs
  have HO:=hD (HOK.o hs);have HLT:Hd (w.heap.size<w1.heap.size):=lt_some HG1.o;clear hs;refine region_outR (GR w1.heap.size G) (GR.refl _ _) kq (fun W=>Bl w1 W) (fun _ _ h hr=>h.trans hr.low) kq (Below.drew br) ?_;refine sq (fun aa ww ll hh=>by have:=hh.oL 4;obtain ⟨q0,q1,q2,q3,q4,q5,q6,q7,q8,q9,q10,q11⟩:=HG1.o.cells;replace q0:=(hh.inv.cell (cell_there q0).1).trans q0;replace q1:=(hh.inv.cell (cell_there q1).1).trans q1;replace q2:=(hh.inv.cell (cell_there q2).1).trans q2;replace q3:=(hh.inv.cell (cell_there q3).1).trans q3;replace q4:=(hh.inv.cell (cell_there q4).1).trans q4;replace q5:=(hh.inv.cell (cell_there q5).1).trans q5;replace q6:=(hh.inv.cell (cell_there q6).1).trans q6;replace q7:=(hh.inv.cell (cell_there q7).1).trans q7;replace q8:=(hh.inv.cell (cell_there q8).1).trans q8;replace q9:=(hh.inv.cell (cell_there q9).1).trans q9;replace q10:=(hh.inv.cell (cell_there q10).1).trans q10;replace q11:=(hh.inv.cell (cell_there q11).1).trans q11;exact ov gX) ?_;refine sq (fun aa ww ll hh=>by exact ov (xmv (hh.oL 1))) ?_;refine sq (fun aa ww ll hh=>by exact ov (xmv (hh.oL 2))) ?_;refine sq (fun aa ww ll hh=>by exact ov (xmv (hh.oL 3))) ?_;refine ⟨.rel (fun W v=>∃bv,v= .agg #[.bool G.acc, .bool G.o, .bool G.long, .bool G.access, .int .i64 G.port,bv]/\By w1.heap.size W bv G.b),(fun W W' v ⟨bv,h1,h2⟩ hr=>⟨bv,h1,hr.row bv h2⟩),rfl,fun aa ww ll hh=>?_,?_⟩
  ·have e20:=hh.gt 0 3;have e21:=hh.gt 1 2;have e22:=hh.gt 2 1;have e23:=hh.gt 3 0;have ef:=evf aa;have ec:=evc aa;have HI:=hh.inv;refine out_call (wanted_none rfl) ?_ ((HC.o ww HI).mono fun e w2 h=>by obtain ⟨⟨bv,h1,h2⟩,h3⟩:=h;exact ⟨_,h1,⟨bv,rfl,own_base h2 HI.size⟩,GR.of_below HI.size h3⟩);try clear HI;exact gX
  refine sq (fun aa ww ll hh=>by have:=hh.oL 4;obtain ⟨q0,q1,q2,q3,q4,q5,q6,q7,q8,q9,q10,q11⟩:=HG1.o.cells;replace q0:=(hh.inv.cell (cell_there q0).1).trans q0;replace q1:=(hh.inv.cell (cell_there q1).1).trans q1;replace q2:=(hh.inv.cell (cell_there q2).1).trans q2;replace q3:=(hh.inv.cell (cell_there q3).1).trans q3;replace q4:=(hh.inv.cell (cell_there q4).1).trans q4;replace q5:=(hh.inv.cell (cell_there q5).1).trans q5;replace q6:=(hh.inv.cell (cell_there q6).1).trans q6;replace q7:=(hh.inv.cell (cell_there q7).1).trans q7;replace q8:=(hh.inv.cell (cell_there q8).1).trans q8;replace q9:=(hh.inv.cell (cell_there q9).1).trans q9;replace q10:=(hh.inv.cell (cell_there q10).1).trans q10;replace q11:=(hh.inv.cell (cell_there q11).1).trans q11;exact ov gX) ?_;refine sq (fun aa ww ll hh=>by exact ov (xmv (hh.oL 1))) ?_;refine sq (fun aa ww ll hh=>by exact ov (xmv (hh.oL 2))) ?_;refine sq (fun aa ww ll hh=>by exact ov (xmv (hh.oL 3))) ?_;refine ⟨.rel (fun W v=>∃bv,v= .agg #[.bool G.acc, .bool G.o, .bool G.long, .bool G.access, .int .i64 G.port,bv]/\By w1.heap.size W bv G.b),(fun W W' v ⟨bv,h1,h2⟩ hr=>⟨bv,h1,hr.row bv h2⟩),rfl,fun aa ww ll hh=>?_,?_⟩
  ·have e25:=hh.gt 5 3;have e26:=hh.gt 6 2;have e27:=hh.gt 7 1;have e28:=hh.gt 8 0;have ef:=evf aa;have ec:=evc aa;have HI:=hh.inv;refine out_call (wanted_none rfl) ?_ ((HC.o ww HI).mono fun e w2 h=>by obtain ⟨⟨bv,h1,h2⟩,h3⟩:=h;exact ⟨_,h1,⟨bv,rfl,own_base h2 HI.size⟩,GR.of_below HI.size h3⟩);try clear HI;exact gX
  refine ⟨.rel (fun W v=>∃g:Nat,v= .pointer (some ⟨g,0,none⟩)/\w1.heap.size<=g/\(W.heap[g]?=some G0\/GDone w1.heap.size G W g)),(fun W W' v ⟨g,h1,h2,h3⟩ hr=>⟨g,h1,h2,hr.ko g h2 h3⟩),rfl,fun aa ww ll hh=>?_,?_⟩
  ·have hsz:=hh.inv.size;clear hh;refine out_new (wanted_none rfl) (w':=ww.alloc (.cells #[.bool false, .bool false, .bool false, .bool false, .int .i64 0, .slice none 0 0] 39)) (v:= .pointer (some ⟨ww.heap.size,0,none⟩)) ?_ (GR.of_below hsz (br.alloc lr _)) ⟨_,rfl,hsz, .inl (heap_new _ _)⟩;go_simp
   try rfl
  refine ⟨.rel (fun W v=>∃g:Nat,v= .pointer (some ⟨g,0,none⟩)/\w1.heap.size<=g/\(W.heap[g]?=some G0\/GDone w1.heap.size G W g)),(fun W W' v ⟨g,h1,h2,h3⟩ hr=>⟨g,h1,h2,hr.ko g h2 h3⟩),rfl,fun aa ww ll hh=>?_,?_⟩
  ·have hsz:=hh.inv.size;clear hh;refine out_new (wanted_none rfl) (w':=ww.alloc (.cells #[.bool false, .bool false, .bool false, .bool false, .int .i64 0, .slice none 0 0] 39)) (v:= .pointer (some ⟨ww.heap.size,0,none⟩)) ?_ (GR.of_below hsz (br.alloc lr _)) ⟨_,rfl,hsz, .inl (heap_new _ _)⟩;go_simp
   try rfl
  refine ⟨.rell [10] (fun vs W _=>∃g:Nat,vs=[.pointer (some ⟨g,0,none⟩)]/\w1.heap.size<=g/\GDone w1.heap.size G W g),(fun vs W W' v ⟨g,h1,h2,h3⟩ hr=>⟨g,h1,h2,hr.k1 g h2 h3⟩),rfl,fun aa ww ll hh=>?_,?_⟩
  ·obtain ⟨x9,e9,-,p9⟩:=hh.got 10 1 kq rfl rfl rfl;obtain ⟨x24,e24,-,p24⟩:=hh.got 4 7 kq rfl rfl rfl;obtain ⟨z9,ez9,lz9,gg,rfl,h2,h3⟩:=hh.got 10 1 kq rfl rfl rfl;obtain ⟨bv,rfl,hbv⟩:=p24;obtain ⟨pa,cap,rfl⟩:=own_sh hbv;obtain ⟨d0,d1,d2,d3,d4,d5,hd⟩:=g_six h3;have u0:=Gx.cell (i:=0) hd rfl;have u1:=Gx.cell (i:=1) hd rfl;have u2:=Gx.cell (i:=2) hd rfl;have u3:=Gx.cell (i:=3) hd rfl;have u4:=Gx.cell (i:=4) hd rfl;have u5:=Gx.cell (i:=5) hd rfl;have r0:=Gx.free hd 0;have r1:=Gx.free hd 1;have r2:=Gx.free hd 2;have r3:=Gx.free hd 3;have r4:=Gx.free hd 4;have r5:=Gx.free hd 5;have hs:=GR.store h2 h3 hbv;refine out_store (wanted_none rfl) (w':=set6 ww gg (.bool G.acc) (.bool G.o) (.bool G.long) (.bool G.access) (.int .i64 G.port) (.slice pa G.b.length cap)) ?_ hs.1 ⟨gg,by simp only[List.map_cons,List.map_nil,lz9],h2,hs.2⟩;rw[ez9] at e9;subst e9;have e9:=ez9;try clear hbv;exact gX
  refine ⟨.rell [11] (fun vs W _=>∃g:Nat,vs=[.pointer (some ⟨g,0,none⟩)]/\w1.heap.size<=g/\GDone w1.heap.size G W g),(fun vs W W' v ⟨g,h1,h2,h3⟩ hr=>⟨g,h1,h2,hr.k1 g h2 h3⟩),rfl,fun aa ww ll hh=>?_,?_⟩
  ·obtain ⟨x10,e10,-,p10⟩:=hh.got 11 1 kq rfl rfl rfl;obtain ⟨x29,e29,-,p29⟩:=hh.got 9 3 kq rfl rfl rfl;obtain ⟨z10,ez10,lz10,gg,rfl,h2,h3⟩:=hh.got 11 1 kq rfl rfl rfl;obtain ⟨bv,rfl,hbv⟩:=p29;obtain ⟨pa,cap,rfl⟩:=own_sh hbv;obtain ⟨d0,d1,d2,d3,d4,d5,hd⟩:=g_six h3;have u0:=Gx.cell (i:=0) hd rfl;have u1:=Gx.cell (i:=1) hd rfl;have u2:=Gx.cell (i:=2) hd rfl;have u3:=Gx.cell (i:=3) hd rfl;have u4:=Gx.cell (i:=4) hd rfl;have u5:=Gx.cell (i:=5) hd rfl;have r0:=Gx.free hd 0;have r1:=Gx.free hd 1;have r2:=Gx.free hd 2;have r3:=Gx.free hd 3;have r4:=Gx.free hd 4;have r5:=Gx.free hd 5;have hs:=GR.store h2 h3 hbv;refine out_store (wanted_none rfl) (w':=set6 ww gg (.bool G.acc) (.bool G.o) (.bool G.long) (.bool G.access) (.int .i64 G.port) (.slice pa G.b.length cap)) ?_ hs.1 ⟨gg,by simp only[List.map_cons,List.map_nil,lz10],h2,hs.2⟩;rw[ez10] at e10;subst e10;have e10:=ez10;try clear hbv;exact gX
  intro ll w2 hS2 hok;have p12:=hok 12 _ rfl;have p13:=hok 13 _ rfl;clear hok;simp only[ly];obtain ⟨k1,e1,b1,bv1,h1,u1⟩:=p12;replace u1:=By.row u1;obtain ⟨k2,e2,b2,bv2,h2,u2⟩:=p13;replace u2:=By.row u2;simp only[List.map_cons,List.map_nil,List.cons.injEq,and_true] at e1 e2;rw[e1,e2];clear e1 e2;have HU1:=hD u1;have HU2:=hD u2;obtain ⟨q1,c1,rfl,-⟩:=u1.shape;obtain ⟨q2,c2,rfl,-⟩:=u2.shape;have HW2:=hD (HW1.o.trans (hS2.mono HW1.o.size));have HG2:Hd (GBox w2 w.heap.size s):=(hS2.block _ (lt_some HG1.o)).trans HG1.o;have HX1:Hd (Gx w2 k1 [.bool G.acc, .bool G.o, .bool G.long, .bool G.access, .int .i64 G.port, .slice q1 G.b.length c1]):=h1;have HX2:Hd (Gx w2 k2 [.bool G.acc, .bool G.o, .bool G.long, .bool G.access, .int .i64 G.port, .slice q2 G.b.length c2]):=h2;clear u1 u2 hS2 h1 h2 b1 b2;obtain ⟨acc,out,long,access,gp,gb⟩:=G;dsimp only at HU1 HU2 HX1 HX2;have hO:=HO.o;have HPB:Hd (∀ W,Bl w2 W->((convert 35 9 (.slice q1 gb.length c1)).run Tryz.prog W= .ok (.string (strOfNums gb)) W/\(convert 35 9 (.slice q2 gb.length c2)).run Tryz.prog W= .ok (.string (strOfNums gb)) W)):=fun W h=>⟨uconv (HU1.o.below keepU h),uconv (HU2.o.below keepU h)⟩
  have hcase:(out=true/\acc=true/\long=false/\¬(64:Int)<(gb.length:Int)/\¬gp<0/\¬511<gp)\/(out=false/\gb=[]/\gp=0/\long=false)\/(out=false/\gb=[]/\gp=0/\long=true/\acc=true):=by
   have g1:=hO.o;have g2:=hO.not;have g3:=hO.long;dsimp only at g1 g2 g3;cases out
   ·cases long
    ·exact .inr (.inl ⟨rfl,(g2 rfl).1,(g2 rfl).2,rfl⟩)
    ·exact .inr (.inr ⟨rfl,(g2 rfl).1,(g2 rfl).2,rfl,g3 rfl⟩)
   ·obtain ⟨x1,x2,x3,x4,x5⟩:=g1 rfl;exact .inl ⟨rfl,x1,x2,om,om,om⟩
  have HCASE:=hD hcase;clear hcase;obtain ⟨⟨po,rs,vl,fl,me,dr,se,eg,ac⟩,ok⟩:=R;obtain rfl:acc=ok:=hO.acc.symm;obtain rfl:port=po:=hO.port.symm;obtain rfl:false=dr:=hO.dropped.symm;obtain rfl:false=se:=hO.sent.symm;have HREST:Hd (rs=xs.drop (xs.length-rs.length)/\rs.length<=xs.length):=⟨hO.rest,hO.len⟩;have HPF:Hd (pktP p ⟨port,rs,vl,fl,me,false,false,eg,ac⟩=true):=pktP_iff.2 hO.fits;have hs:=HS.o trivial;have HPAR:Hd (∀ W,Bl w W->Calls Tryz.prog 9 #[.agg (pA s), .int .i64 port, .slice bp n bc] W fun e w'=>(∃ (k:KS) (fs:List Value),e= .returned (.tuple #[.agg (kA k port false false eg ac), .bool acc])/\KOk w' k ⟨port,rs,vl,fl,me,false,false,eg,ac⟩)/\Bl W w'):=fun W h=>(HPA.o W h hs).mono fun e w' he=>by
   obtain ⟨⟨r,v,f,m,fs,rfl,ho⟩,hb⟩:=he;obtain ⟨k,rfl,rfl,rfl,rfl,hk⟩:=ho.ks;exact ⟨⟨k,fs,rfl,hk⟩,hb⟩
  have HFIT:Hd (∀ (W:World) (k:KS),Bl w W->KOk W k ⟨port,rs,vl,fl,me,false,false,eg,ac⟩->CR 10 #[.agg (pA s), .agg (kA k port false false eg ac)] W (.bool true)):=fun W k h hk=>by
   have:=HFI.o W k ⟨port,rs,vl,fl,me,false,false,eg,ac⟩ h hs hk;rw[HPF.o] at this;exact this
  clear hO hs HPA HFI HC HPS HO HS HOK HPF;go_upto_region 4 with fail
  go_cut [57] (fun c wx=>c= .bool false/\w2=wx)
  case first=>
   obtain ⟨v1,v2⟩:=HPB.o w2 br;have x0:=Gx.cell (i:=0) HX1.o rfl;have x1:=Gx.cell (i:=1) HX1.o rfl;have x2:=Gx.cell (i:=2) HX1.o rfl;have x3:=Gx.cell (i:=3) HX1.o rfl;have x4:=Gx.cell (i:=4) HX1.o rfl;have x5:=Gx.cell (i:=5) HX1.o rfl;have y0:=Gx.cell (i:=0) HX2.o rfl;have y1:=Gx.cell (i:=1) HX2.o rfl;have y2:=Gx.cell (i:=2) HX2.o rfl;have y3:=Gx.cell (i:=3) HX2.o rfl;have y4:=Gx.cell (i:=4) HX2.o rfl;have y5:=Gx.cell (i:=5) HX2.o rfl;cases out<;>cases access
   all_goals
    go_wp2_with fail;go_meet;exact ⟨rfl,rfl⟩
  obtain ⟨rfl,rfl⟩:=hcut;go_upto_region 6 with fail
  go_cut [109] (fun c wx=>c= .bool false/\w2=wx)
  case first=>
   have x0:=Gx.cell (i:=0) HX1.o rfl;have x1:=Gx.cell (i:=1) HX1.o rfl;have x2:=Gx.cell (i:=2) HX1.o rfl;have x3:=Gx.cell (i:=3) HX1.o rfl;have x4:=Gx.cell (i:=4) HX1.o rfl;have x5:=Gx.cell (i:=5) HX1.o rfl;have y0:=Gx.cell (i:=0) HX2.o rfl;have y1:=Gx.cell (i:=1) HX2.o rfl;have y2:=Gx.cell (i:=2) HX2.o rfl;have y3:=Gx.cell (i:=3) HX2.o rfl;have y4:=Gx.cell (i:=4) HX2.o rfl;have y5:=Gx.cell (i:=5) HX2.o rfl;rcases HCASE.o with ⟨rfl,rfl,rfl,i1,i2,i3⟩|⟨rfl,rfl,rfl,rfl⟩|⟨rfl,rfl,rfl,rfl,rfl⟩
   all_goals
    go_wp2_with fail;go_meet;exact ⟨rfl,rfl⟩
  obtain ⟨rfl,rfl⟩:=hcut;obtain ⟨q0,q1,q2,q3,q4,q5,q6,q7,q8,q9,q10,q11⟩:=HG2.o.cells;go_upto_region 9 with (go_at_call 9;refine (HPAR.o _ HW2.o).mono ?_;rintro e w3 ⟨⟨k,fs,rfl,hk⟩,hb3⟩;have HK3:=hD hk;have HB3:=hD hb3;clear hk hb3)
  obtain ⟨W3,hW3⟩:=nm (w3.alloc (.cells (kA k port false false eg ac) 45));have HB4:Hd (Bl w3 W3):=by show Below _ _ _;rw[hW3];exact br.alloc lr _
  have HX3:Hd (Bx W3 w3.heap.size (kL k port false false eg ac)):=by show _=_;rw[hW3];exact heap_new _ _
  have HB5:=hD (HB3.o.trans (HB4.o.mono HB3.o.size));have HW3:=hD (HW2.o.trans (HB5.o.mono HW2.o.size));rw[<- hW3];clear hW3 q0 q1 q2 q3 q4 q5 q6 q7 q8 q9 q10 q11;have HG3:Hd (GBox W3 w.heap.size s):=(HB5.o.block _ (lt_some HG2.o)).trans HG2.o;have HX6:Hd (Gx W3 k1 [.bool acc, .bool out, .bool long, .bool access, .int .i64 gp, .slice q1 gb.length c1]):=(HB5.o.block _ (lt_some HX1.o)).trans HX1.o;have HK4:Hd (KOk W3 k ⟨port,rs,vl,fl,me,false,false,eg,ac⟩):=HK3.o.below HB4.o;have hrn:k.rn=rs.length:=HK4.o.r.ln.1;have hnx:n=xs.length:=HB.o.ln.1;have h1m:n<=9223372036854775807:=by obtain ⟨a1,a2,a3,-⟩:=HB.o.ln;unfold maxLen at a3;omega
  have hgt:¬(n:Int)<(k.rn:Int):=by have:=HREST.o.2;omega
  obtain ⟨v1,hsl,hv1⟩:=(HB.o.below keepU HW3.o).lo elemU8 (k:=n-k.rn) om;have HV1:Hd (URow W3 v1 rs):=by
   have e:xs.drop (n-k.rn)=rs:=by rw[hnx,hrn];exact HREST.o.1.symm
   rw[e] at hv1;exact hv1
  have HSL:=hD hsl;have HSUB:Hd (IntKind.i64.wrap ((n:Int)-(k.rn:Int))=((n-k.rn:Nat):Int)):=by show IntKind.i64.wrap _=_;rw[IntKind.wrap_i64];omega
  clear hrn hnx hsl hv1 HB3 HX1 HX2 HU1 HU2 HPB HREST;generalize w3.heap.size=X at*;have x0:=Gx.cell (i:=0) HX6.o rfl;obtain ⟨q0,q1,q2,q3,q4,q5,q6,q7,q8,q9,q10,q11⟩:=HG3.o.cells;obtain ⟨d0,d1,d2,d3,d4,d5,d6,d7,d8⟩:=Bx.c9 HX3.o;go_upto_region 11 with (go_at_call 10;refine (HFIT.o _ k HW3.o HK4.o).mono ?_;rintro e w4 ⟨rfl,hb5⟩;have HB6:=hD hb5;clear hb5;have HX4:Hd (Bx w4 X (kL k port false false eg ac)):=(HB6.o.block _ (lt_some HX3.o)).trans HX3.o;clear d0 d1 d2 d3 d4 d5 d6 d7 d8;have d0:=Bx.cell (i:=0) HX4.o rfl;have d1:=Bx.cell (i:=1) HX4.o rfl;have d5:=Bx.cell (i:=5) HX4.o rfl;have d6:=Bx.cell (i:=6) HX4.o rfl)
  have D1:=hD d1;clear d0 d1 d5 d6 x0 q0 q1 q2 q3 q4 q5 q6 q7 q8 q9 q10 q11;have HU4:Hd (∀ W,Bl w4 W->(convert 35 9 (.slice k.rp k.rn k.rc)).run Tryz.prog W= .ok (.string (strOfNums rs)) W/\(convert 35 9 v1).run Tryz.prog W= .ok (.string (strOfNums rs)) W):=fun W h=>⟨uconv ((HK4.o.r.below keepU HB6.o).below keepU h),uconv ((HV1.o.below keepU HB6.o).below keepU h)⟩
  refine roB w4 ?_;refine sq (fun aa ww ll hh=>by exact ov (xmv (hh.oL 3))) ?_;refine sq (fun aa ww ll hh=>by exact ov (xmv (hh.oL 3))) ?_;refine sq (fun aa ww ll hh=>by have:=hh.gt 1 0;have d1:=(hh.inv.cell (cell_there D1.o).1).trans D1.o;exact ov gX) ?_;refine sq (fun aa ww ll hh=>by have:=hh.oL 11;exact ov gX) ?_;refine sq (fun aa ww ll hh=>by have:=hh.gt 3 0;have d1:=(hh.inv.cell (cell_there D1.o).1).trans D1.o;exact ov gX) ?_;refine sq (fun aa ww ll hh=>by have:=hh.gt 4 0;have d1:=(hh.inv.cell (cell_there D1.o).1).trans D1.o;exact ov gX) ?_;refine ⟨.eq (.int .i64 ((n-k.rn:Nat):Int)),trivial,rfl,fun aa ww ll hh=>?_,?_⟩
  ·have e151:=hh.gt 2 3;have e154:=hh.gt 5 0;refine ov ?_;clear hh;generalize aa.eval=ev at e151 e154⊢;rw[<- HSUB.o];go_simp
   try rfl
  refine ⟨.eq v1,trivial,rfl,fun aa ww ll hh=>?_,?_⟩
  ·have e149:=hh.gt 0 6;have e155:=hh.gt 6 0;refine ov ?_;have hsl:=HSL.o ww;exact gX
  refine ⟨.eq (.string (strOfNums rs)),trivial,rfl,fun aa ww ll hh=>?_,?_⟩
  ·have e156:=hh.gt 7 0;refine ov ?_;have hcv:=(HU4.o ww hh.inv).2;exact gX
  refine sq (fun aa ww ll hh=>by have:=hh.oL 11;exact ov gX) ?_;refine sq (fun aa ww ll hh=>by have:=hh.gt 9 0;have d1:=(hh.inv.cell (cell_there D1.o).1).trans D1.o;exact ov gX) ?_;refine ⟨.eq (.string (strOfNums rs)),trivial,rfl,fun aa ww ll hh=>?_,?_⟩
  ·have e159:=hh.gt 10 0;refine ov ?_;have hcv:=(HU4.o ww hh.inv).1;exact gX
  refine sq (fun aa ww ll hh=>by have:=hh.gt 8 3;have:=hh.gt 11 0;exact ov gX) ?_;refine stm 12 0 ?_;refine ⟨.eq (.bool true),trivial,rfl,fun aa ww ll hh=>?_,?_⟩
  ·have ef:=evf aa;refine out_call_eq (hh.go 0 rfl kq rfl rfl) ?_ (HKN.o ww);exact gX
  refine sq (fun aa ww ll hh=>by have:=hh.gt 13 1;have:=hh.gt 14 0;have ec:=evc aa;exact ov gX) ?_;refine stm 15 0 ?_;intro ll w5 hS5 hok;clear hok;simp only[ly];go_wp2_with fail;go_ret;exact ⟨rfl,(HW3.o.trans (HB6.o.mono HW3.o.size)).trans (hS5.mono (HW3.o.trans (HB6.o.mono HW3.o.size)).size)⟩
end Go.Proofs.YtikilcbpogfgkaaGreat
namespace Go.Proofs.YtikilcbpogfgkaaGreat
open Go.ChangeShapes Go.WideShapes Go.ChangeAt Go.RowKit Go.Deep
variable {α:Type} {sz fuel base m:Nat} {W:World} {t e:TypeId} {fs:Array Field} {va c0 c1:Value}
section
variable {H:Type} {enc:TypeId×Value->H} {w:World}
theorem u64_of_wf {n:Int} (h:(Lit.int IntKind.u64 n).wf=true):∃k:Nat,n=(k:Int)/\k<18446744073709551616:=by
 have h0:IntKind.u64.min=0:=by decide
 have h1:IntKind.u64.max=18446744073709551615:=by decide
 simp only[Lit.wf,Bool.and_eq_true,decide_eq_true_eq,h0,h1] at h;obtain ⟨n,rfl⟩:=Int.eq_ofNat_of_zero_le h.1;exact ⟨n,rfl,om⟩
theorem trod_field {cs:List Value} {x:DataW H×List MemPlace} (ht:Tryz.prog.underlying t=some (.struct fs)) (h:DataW.trod enc Tryz.prog w 0 (fun _=>true) true fuel t cs=some x)
 (i:Nat) (f:Field) (hf:fs[i]?=some f) (ty o c:Nat) (h1:f.type=ty) (h2:f.offset=o) (h3:Tryz.prog.cellsOf ty=c):∃n y,DataW.trod enc Tryz.prog w 0 (fun _=>true) true n ty ((cs.drop o).take c)=some y:=by
 subst h1 h2 h3;obtain ⟨xs,n,rfl,-,-,hl,hg⟩:=DataW.trod_struct ht h;have hi:i<fs.size:=(gA_ hf).1;exact ⟨n,_,(hg i f hf).trans (gE_ om)⟩
theorem hadd0 (ab ao i:Nat):(Addr.mk ab ao none).add i=⟨ab,ao+i,none⟩:=by
 unfold Addr.add;by_cases hi:i=0<;>simp[hi]
theorem open_rowAt {At:World->Nat->Nat->α->Prop} {c:Nat} {x:DataW H×List MemPlace} (d:α) (ht:Tryz.prog.underlying t=some (.slice e)) (hc:Tryz.prog.cellsOf e=c) (hc0:0<c)
 (hel:∀(m b o:Nat) (cs:List Value) (y:DataW H×List MemPlace),cs.length=c->CellsAt w b o cs->DataW.trod enc Tryz.prog w 0 (fun _=>true) true m e cs=some y->∃x,At w b o x)
 (h:DataW.trod enc Tryz.prog w 0 (fun _=>true) true fuel t [va]=some x):∃l,RowAt c At w va l:=by
 subst hc;rcases open_slice ht h with ⟨he,-⟩|⟨a,len,cap,m,n,D,Pl,he,-,hl,hm,hmm,hxx,hx⟩
 ·simp only[List.cons.injEq,and_true] at he;exact ⟨[],by rw[he];exact RowAt.nil⟩
 simp only[List.cons.injEq,and_true] at he;simp only[if_true] at hmm;subst hmm he;have key:∀j,j<len->∃cs y,cs.length=Tryz.prog.cellsOf e/\(∀ i,i<Tryz.prog.cellsOf e->w.cell? (a.add (j*Tryz.prog.cellsOf e+i))=cs[i]?)/\DataW.trod enc Tryz.prog w 0 (fun _=>true) true n e cs=some y:=by
  intro j hj;obtain ⟨cs,hcs,htr⟩:=hx j om;obtain ⟨-,hlen,hat⟩:=World.cells?_some hcs;refine ⟨cs,_,hlen,fun i hi=>?_,htr⟩;rw[<- Go.Deep.add_add];exact hat i hi
 by_cases h0:0<len
 ·obtain ⟨cs0,-,hl0,hc0',-⟩:=key 0 h0;have c0:=hc0' 0 hc0;rw[gE_ om,Nat.zero_mul,Nat.add_zero] at c0;obtain ⟨ab,ao,asp⟩:=a;have hsp:asp=none:=(cell_there c0).2;have hblk:=(cell_there c0).1;subst hsp;rw[hadd0] at hblk;have key2:∀j,∃y:α,j<len->At w ab (ao+j*Tryz.prog.cellsOf e) y:=by
   intro j;by_cases hj:j<len
   ·obtain ⟨cs,y,h1,h2,h3⟩:=key j hj;obtain ⟨x,hx⟩:=hel n ab (ao+j*Tryz.prog.cellsOf e) cs y h1 (fun i v hi=>by
     have hlt:=(gL_ hi).1;have:=h2 i om;rw[hadd0] at this;rw[Nat.add_assoc,this];exact hi) h3
    exact ⟨x,fun _=>hx⟩
   ·exact ⟨d,fun h=>absurd h hj⟩
  obtain ⟨f,hf⟩:=Classical.axiomOfChoice key2;refine ⟨(List.range len).map f,some ⟨ab,ao,none⟩,_,by simp,by simpa using hl,hm,(fun q=>by cases q),fun _=>⟨ab,ao,rfl,hblk,fun j x hj=>?_⟩⟩;have hjl:j<len:=by have:=(gL_ hj).1;simpa using this
  have:f j=x:=by simpa [hjl] using hj
  rw[<- this];exact hf j hjl
 ·obtain rfl:len=0:=om
  exact ⟨[],some a,_,rfl,zl,hm,(fun q=>by cases q),fun h=>absurd h (Nat.lt_irrefl 0)⟩
theorem slice_cells (ht:Tryz.prog.underlying t=some (.slice e)) (hv:Value.okWide Tryz.prog w .any base t va):va.cells.toList=[va]:=by
 simp only[Value.okWide,Cell.okWide,ht] at hv;cases va<;>first|rfl|(simp[Cell.ok,ht] at hv)
theorem agg_cells (ht:Tryz.prog.underlying t=some (.struct fs)) (hv:Value.okWide Tryz.prog w .any base t va):∃cs,va= .agg cs/\cs.size=Tryz.prog.cellsOf t:=by
 simp only[Value.okWide,ht] at hv;obtain ⟨cs,rfl,h1,-⟩:=hv;exact ⟨cs,rfl,h1⟩
end
open Go.ChangeShapes Go.WideShapes Go.ChangeAt Go.RowKit Go.Deep
section
variable {H:Type} {enc:TypeId×Value->H} {w:World}
theorem nAt_of_trod {b o:Nat} {y:DataW H×List MemPlace} (hc:CellsAt w b o [c0,c1]) (h:DataW.trod enc Tryz.prog w 0 (fun _=>true) true m 82 [c0,c1]=some y):∃n,NAt w b o n:=by
 obtain ⟨n0,y0,h0⟩:=trod_field Tryz.underlying82 h 0 _ rfl 80 0 1 rfl rfl kq;obtain ⟨n1,y1,h1⟩:=trod_field Tryz.underlying82 h 1 _ rfl 80 1 1 rfl rfl kq;obtain ⟨v0,e0,-,b0⟩:=DataW.trod_int Tryz.underlying80 h0;obtain ⟨v1,e1,-,b1⟩:=DataW.trod_int Tryz.underlying80 h1;simp only[List.take,List.drop] at e0 e1;obtain ⟨k0,rfl,l0⟩:=u64_of_wf b0;obtain ⟨k1,rfl,l1⟩:=u64_of_wf b1;simp only[List.cons.injEq,and_true] at e0 e1;subst e0 e1;have hB:B=18446744073709551616:=rfl;rw[<- hB] at l0 l1;have hB0:0<B:=by decide
 have e1:(k0*B+k1)/B=k0:=by
  rw[Nat.mul_comm,Nat.mul_add_div hB0,Nat.div_eq_of_lt l1,Nat.add_zero]
 have e2:(k0*B+k1)%B=k1:=by
  rw[Nat.mul_comm,Nat.mul_add_mod,Nat.mod_eq_of_lt l1]
 refine ⟨k0*B+k1,?_,?_,?_⟩
 ·have:(k0+1)*B<=B*B:=Nat.mul_le_mul_right _ l0;rw[Nat.succ_mul] at this;omega
 ·rw[e1];exact hc 0 _ rfl
 ·rw[e2];exact hc 1 _ rfl
theorem pAt_of_trod {b o:Nat} {c2 c3:Value} {y:DataW H×List MemPlace} (hc:CellsAt w b o [c0,c1,c2,c3]) (h:DataW.trod enc Tryz.prog w 0 (fun _=>true) true m 142 [c0,c1,c2,c3]=some y):∃n,PAt w b o n:=by
 obtain ⟨n0,y0,h0⟩:=trod_field Tryz.underlying142 h 0 _ rfl 82 0 2 rfl rfl kq;obtain ⟨n1,y1,h1⟩:=trod_field Tryz.underlying142 h 1 _ rfl 82 2 2 rfl rfl kq;simp only[List.take,List.drop] at h0 h1;obtain ⟨v,hv⟩:=nAt_of_trod (b:=b) (o:=o) (fun i u hi=>hc i u (by
  match i,hi with
  |0,hi=>exact hi
  |1,hi=>exact hi)) h0
 obtain ⟨k,hk⟩:=nAt_of_trod (b:=b) (o:=o+2) (fun i u hi=>by
  rw[Nat.add_assoc];refine hc (2+i) u ?_
  match i,hi with
  |0,hi=>exact hi
  |1,hi=>exact hi) h1
 exact ⟨⟨v,k⟩,hv,hk⟩
end
end Go.Proofs.YtikilcbpogfgkaaGreat
