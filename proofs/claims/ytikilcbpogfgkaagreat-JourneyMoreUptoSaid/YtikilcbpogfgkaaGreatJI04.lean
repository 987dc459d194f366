/- Lemmas. -/
import Derived.Test.YtikilcbpogfgkaaGreatJI03
set_option maxHeartbeats 6400000
set_option maxRecDepth 100000
namespace Go.Proofs.YtikilcbpogfgkaaGreat
open Go.RowKit
variable {w w':World} {g n c:Nat} {s:PgS} {op k a b v1 v2 act:Int}
theorem chain3 (w:World) (o0 o1 o2:Obj):(((w.alloc o0).alloc o1).alloc o2).heap[w.heap.size]?=some o0/\(((w.alloc o0).alloc o1).alloc o2).heap[w.heap.size+1]?=some o1/\(((w.alloc o0).alloc o1).alloc o2).heap[w.heap.size+1+1]?=some o2:=by
 have h1:=heap_new (w.alloc o0) o1;have h2:=heap_new ((w.alloc o0).alloc o1) o2;simp only[World.size_alloc] at h1 h2;refine ⟨?_,?_,h2⟩
 ·exact gS2
 rw[Below.heap_alloc _ _ _ sm];exact h1
def PBox (w:World) (g:Nat) (s:PgS):Prop:=w.heap[g]?=some (.cells #[.slice s.hp s.hn s.hc, .slice s.mp s.mn s.mc, .slice s.sp s.sn s.sc, .slice s.ap s.an s.ac, .slice s.tp s.tn s.tc, .slice s.cp s.cn s.cc, .slice s.ep s.en s.ec, .slice s.v1 s.n1 s.c1, .slice s.v2 s.n2 s.c2, .slice s.v3 s.n3 s.c3, .slice s.v4 s.n4 s.c4, .slice s.v5 s.n5 s.c5] 33 (0,0))
def NBox (w:World) (g:Nat) (op k a b v1 v2:Int):Prop:=w.heap[g]?=some (.cells #[.int .u8 op, .int .i64 k, .int .i64 a, .int .i64 b, .int .u64 v1, .int .u64 v2] 84 (0,0))
def ZBox (w:World) (g:Nat):Prop:=w.heap[g]?=some (.cells #[.int .u64 0, .int .u64 0] 82 (0,0))
theorem PBox.below (h:PBox w g s) (hb:Bl w w'):PBox w' g s:=(hb.block g (gA_ h).1).trans h
theorem NBox.below (h:NBox w g op k a b v1 v2) (hb:Bl w w'):NBox w' g op k a b v1 v2:=(hb.block g (gA_ h).1).trans h
theorem ZBox.below (h:ZBox w g) (hb:Bl w w'):ZBox w' g:=(hb.block g (gA_ h).1).trans h
theorem PBox.cells (h:PBox w g s):w.cell? ⟨g,0,none⟩=some (.slice s.hp s.hn s.hc)/\w.cell? ⟨g,1,none⟩=some (.slice s.mp s.mn s.mc)/\w.cell? ⟨g,2,none⟩=some (.slice s.sp s.sn s.sc)/\w.cell? ⟨g,3,none⟩=some (.slice s.ap s.an s.ac)/\w.cell? ⟨g,4,none⟩=some (.slice s.tp s.tn s.tc)/\w.cell? ⟨g,5,none⟩=some (.slice s.cp s.cn s.cc)/\w.cell? ⟨g,6,none⟩=some (.slice s.ep s.en s.ec)/\w.cell? ⟨g,7,none⟩=some (.slice s.v1 s.n1 s.c1)/\w.cell? ⟨g,8,none⟩=some (.slice s.v2 s.n2 s.c2)/\w.cell? ⟨g,9,none⟩=some (.slice s.v3 s.n3 s.c3)/\w.cell? ⟨g,10,none⟩=some (.slice s.v4 s.n4 s.c4)/\w.cell? ⟨g,11,none⟩=some (.slice s.v5 s.n5 s.c5):=by
 unfold PBox at h;refine ⟨?_,?_,?_,?_,?_,?_,?_,?_,?_,?_,?_,?_⟩<;>simp[World.cell?,h]
theorem NBox.cells (h:NBox w g op k a b v1 v2):w.cell? ⟨g,0,none⟩=some (.int .u8 op)/\w.cell? ⟨g,1,none⟩=some (.int .i64 k)/\w.cell? ⟨g,2,none⟩=some (.int .i64 a)/\w.cell? ⟨g,3,none⟩=some (.int .i64 b)/\w.cell? ⟨g,4,none⟩=some (.int .u64 v1)/\w.cell? ⟨g,5,none⟩=some (.int .u64 v2):=by
 unfold NBox at h;exact gG3
theorem ZBox.cells (h:ZBox w g):w.cell? ⟨g,0,none⟩=some (.int .u64 0)/\w.cell? ⟨g,1,none⟩=some (.int .u64 0):=by
 unfold ZBox at h;refine ⟨?_,?_⟩<;>simp[World.cell?,h]
theorem IsRow.el {p:Option Addr} {l:List (List Int)} (h:IsRow w (.slice p n c) l) {j:Nat} (hj:j<l.length):∃b o p1 n1 c1,p=some ⟨b,o,none⟩/\b<w.heap.size/\w.cell? ⟨b,o+j,none⟩=some (.slice p1 n1 c1)/\IRow w (.slice p1 n1 c1) (l.getD j []):=by
 obtain ⟨b,o,e,h1,p1,n1,c1,h2,h3⟩:=h.get (some_getD [] hj);exact gO2
theorem ActnRow.el {p:Option Addr} {l:List Actn} (h:ActnRow w (.slice p n c) l) {j:Nat} (hj:j<l.length):∃b o p1 n1 c1 p2 n2 c2,p=some ⟨b,o,none⟩/\b<w.heap.size/\w.cell? ⟨b,o+j*2,none⟩=some (.slice p1 n1 c1)/\IRow w (.slice p1 n1 c1) (l.getD j ⟨[],[]⟩).params/\w.cell? ⟨b,o+j*2+1,none⟩=some (.slice p2 n2 c2)/\IstRow w (.slice p2 n2 c2) (l.getD j ⟨[],[]⟩).body:=by
 obtain ⟨b,o,e,h1,⟨p1,n1,c1,h2,h3⟩,⟨p2,n2,c2,h4,h5⟩⟩:=h.get (some_getD ⟨[],[]⟩ hj);exact ⟨b,o,p1,n1,c1,p2,n2,c2,e,h1,h2,h3,h4,h5⟩
theorem plain0_any (s:PgS) (p:Prg) (act:Int) (n:Nod) (w:World) (hp:PgOk w s p) (hS:Sm p) (hv:n.v<B*B):
 Calls Tryz.prog 108 #[pgV s, .int .i64 act,ndV n] w fun e w'=>e= .returned (.int .i64 (plain0P p act n))/\Bl w w':=by
 obtain ⟨op,k,a,b,v⟩:=n;dsimp only at hv;obtain ⟨R,hR⟩:=nm (plain0P p act ⟨op,k,a,b,v⟩);rw[<- hR];have HR:=hD hR;have HP:=hD hp;have HS:=hD hS;have HOK:Hd (∀ W,CR 79 #[.int .i64 k] W (.bool (okP k))):=fun W=>ok10_any k W
 have HFI:Hd (∀ W,CR 70 #[numV v, .int .i64 k] W (.bool (fitsP v k))):=fun W=>fits01_any v k W hv
 have hz:=fun W=>neqz v W
 obtain ⟨hd1,hd2,hd3,-⟩:=hp.heads.ln;obtain ⟨hm1,hm2,hm3,-⟩:=hp.metas.ln;obtain ⟨ha1,ha2,ha3,-⟩:=hp.acts.ln;have hds:=hS.heads;have hms:=hS.metas;have has:=hS.acts;rw[<- hd1] at hds;rw[<- hm1] at hms;rw[<- ha1] at has;have HME:Hd (∀ W i,Bl w W->CR 122 #[.slice s.mp s.mn s.mc, .int .i64 i] W (.int .i64 (ofP p.metas i))):=fun W i h=>of10_any p.metas _ _ _ i W (hp.metas.below keepI h) om
 have HL:=hD (And.intro hd1 (And.intro hm1 ha1));clear hR hp hS hd1 hm1 ha1 hv;unfold pgV ndV;obtain ⟨x,y,e1,e3,e4⟩:=numV_parts v;rw[e1] at HFI hz;dsimp only;rw[<- e3, <-e4];clear e1 e3 e4;obtain ⟨r1,h1⟩:=nm (okP k);obtain ⟨r2,h2⟩:=nm (fitsP v k);obtain ⟨r3,h3⟩:=nm (decide (v≠0));rw[<- h1] at HOK;rw[<- h2] at HFI;rw[<- h3] at hz;have HRR:=hD (And.intro h1 (And.intro h2 h3));clear h1 h2 h3;go_enter Tryz.func108,Tryz.ntmps108;go_upto_region 2 with fail;obtain ⟨W0,hW0⟩:=nm (((w.alloc (.cells (pA s) 33)).alloc (.cells #[.int .u8 op, .int .i64 k, .int .i64 a, .int .i64 b, .int .u64 (x:Int), .int .u64 (y:Int)] 84)).alloc (.cells #[.int .u64 0, .int .u64 0] 82));have HB0:Hd (Bl w W0):=by show Below _ _ _;rw[hW0];exact bL
 obtain ⟨b1,b2,b3⟩:=chain3 w (.cells (pA s) 33) (.cells #[.int .u8 op, .int .i64 k, .int .i64 a, .int .i64 b, .int .u64 (x:Int), .int .u64 (y:Int)] 84) (.cells #[.int .u64 0, .int .u64 0] 82);rw[<- hW0] at b1 b2 b3⊢;clear hW0;have HPB:Hd (PBox W0 w.heap.size s):=b1;have HNB:Hd (NBox W0 (w.heap.size+1) op k a b x y):=b2;have HZB:Hd (ZBox W0 (w.heap.size+1+1)):=b3;clear b1 b2 b3;obtain ⟨q0,q1,q2,q3,q4,q5,q6,q7,q8,q9,q10,q11⟩:=HPB.o.cells;obtain ⟨n0,n1,n2,n3,n4,n5⟩:=HNB.o.cells;obtain ⟨z0,z1⟩:=HZB.o.cells;clear q2 q4 q5 q6 q7 q8 q9 q10 q11;by_cases o2:op=2
 ·subst o2;cases r3
  ·by_cases ha:0<=a/\a<(s.hn:Int)
   ·obtain ⟨j,rfl⟩:∃j:Nat,a=(j:Int):=⟨a.toNat,om⟩;obtain ⟨hb,ho,p1,nr,c1,hps,hbl,hcell,hrow⟩:=IsRow.el HP.o.heads (j:=j) (by have:=HL.o.1;omega);have hlen:(p.heads.getD j []).length<=6000:=HS.o.head _ (gM_ (some_getD [] (by have:=HL.o.1;omega)));obtain ⟨hln,-⟩:=hrow.ln;have HOF:Hd (∀ W,Bl W0 W->CR 122 #[.slice p1 nr c1, .int .i64 b] W (.int .i64 (ofP (p.heads.getD j []) b))):=fun W h=>of10_any _ _ _ _ b W (hrow.below keepI (HB0.o.trans (h.mono HB0.o.size))) om
    obtain ⟨Z,hZ⟩:=nm (ofP (p.heads.getD j []) b);rw[<- hZ] at HOF;have HZ:=hD hZ;have HCE:Hd (∀ W,Bl W0 W->Cl W w.heap.size 0 (.slice (some ⟨hb,ho,none⟩) s.hn s.hc)/\Cl W (w.heap.size+1) 2 (.int .i64 (j:Int))/\Cl W (w.heap.size+1) 3 (.int .i64 b)/\Cl W hb (ho+j) (.slice p1 nr c1)):=fun W h=>by
     obtain ⟨a0,-⟩:=(HPB.o.below h).cells;obtain ⟨-,-,a2,a3,-⟩:=(HNB.o.below h).cells;rw[hps] at a0;exact ⟨a0,a2,a3,((HB0.o.trans (h.mono HB0.o.size)).cell (p:=⟨hb,ho+j,none⟩) hbl).trans hcell⟩
    rw[hps] at q0⊢;have hjn:j<s.hn:=om;clear hZ hrow hln hlen;go_upto_region 11 with fail;clear q0 q1 q3 n0 n1 n2 n3 n4 n5 z0 z1;refine roB W0 ?_;refine sq (fun aa ww ll hh=>by have:=hh.oL 3;exact ov gX) ?_;refine sq (fun aa ww ll hh=>by have:=hh.gt 0 0;exact ov (fC (HCE.o ww hh.inv))) ?_;refine sq (fun aa ww ll hh=>by have:=hh.oL 5;exact ov gX) ?_;refine sq (fun aa ww ll hh=>by have:=hh.gt 2 0;exact ov (fC (HCE.o ww hh.inv))) ?_;refine sq (fun aa ww ll hh=>by have:=hh.gt 1 2;have:=hh.gt 3 0;exact ov gX) ?_;refine sq (fun aa ww ll hh=>by have:=hh.gt 4 0;exact ov (fC (HCE.o ww hh.inv))) ?_;refine sq (fun aa ww ll hh=>by have:=hh.oL 5;exact ov gX) ?_;refine sq (fun aa ww ll hh=>by have:=hh.gt 6 0;exact ov (fC (HCE.o ww hh.inv))) ?_;refine ⟨.eq (.int .i64 Z),trivial,rfl,fun aa ww ll hh=>?_,?_⟩
    ·have e68:=hh.gt 5 2;have e70:=hh.gt 7 0;have ef:=evf aa;refine out_call_eq (wanted_none rfl) ?_ (HOF.o ww hh.inv);exact gX
    refine stm 8 0 ?_;intro ll w3 hS hok;clear hok;simp only[ly];go_wp2_with fail;go_ret;refine ⟨?_,HB0.o.trans (hS.mono HB0.o.size)⟩;show Ending.returned (.int .i64 _)=_;congr 2;rw[HR.o];obtain ⟨g1,g2,g3⟩:=HRR.o;obtain ⟨d1,d2,d3⟩:=HL.o;have hZ:=HZ.o;have hv0:v=0:=by simpa using g3
    unfold plain0P;rw[if_neg sm,if_neg (by simp[hv0]),if_pos rfl,if_pos (by dsimp only;omega)];exact hZ
   exact gE
  ·exact gE
 by_cases o4:op=4
 ·subst o4;cases r3
  ·by_cases hb0:b=0
   ·by_cases ha:0<=act/\act<(s.an:Int)
    ·subst hb0;obtain ⟨j,rfl⟩:∃j:Nat,act=(j:Int):=⟨act.toNat,om⟩;obtain ⟨hb,ho,p1,nr,c1,p2,nr2,c2,hps,hbl,hcell,hrow,-,-⟩:=ActnRow.el HP.o.acts (j:=j) (by have:=HL.o.2.2;omega);have hlen:(p.acts.getD j ⟨[],[]⟩).params.length<=6000:=HS.o.params _ (gM_ (some_getD (⟨[],[]⟩:Actn) (by have:=HL.o.2.2;omega)));obtain ⟨hln,-⟩:=hrow.ln;have HOF:Hd (∀ W,Bl W0 W->CR 122 #[.slice p1 nr c1, .int .i64 a] W (.int .i64 (ofP (p.acts.getD j ⟨[],[]⟩).params a))):=fun W h=>of10_any _ _ _ _ a W (hrow.below keepI (HB0.o.trans (h.mono HB0.o.size))) om
     obtain ⟨Z,hZ⟩:=nm (ofP (p.acts.getD j ⟨[],[]⟩).params a);rw[<- hZ] at HOF;have HZ:=hD hZ;have HCE:Hd (∀ W,Bl W0 W->Cl W w.heap.size 3 (.slice (some ⟨hb,ho,none⟩) s.an s.ac)/\Cl W (w.heap.size+1) 2 (.int .i64 a)/\Cl W hb (ho+j*2) (.slice p1 nr c1)):=fun W h=>by
      obtain ⟨-,-,-,a0,-⟩:=(HPB.o.below h).cells;obtain ⟨-,-,a2,-⟩:=(HNB.o.below h).cells;rw[hps] at a0;exact ⟨a0,a2,((HB0.o.trans (h.mono HB0.o.size)).cell (p:=⟨hb,ho+j*2,none⟩) hbl).trans hcell⟩
     rw[hps] at q3⊢;have hjn:j<s.an:=om;clear hZ hrow hln hlen;go_upto_region 16 with fail;clear q0 q1 q3 n0 n1 n2 n3 n4 n5 z0 z1;refine roB W0 ?_;refine sq (fun aa ww ll hh=>by have:=hh.oL 3;exact ov gX) ?_;refine sq (fun aa ww ll hh=>by have:=hh.gt 0 0;exact ov (fC (HCE.o ww hh.inv))) ?_;refine sq (fun aa ww ll hh=>by exact ov (xmv (hh.oL 1))) ?_;refine sq (fun aa ww ll hh=>by have:=hh.gt 1 1;have:=hh.gt 2 0;exact ov gX) ?_;refine sq (fun aa ww ll hh=>by have:=hh.gt 3 0;exact ov gX) ?_;refine sq (fun aa ww ll hh=>by have:=hh.gt 4 0;exact ov (fC (HCE.o ww hh.inv))) ?_;refine sq (fun aa ww ll hh=>by have:=hh.oL 5;exact ov gX) ?_;refine sq (fun aa ww ll hh=>by have:=hh.gt 6 0;exact ov (fC (HCE.o ww hh.inv))) ?_;refine ⟨.eq (.int .i64 Z),trivial,rfl,fun aa ww ll hh=>?_,?_⟩
     ·have e95:=hh.gt 5 2;have e97:=hh.gt 7 0;have ef:=evf aa;refine out_call_eq (wanted_none rfl) ?_ (HOF.o ww hh.inv);exact gX
     refine stm 8 0 ?_;intro ll w3 hS hok;clear hok;simp only[ly];go_wp2_with fail;go_ret;refine ⟨?_,HB0.o.trans (hS.mono HB0.o.size)⟩;show Ending.returned (.int .i64 _)=_;congr 2;rw[HR.o];obtain ⟨g1,g2,g3⟩:=HRR.o;obtain ⟨d1,d2,d3⟩:=HL.o;have hZ:=HZ.o;have hv0:v=0:=by simpa using g3
     unfold plain0P;rw[if_neg sm,if_neg (by simp[hv0]),if_neg sm,if_neg sm,if_pos rfl,if_pos om];exact hZ
    exact gE
   exact gE
  ·exact gE
 go_wp2_with (first
  |(go_at_call 79;refine (HOK.o _).mono ?_;rintro e w1 ⟨rfl,hb1⟩;have HB1:=hD hb1;have nb:=HNB.o.below hb1;obtain ⟨m0,m1,m2,m3,m4,m5⟩:=nb.cells;clear nb hb1)
  |(go_at_call 70;refine (HFI.o _).mono ?_;rintro e w2 ⟨rfl,hb2⟩;have HB2:=hD hb2;have nb:=(HNB.o.below HB1.o).below hb2;obtain ⟨l0,l1,l2,l3,l4,l5⟩:=nb.cells;clear nb hb2)
  |(go_at_call 122;refine (HME.o _ _ HB0.o).mono ?_;rintro e w1 ⟨rfl,hb1⟩;have HB1:=hD hb1;clear hb1))
 all_goals
  go_ret;refine ⟨?_,by first|exact HB0.o|exact HB0.o.trans (HB1.o.mono HB0.o.size)|exact (HB0.o.trans (HB1.o.mono HB0.o.size)).trans (HB2.o.mono (Nat.le_trans HB0.o.size HB1.o.size))⟩;show Ending.returned (.int .i64 _)=_;congr 2;rw[HR.o];obtain ⟨g1,g2,g3⟩:=HRR.o;obtain ⟨d1,d2,d3⟩:=HL.o;clear HB0 HPB HNB HZB HP HS;simp only[bne_iff_ne,ne_eq,beq_iff_eq,beq_eq_false_iff_ne,bne_eq_false_iff_eq] at*
  first|(simp_all[plain0P];done)|(simp_all[plain0P];omega)
structure Pkt where
 port:Int
 rest:List Int
 valid:List Bool
 fields:List (List Nat)
 metas:List Nat
 dropped:Bool
 sent:Bool
 egress:Int
 access:Bool
inductive Tr
 |leaf (n:Nod)
 |un (n:Nod) (t:Tr)
 |bin (n:Nod) (a b:Tr)
def Tr.flat:Tr->List Nod
 | .leaf n=>[n]
 | .un n t=>t.flat++[n]
 | .bin n a b=>a.flat++b.flat++[n]
def Tr.root:Tr->Nod
 | .leaf n=>n
 | .un n _=>n
 | .bin n _ _=>n
inductive WTr (p:Prg) (act:Int):Tr->Int->Prop
 |leaf (n:Nod):1<=n.op->n.op<=6->plain0P p act n=n.w->okP n.w=true->WTr p act (.leaf n) n.w
 |un (n:Nod) (t:Tr) (w:Int):isUn n.op->WTr p act t w->n.v=0->single0P n w=n.w->okP n.w=true->WTr p act (.un n t) n.w
 |bin (n:Nod) (a b:Tr) (wa wb:Int):¬(1<=n.op/\n.op<=6)->¬isUn n.op->WTr p act a wa->WTr p act b wb->n.v=0->pair0P n wa wb=n.w->okP n.w=true->WTr p act (.bin n a b) n.w
theorem WTr.root {p:Prg} {t:Tr} {w:Int} (h:WTr p act t w):t.root.w=w/\okP w=true:=by
 cases h<;>exact ⟨rfl,by assumption⟩
theorem okP_iff {w:Int}:okP w=true↔0<w/\w<129:=by unfold okP;simp
theorem bin_op {n:Nod} (h:pair0P n a b=n.w) (hok:okP n.w=true):n.op=10\/(11<=n.op/\n.op<=17)\/n.op=18\/n.op=19\/n.op=20:=by
 rw[okP_iff] at hok;unfold pair0P at h;split at h
 ·omega
 split at h
 ·omega
 split at h
 ·omega
 split at h
 ·omega
 split at h
 ·omega
 omega
theorem foldW_app (p:Prg) (act:Int):∀(c d:List Nod) (st:List Int),foldW p act st (c++d)=(foldW p act st c).bind fun s=>foldW p act s d
 |[],d,st=>rfl
 |n::c,d,st=>by
  rw[List.cons_append,foldW,foldW];cases stepW p act st n with
  |none=>rfl
  |some s=>exact foldW_app p act c d s
theorem trees_of {p:Prg} :∀(k:Nat) (c:List Nod) (st:List Int),c.length=k->foldW p act [] c=some st->∃ts:List Tr,c=(ts.reverse.map Tr.flat).flatten/\ts.length=st.length/\∀(j:Nat) (t:Tr) (w:Int),ts[j]?=some t->st[j]?=some w->WTr p act t w:=by
 intro k;induction k with
 |zero=>
  intro c st hc h;obtain rfl:=List.length_eq_zero_iff.1 hc;simp only[foldW,Option.some.injEq] at h;subst h;exact ⟨[],rfl,rfl,fun j t w h=>by simp at h⟩
 |succ k ih=>
  intro c st hc h;obtain ⟨c',n,rfl⟩:∃c' n,c=c'++[n]:=⟨c.dropLast,c.getLast (by intro e;rw[e] at hc;cases hc),(List.dropLast_concat_getLast _).symm⟩;rw[foldW_app] at h;cases hq:foldW p act [] c' with
  |none=>rw[hq] at h;cases h
  |some s=>
   rw[hq,Option.bind_some,foldW] at h;cases hs:stepW p act s n with
   |none=>rw[hs] at h;cases h
   |some s2=>
    rw[hs] at h;simp only[foldW,Option.some.injEq] at h;subst h;obtain ⟨ts,e1,e2,e3⟩:=ih c' s (by simpa using hc) hq;unfold stepW at hs;simp only at hs;split at hs
    ·rename_i hop;split at hs
     ·rename_i hw;cases hs;refine ⟨.leaf n::ts,by rw[e1];simp[Tr.flat],by simp[e2],fun j t w hj hw2=>?_⟩;cases j with
      |zero=>
       simp only[List.getElem?_cons_zero,Option.some.injEq] at hj hw2;subst hj hw2;rw[hw.1];exact .leaf n hop.1 hop.2 hw.1 (by rw[<- hw.1];exact hw.2)
      |succ j=>exact e3 j t w (by simpa using hj) (by simpa using hw2)
     cases hs
    rename_i hop;split at hs
    ·cases hs
    rename_i hv;have hv0:n.v=0:=om;split at hs
    ·rename_i hun;split at hs
     ·cases hs
     rename_i t r;split at hs
     ·rename_i hw;cases hs;match ts,e2 with
      |tt::tr,e2=>
       have h0:=e3 0 tt t rfl rfl;refine ⟨.un n tt::tr,by rw[e1];simp[Tr.flat],by simpa using e2,fun j x w hj hw2=>?_⟩;cases j with
       |zero=>
        simp only[List.getElem?_cons_zero,Option.some.injEq] at hj hw2;subst hj hw2;rw[hw.1];exact .un n tt t hun h0 hv0 hw.1 (by rw[<- hw.1];exact hw.2)
       |succ j=>exact e3 (j+1) x w (by simpa using hj) (by simpa using hw2)
     cases hs
    rename_i hun;split at hs
    ·rename_i b a r;split at hs
     ·rename_i hw;cases hs;match ts,e2 with
      |tb::ta::tr,e2=>
       have h0:=e3 0 tb b rfl rfl;have h1:=e3 1 ta a rfl rfl;refine ⟨.bin n ta tb::tr,by rw[e1];simp[Tr.flat],by simpa using e2,fun j x w hj hw2=>?_⟩;cases j with
       |zero=>
        simp only[List.getElem?_cons_zero,Option.some.injEq] at hj hw2;subst hj hw2;rw[hw.1];exact .bin n ta tb a b hop hun h1 h0 hv0 hw.1 (by rw[<- hw.1];exact hw.2)
       |succ j=>exact e3 (j+2) x w (by simpa using hj) (by simpa using hw2)
     cases hs
    cases hs
theorem tree_of {p:Prg} {c:List Nod} {w:Int} (h:widthP p act c=some w):∃t:Tr,c=t.flat/\WTr p act t w:=by
 unfold widthP at h;split at h
 ·cases h
 split at h
 ·rename_i w' hq;cases h;obtain ⟨ts,e1,e2,e3⟩:=trees_of _ c [w] rfl hq;match ts,e2 with
  |[t],_=>exact ⟨t,by rw[e1];simp,e3 0 t w rfl rfl⟩
 cases h
end Go.Proofs.YtikilcbpogfgkaaGreat
