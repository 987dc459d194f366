/- Lemmas. -/
import Derived.Test.YtikilcbpogfgkaaGreatJH04
import Derived.Test.YtikilcbpogfgkaaGreatJH03
set_option maxHeartbeats 3200000
set_option maxRecDepth 100000
namespace Go.Proofs.YtikilcbpogfgkaaGreat
open Go.RowKit
variable {w:World} {n c j:Nat} {act:Int}
theorem numCat_any (a b:Nat) (k:Int) (w:World) (ha:a<B*B) (hb:b<B*B):Calls Tryz.prog 142 #[numV a,numV b, .int .i64 k] w (RetNum w ((a*2 ^ sh k%(B*B)%2 ^ sh 128) ||| (b%2 ^ sh k))):=by
 have hl1:a*2 ^ sh k%(B*B)%2 ^ sh 128<B*B:=Nat.lt_of_le_of_lt (Nat.mod_le _ _) (Nat.mod_lt _ (by unfold B;omega));have hl2:b%2 ^ sh k<B*B:=Nat.lt_of_le_of_lt (Nat.mod_le _ _) hb;have HS:Hd (∀ W,Calls Tryz.prog 64 #[numV a, .int .i64 k, .int .i64 128] W (RetNum W (a*2 ^ sh k%(B*B)%2 ^ sh 128))):=fun W=>numShl_any a k 128 W ha
 have HC:Hd (∀ W,Calls Tryz.prog 99 #[numV b, .int .i64 k] W (RetNum W (b%2 ^ sh k))):=fun W=>numCut_any _ _ W hb
 have HO:Hd (∀ W,Calls Tryz.prog 63 #[numV (a*2 ^ sh k%(B*B)%2 ^ sh 128),numV (b%2 ^ sh k)] W (RetNum W ((a*2 ^ sh k%(B*B)%2 ^ sh 128) ||| (b%2 ^ sh k)))):=fun W=>numOr_any _ _ W hl1 hl2
 generalize a*2 ^ sh k%(B*B)%2 ^ sh 128=m at*;generalize b%2 ^ sh k=q at*;generalize m ||| q=r at*
 obtain ⟨y,z,he,-,-⟩:=numV_parts a;obtain ⟨y0,z0,he0,-,-⟩:=numV_parts b;obtain ⟨y1,z1,he1,-,-⟩:=numV_parts m;obtain ⟨y2,z2,he2,-,-⟩:=numV_parts q;obtain ⟨y3,z3,he3,-,-⟩:=numV_parts r;have HR:=hD he3;unfold RetNum at HC HS HO;rw[he,he1] at HS;rw[he0,he2] at HC;rw[he1,he2,he3] at HO;rw[he,he0];clear he he0 he1 he2 he3 ha hb hl1 hl2;go_enter Tryz.func142,Tryz.ntmps142;go_wp2_with fail;obtain ⟨W0,hW0⟩:=nm (((w.alloc (.cells #[.int .u64 (y:Int), .int .u64 (z:Int)] 82)).alloc (.cells #[.int .u64 (y0:Int), .int .u64 (z0:Int)] 82)).alloc (.cells #[.int .u64 0, .int .u64 0] 82));have HS0:Hd ((fun Wk=>Below (w.heap.size) (w) Wk/\Cl Wk w.heap.size 0 (.int .u64 (y:Int))/\Cl Wk w.heap.size 1 (.int .u64 (z:Int))/\Cl Wk (w.heap.size+1) 0 (.int .u64 (y0:Int))/\Cl Wk (w.heap.size+1) 1 (.int .u64 (z0:Int))/\(∃ x,Cl Wk (w.heap.size+1+1) 0 x)/\(∃ x,Cl Wk (w.heap.size+1+1) 1 x)/\Wk.frozen? ⟨w.heap.size+1+1,0,none⟩=false/\Wk.frozen? ⟨w.heap.size+1+1,1,none⟩=false) W0.drew):=by
  show _/\_;rw[hW0];exact ⟨below_drewN bL 1,by simp[go_sem],by simp[go_sem],by simp[go_sem],by simp[go_sem],⟨.int .u64 0,by simp[go_sem]⟩,⟨.int .u64 0,by simp[go_sem]⟩,by simp[go_sem],by simp[go_sem]⟩
 rw[<- hW0];clear hW0;have hs0:=HS0.o;obtain ⟨-,c0,c1,c2,c3,⟨x4,c4⟩,⟨x5,c5⟩,f4,f5⟩:=hs0;simp only[Cl,World.cell?_drew] at c0 c1 c2 c3 c4 c5;rw[World.frozen?_drew] at f4 f5;go_region_held3 (fun Wk=>Below (w.heap.size) (w) Wk/\Wk.cell? ⟨w.heap.size,0,none⟩=some (.int .u64 (y:Int))/\Wk.cell? ⟨w.heap.size,1,none⟩=some (.int .u64 (z:Int))/\Wk.cell? ⟨w.heap.size+1,0,none⟩=some (.int .u64 (y0:Int))/\Wk.cell? ⟨w.heap.size+1,1,none⟩=some (.int .u64 (z0:Int))/\(∃ x,Wk.cell? ⟨w.heap.size+1+1,0,none⟩=some x)/\(∃ x,Wk.cell? ⟨w.heap.size+1+1,1,none⟩=some x)/\Wk.frozen? ⟨w.heap.size+1+1,0,none⟩=false/\Wk.frozen? ⟨w.heap.size+1+1,1,none⟩=false)
  (first|exact HS0.o|exact held_4_2 hb1 (by assumption)|exact heldset_4_2 _ _ om (by simp<;>omega) (by assumption))
  (first
  |(go_at_call 64;refine (HS.o _).mono ?_;rintro e w1 ⟨rfl,hb1⟩)
  |(go_at_call 99;refine (HC.o _).mono ?_;rintro e w1 ⟨rfl,hb1⟩)
  |(go_at_call 63;refine (HO.o _).mono ?_;rintro e w1 ⟨rfl,hb1⟩;obtain ⟨-,-,-,-,-,⟨x6,g4⟩,⟨x7,g5⟩,g6,g7⟩:=held_4_2 hb1 (by assumption)))
 rename_i hS;have HBF:=hD hS.1;clear hS;have y5:(w1.setCell ⟨w.heap.size+1+1,0,none⟩ (.int .u64 (y3:Int))).cell? ⟨w.heap.size+1+1,1,none⟩=some x7:=by rw[World.cell?_setCell_other _ _ _ _ sm];exact g5
 have y0':((w1.setCell ⟨w.heap.size+1+1,0,none⟩ (.int .u64 (y3:Int))).setCell ⟨w.heap.size+1+1,1,none⟩ (.int .u64 (z3:Int))).cell? ⟨w.heap.size+1+1,0,none⟩=some (.int .u64 (y3:Int)):=by
  rw[World.cell?_setCell_other _ _ _ _ sm];exact World.cell?_setCell_same _ _ _ g4
 have y1':((w1.setCell ⟨w.heap.size+1+1,0,none⟩ (.int .u64 (y3:Int))).setCell ⟨w.heap.size+1+1,1,none⟩ (.int .u64 (z3:Int))).cell? ⟨w.heap.size+1+1,1,none⟩=some (.int .u64 (z3:Int)):=World.cell?_setCell_same _ _ _ y5;clear y5 g4 g5 g6 g7 c0 c1 c2 c3 c4 c5 f4 f5;generalize (w1.setCell ⟨w.heap.size+1+1,0,none⟩ (.int .u64 (y3:Int))).setCell ⟨w.heap.size+1+1,1,none⟩ (.int .u64 (z3:Int))=WF at*;go_wp2_with fail;exact bodyPost_ret (v:= .agg #[.int .u64 (y3:Int), .int .u64 (z3:Int)]) (by simp[results,Tryz.results142,go_sem,y0',y1']) rfl ⟨by rw[HR.o],HBF.o⟩
theorem isNaN_any (x:Int) (w:World):Calls Tryz.prog 163 #[.int .u64 x] w fun e w'=>e= .returned (.bool false)/\w'=w:=by
 go_enter Tryz.func163,Tryz.ntmps163;go_wp2;go_ret;exact ⟨rfl,rfl⟩
def cmpI (a b:Nat):Int:=if a<b then -1 else if b<a then 1 else 0
theorem compare_any (x y:Nat) (w:World):Calls Tryz.prog 161 #[.int .u64 (x:Int), .int .u64 (y:Int)] w fun e w'=>e= .returned (.int .i64 (cmpI x y))/\w'=w:=by
 have h1:x<y->Hd (cmpI x y= -1):=fun h=>by show _=_;unfold cmpI;rw[if_pos h]
 have h2:y<x->Hd (cmpI x y=1):=fun h=>by show _=_;unfold cmpI;rw[if_neg om,if_pos h]
 have h3:x=y->Hd (cmpI x y=0):=fun h=>by show _=_;unfold cmpI;rw[if_neg om,if_neg om]
 have H:=hD (And.intro h1 (And.intro h2 h3));clear h1 h2 h3;go_enter Tryz.func161,Tryz.ntmps161;go_wp2_with (go_at_call 163;refine (isNaN_any _ _).mono ?_;rintro e w1 ⟨rfl,rfl⟩)
 all_goals go_ret
 ·exact ⟨by rw[(H.o.1 om).o];rfl,rfl⟩
 ·exact ⟨by rw[(H.o.2.1 om).o];rfl,rfl⟩
 ·exact ⟨by rw[(H.o.2.2 om).o];rfl,rfl⟩
theorem or2_any (g t:Nat) (a b:Int) (w:World) (h0:w.heap[g]?=some (.cells #[.int .i64 a, .int .i64 b] t (0,0))):Calls Tryz.prog 160 #[.slice (some ⟨g,0,none⟩) 2 2] w fun e w'=>e= .returned (.int .i64 (if a≠0 then a else b))/\w'=w:=by
 have c0:w.cell? ⟨g,0,none⟩=some (.int .i64 a):=by simp[World.cell?,h0]
 have c1:w.cell? ⟨g,1,none⟩=some (.int .i64 b):=by simp[World.cell?,h0]
 clear h0;have V1:a≠0->Hd ((if a≠0 then a else b)=a):=fun h=>if_pos h
 have V2:a=0->Hd ((if a≠0 then a else b)=b):=fun h=>if_neg (by simp[h])
 have HV:=hD (And.intro V1 V2);clear V1 V2;generalize (if a≠0 then a else b)=r at*;go_enter Tryz.func160,Tryz.ntmps160;go_wp2;go_loop [8] (fun i=>∃k:Nat,k<=2/\i= .int .i64 k/\(0<k->a=0)/\(1<k->b=0)) (fun i=>2-(intOf i).toNat)
 case atStart=>exact ⟨0,om,rfl,om,om⟩
 case round=>
  obtain ⟨k,hk,rfl,hz0,hz1⟩:=hrel;have hcase:k=0\/k=1\/k=2:=om
  rcases hcase with rfl|rfl|rfl
  ·by_cases ha:a=0
   ·subst ha;go_wp2;go_round
    case rel=>exact ⟨1,om,rfl,by simp,om⟩
    case measure=>simp[intOf]
   ·have hd:decide (a=0)=false:=decide_eq_false ha;have hd2:(a !=0)=true:=by simpa using ha
    go_wp2;go_ret;exact ⟨by rw[(HV.o.1 ha).o];rfl,rfl⟩
  ·have ha:=hz0 om;by_cases hb:b=0
   ·subst hb;go_wp2;go_round
    case rel=>exact ⟨2,om,rfl,fun _=>ha,by simp⟩
    case measure=>simp[intOf]
   ·have hd:decide (b=0)=false:=decide_eq_false hb;have hd2:(b !=0)=true:=by simpa using hb
    go_wp2;go_ret;exact ⟨by rw[(HV.o.2 ha).o];rfl,rfl⟩
  ·have ha:=hz0 om;have hb:=hz1 om;go_wp2;go_ret;exact ⟨by rw[(HV.o.2 ha).o,hb];rfl,rfl⟩
theorem cmp_parts {a b:Nat} (_ha:a<B*B) (_hb:b<B*B):(if cmpI (a/B) (b/B)≠0 then cmpI (a/B) (b/B) else cmpI (a%B) (b%B))=cmpI a b:=by
 unfold cmpI B at*
 repeat split
 all_goals first|rfl|omega|simp_all
theorem numCmp_any (a b:Nat) (w:World) (ha:a<B*B) (hb:b<B*B):Calls Tryz.prog 152 #[numV a,numV b] w fun e w'=>e= .returned (.int .i64 (cmpI a b))/\Bl w w':=by
 have hv:=cmp_parts ha hb;have H1:∀W,Calls Tryz.prog 161 #[.int .u64 (a/B:Nat), .int .u64 (b/B:Nat)] W fun e w'=>e= .returned (.int .i64 (cmpI (a/B) (b/B)))/\w'=W:=fun W=>compare_any _ _ W
 have H2:∀W,Calls Tryz.prog 161 #[.int .u64 (a%B:Nat), .int .u64 (b%B:Nat)] W fun e w'=>e= .returned (.int .i64 (cmpI (a%B) (b%B)))/\w'=W:=fun W=>compare_any _ _ W
 have H3:∀(g:Nat) W,W.heap[g]?=some (.cells #[.int .i64 (cmpI (a/B) (b/B)), .int .i64 (cmpI (a%B) (b%B))] 3 (0,0))->Calls Tryz.prog 160 #[.slice (some ⟨g,0,none⟩) 2 2] W fun e w'=>e= .returned (.int .i64 (cmpI a b))/\w'=W:=fun g W h=>by rw[<- hv];exact or2_any g _ _ _ W h
 obtain ⟨ah,al,hea,qa,qb⟩:=numV_parts a;obtain ⟨bh,bl,heb,qc,qd⟩:=numV_parts b;rw[<- qa, <-qc] at H1 H3;rw[<- qb, <-qd] at H2 H3;rw[hea,heb];generalize cmpI ah bh=x at*;generalize cmpI al bl=y at*;generalize cmpI a b=z at*;have HH1:=hD H1;have HH2:=hD H2;have HH3:=hD H3;clear hv H1 H2 H3 qa qb qc qd hea heb ha hb;go_enter Tryz.func152,Tryz.ntmps152;go_wp2_with fail;obtain ⟨W0,hW0⟩:=nm ((w.alloc (.cells #[.int .u64 (ah:Int), .int .u64 (al:Int)] 82)).alloc (.cells #[.int .u64 (bh:Int), .int .u64 (bl:Int)] 82));have HS0:Hd ((fun Wk=>Below (w.heap.size) (w) Wk/\Cl Wk w.heap.size 0 (.int .u64 (ah:Int))/\Cl Wk w.heap.size 1 (.int .u64 (al:Int))/\Cl Wk (w.heap.size+1) 0 (.int .u64 (bh:Int))/\Cl Wk (w.heap.size+1) 1 (.int .u64 (bl:Int))) W0.drew):=by
  show _/\_;rw[hW0];exact ⟨below_drewN bL 1,by simp[go_sem],by simp[go_sem],by simp[go_sem],by simp[go_sem]⟩
 rw[<- hW0];clear hW0;have hs0:=HS0.o;obtain ⟨-,c0,c1,c2,c3⟩:=hs0;simp only[Cl,World.cell?_drew] at c0 c1 c2 c3;have hal:∀(W:World) (o:Obj),Bl W (W.alloc o):=fun W o=>br.alloc lr _
 have HAL:=hD hal;clear hal;go_region_held3 (fun Wk=>Below (w.heap.size) (w) Wk/\Wk.cell? ⟨w.heap.size,0,none⟩=some (.int .u64 (ah:Int))/\Wk.cell? ⟨w.heap.size,1,none⟩=some (.int .u64 (al:Int))/\Wk.cell? ⟨w.heap.size+1,0,none⟩=some (.int .u64 (bh:Int))/\Wk.cell? ⟨w.heap.size+1,1,none⟩=some (.int .u64 (bl:Int)))
  (first|exact HS0.o|assumption|exact held_4_0 (HAL.o _ _) (by assumption))
  (first
  |(go_at_call 161;(with_reducible refine (HH1.o _).mono ?_);rintro e w1 ⟨rfl,rfl⟩)
  |(go_at_call 161;(with_reducible refine (HH2.o _).mono ?_);rintro e w1 ⟨rfl,rfl⟩)
  |(go_at_call 160;refine (HH3.o W0.heap.size _ ?_).mono ?_;exact heap_new W0 _;rintro e w2 ⟨rfl,rfl⟩))
 rename_i hS;have HBF:=hD hS.1;clear hS c0 c1 c2 c3;go_wp2_with fail;go_ret;exact ⟨rfl,HBF.o⟩
open Go.RowKit Go.Maps
theorem run_mkFunc (P:Program) (fn:Fn) (first cap:Array Value) (w:World):(Instr.makeFunc fn first cap).run P w= .ok (.func fn first cap) w:=rfl
def fnV (f g:Nat):Value:= .func (Fn.func f) #[] #[.pointer (some ⟨g,0,none⟩)]
def fn0 (f:Nat):Value:= .func (Fn.func f) #[] #[]
def aloneM (g:Nat):List (Int×Value):=[(7,fnV 133 g),(8,fnV 135 g),(9,fnV 137 g),(13,fnV 139 g),(14,fnV 140 g)]
def bothM (g:Nat):List (Int×Value):=[(10,fn0 141),(11,fnV 143 g),(12,fnV 145 g),(15,fn0 146),(16,fn0 147),(17,fn0 149),(18,fn0 150),(19,fn0 151),(20,fn0 153)]
theorem alone_any (c0 c1 c2 c3 c4 c5:Int) (w:World):
 Calls Tryz.prog 126 #[.agg #[.int .u8 c0, .int .i64 c1, .int .i64 c2, .int .i64 c3, .int .u64 c4, .int .u64 c5]] w fun e w'=>∃m,e= .returned (.map (some m))/\UMap w' m (aloneM w.heap.size)/\w'.heap[w.heap.size]?=some (.cells #[.int .u8 c0, .int .i64 c1, .int .i64 c2, .int .i64 c3, .int .u64 c4, .int .u64 c5] 84 (0,0))/\Bl w w':=by
 have hmm:=@run_makeMap Tryz.prog;have hmf:=run_mkFunc Tryz.prog;have HM:∀W,UMap (World.alloc W (.map #[] 0)) W.heap.size []:=fun W=>UMap.empty _ _ (heap_new W _)
 have h0:=HM (w.alloc (.cells #[.int .u8 c0, .int .i64 c1, .int .i64 c2, .int .i64 c3, .int .u64 c4, .int .u64 c5] 84));rw[World.size_alloc] at h0;have HB:Hd (Below (w.heap.size+1) (w.alloc (.cells #[.int .u8 c0, .int .i64 c1, .int .i64 c2, .int .i64 c3, .int .u64 c4, .int .u64 c5] 84)) ((w.alloc (.cells #[.int .u8 c0, .int .i64 c1, .int .i64 c2, .int .i64 c3, .int .u64 c4, .int .u64 c5] 84)).alloc (.map #[] 0))):=br.alloc sm _;have hB:=HB.o;clear HM;go_enter Tryz.func126,Tryz.ntmps126;go_wp2_with (refine wpList_put (k:=5) (e:=194) (by rfl) _ _ _ (by rfl) Tryz.underlying5 Tryz.underlying196 (by rfl) h0 _ (by rfl) _ (by rfl) dq sm ?_;clear h0;intro w1 h0 hg1;replace hB:=hB.grown hg1 (Nat.le_trans sm hB.size) (fun k e=>by cases e;simp);clear hg1);go_ret;exact ⟨_,rfl,h0,by rw[hB.block _ om];exact heap_new w _,Below.trans (br.alloc lr _) (hB.mono om)⟩
theorem both_any (c0 c1 c2 c3 c4 c5:Int) (w:World):
 Calls Tryz.prog 127 #[.agg #[.int .u8 c0, .int .i64 c1, .int .i64 c2, .int .i64 c3, .int .u64 c4, .int .u64 c5]] w fun e w'=>∃m,e= .returned (.map (some m))/\UMap w' m (bothM w.heap.size)/\w'.heap[w.heap.size]?=some (.cells #[.int .u8 c0, .int .i64 c1, .int .i64 c2, .int .i64 c3, .int .u64 c4, .int .u64 c5] 84 (0,0))/\Bl w w':=by
 have hmm:=@run_makeMap Tryz.prog;have hmf:=run_mkFunc Tryz.prog;have HM:∀W,UMap (World.alloc W (.map #[] 0)) W.heap.size []:=fun W=>UMap.empty _ _ (heap_new W _)
 have h0:=HM (w.alloc (.cells #[.int .u8 c0, .int .i64 c1, .int .i64 c2, .int .i64 c3, .int .u64 c4, .int .u64 c5] 84));rw[World.size_alloc] at h0;have HB:Hd (Below (w.heap.size+1) (w.alloc (.cells #[.int .u8 c0, .int .i64 c1, .int .i64 c2, .int .i64 c3, .int .u64 c4, .int .u64 c5] 84)) ((w.alloc (.cells #[.int .u8 c0, .int .i64 c1, .int .i64 c2, .int .i64 c3, .int .u64 c4, .int .u64 c5] 84)).alloc (.map #[] 0))):=br.alloc sm _;have hB:=HB.o;clear HM;go_enter Tryz.func127,Tryz.ntmps127;go_wp2_with (refine wpList_put (k:=5) (e:=198) (by rfl) _ _ _ (by rfl) Tryz.underlying5 Tryz.underlying200 (by rfl) h0 _ (by rfl) _ (by rfl) dq sm ?_;clear h0;intro w1 h0 hg1;replace hB:=hB.grown hg1 (Nat.le_trans sm hB.size) (fun k e=>by cases e;simp);clear hg1);go_ret;exact ⟨_,rfl,h0,by rw[hB.block _ om];exact heap_new w _,Below.trans (br.alloc lr _) (hB.mono om)⟩
open Go.RowKit Go.Maps
def doesP (kind how:Int) (at_:Ed) (acc:Bool) (l:List Ed):Bool:=
 if kind=1\/kind=5 then decide (how=1)&&l.contains at_ else if kind=2 then decide (how=2) else if kind=3 then decide (how=3) else if kind=4 then acc else false
def jdM (g:Nat):List (Int×Value):=[(1,fnV 36 g),(5,fnV 36 g),(2,fnV 38 g),(3,fnV 39 g),(4,fnV 40 g)]
theorem does_any (kind how:Int) (hkw:(Lit.int .u8 kind).wf=true) (s:AkS) (l:List Ed) (hp bp:Option Addr) (hn hc bn bc:Nat) (at_:Ed) (acc:Bool) (w:World) (hl:EdRow w (.slice s.tp s.tn s.tc) l):
 Calls Tryz.prog 16 #[akV kind s, .agg #[.slice hp hn hc, .int .u8 how, .int .i64 at_.sw, .int .i64 at_.port, .slice bp bn bc, .bool acc]] w fun e w'=>e= .returned (.bool (doesP kind how at_ acc l))/\Bl w w':=by
 have HL:=hD hl;have hmm:=@run_makeMap Tryz.prog;have hmf:=run_mkFunc Tryz.prog;have HM:∀W,UMap (World.alloc W (.map #[] 0)) W.heap.size []:=fun W=>UMap.empty _ _ (heap_new W _)
 obtain ⟨W0,hW0⟩:=nm ((w.alloc (.cells #[.int .u8 kind, .slice s.fp s.fn s.fc, .slice s.tp s.tn s.tc, .slice s.qp s.qn s.qc] 72)).alloc (.cells #[.slice hp hn hc, .int .u8 how, .int .i64 at_.sw, .int .i64 at_.port, .slice bp bn bc, .bool acc] 59));have h0:=HM W0;have HB0:Hd (Bl w W0):=by show Below _ _ _;rw[hW0];exact bL
 have HSZ:Hd (W0.heap.size=w.heap.size+1+1):=by show _=_;rw[hW0];simp
 have HTB:Hd (TBx W0 (w.heap.size+1) (.slice hp hn hc) (.slice bp bn bc) how at_ acc):=by
  show _=_;rw[hW0];exact hq2 _ _ _
 have HAK:Hd (W0.heap[w.heap.size]?=some (.cells #[.int .u8 kind, .slice s.fp s.fn s.fc, .slice s.tp s.tn s.tc, .slice s.qp s.qn s.qc] 72 (0,0))):=by show _=_;rw[hW0,Below.heap_alloc _ _ _ sm];exact heap_new _ _
 have hB:Bl W0 (W0.alloc (.map #[] 0)):=br.alloc lr _;clear HM hl;unfold akV;go_enter Tryz.func16,Tryz.ntmps16;go_upto_region 2 with fail
 rw[<- hW0];clear hW0;go_upto_region 3 with (refine wpList_put (k:=5) (e:=103) (by rfl) _ _ _ (by rfl) Tryz.underlying5 Tryz.underlying104 (by rfl) h0 _ (by rfl) _ (by rfl) dq sm ?_;clear h0;intro w1 h0 hg1;replace hB:=hB.grown hg1 hB.size (fun k e=>by cases e;simp);clear hg1)
 have HU:Hd (UMap w1 W0.heap.size (jdM (w.heap.size+1))):=h0;have HB1:Hd (Bl W0 w1):=hB;clear h0 hB;have HBW:=hD (HB0.o.trans (HB1.o.mono HB0.o.size));have HT1:Hd (TBx w1 (w.heap.size+1) (.slice hp hn hc) (.slice bp bn bc) how at_ acc):=HTB.o.below HB1.o;have hka:w1.heap[w.heap.size]?=some (.cells #[.int .u8 kind, .slice s.fp s.fn s.fc, .slice s.tp s.tn s.tc, .slice s.qp s.qn s.qc] 72 (0,0)):=(HB1.o.block _ (by have:=HSZ.o;omega)).trans HAK.o;have a0:w1.cell? ⟨w.heap.size,0,none⟩=some (.int .u8 kind):=by simp[World.cell?,hka]
 have a1:w1.cell? ⟨w.heap.size,1,none⟩=some (.slice s.fp s.fn s.fc):=by simp[World.cell?,hka]
 have a2:w1.cell? ⟨w.heap.size,2,none⟩=some (.slice s.tp s.tn s.tc):=by simp[World.cell?,hka]
 have a3:w1.cell? ⟨w.heap.size,3,none⟩=some (.slice s.qp s.qn s.qc):=by simp[World.cell?,hka]
 clear hka;by_cases hk:kind=1
 ·subst hk;have hlk:=HU.o.look (P:=Tryz.prog) (k:=5) (T:=104) (e:=103) Tryz.underlying5 Tryz.underlying104 (x:=1) (v:=fnV 36 (w.heap.size+1)) (by simp[jdM]);unfold fnV at hlk;have hc:=does1_any 1 s l HT1.o (HL.o.below keepEd HBW.o);unfold akV at hc;have HC:=hD hc;clear hc;go_wp2_with (go_at_call 36;refine HC.o.mono ?_;rintro e w9 ⟨rfl,hb⟩;have HB9:=hD hb;clear hb);go_ret;exact ⟨by unfold doesP;rw[if_pos dq];first|rfl|simp,HBW.o.trans (HB9.o.mono HBW.o.size)⟩
 ·by_cases hk5:kind=5
  ·subst hk5;have hlk:=HU.o.look (P:=Tryz.prog) (k:=5) (T:=104) (e:=103) Tryz.underlying5 Tryz.underlying104 (x:=5) (v:=fnV 36 (w.heap.size+1)) (by simp[jdM]);unfold fnV at hlk;have hc:=does1_any 5 s l HT1.o (HL.o.below keepEd HBW.o);unfold akV at hc;have HC:=hD hc;clear hc;go_wp2_with (go_at_call 36;refine HC.o.mono ?_;rintro e w9 ⟨rfl,hb⟩;have HB9:=hD hb;clear hb);go_ret;exact ⟨by unfold doesP;rw[if_pos dq];first|rfl|simp,HBW.o.trans (HB9.o.mono HBW.o.size)⟩
  ·by_cases hk2:kind=2
   ·subst hk2;have hlk:=HU.o.look (P:=Tryz.prog) (k:=5) (T:=104) (e:=103) Tryz.underlying5 Tryz.underlying104 (x:=2) (v:=fnV 38 (w.heap.size+1)) (by simp[jdM]);unfold fnV at hlk;have hc:=does2_any 2 s HT1.o;unfold akV at hc;have HC:=hD hc;clear hc;go_wp2_with (go_at_call 38;refine HC.o.mono ?_;rintro e w9 ⟨rfl,hb⟩;have HB9:=hD hb;clear hb);go_ret;exact ⟨by unfold doesP;rw[if_neg dq,if_pos rfl];first|rfl|simp,HBW.o.trans (HB9.o.mono HBW.o.size)⟩
   ·by_cases hk3:kind=3
    ·subst hk3;have hlk:=HU.o.look (P:=Tryz.prog) (k:=5) (T:=104) (e:=103) Tryz.underlying5 Tryz.underlying104 (x:=3) (v:=fnV 39 (w.heap.size+1)) (by simp[jdM]);unfold fnV at hlk;have hc:=does3_any 3 s HT1.o;unfold akV at hc;have HC:=hD hc;clear hc;go_wp2_with (go_at_call 39;refine HC.o.mono ?_;rintro e w9 ⟨rfl,hb⟩;have HB9:=hD hb;clear hb);go_ret;exact ⟨by unfold doesP;rw[if_neg dq,if_neg dq,if_pos rfl];first|rfl|simp,HBW.o.trans (HB9.o.mono HBW.o.size)⟩
    ·by_cases hk4:kind=4
     ·subst hk4;have hlk:=HU.o.look (P:=Tryz.prog) (k:=5) (T:=104) (e:=103) Tryz.underlying5 Tryz.underlying104 (x:=4) (v:=fnV 40 (w.heap.size+1)) (by simp[jdM]);unfold fnV at hlk;have hc:=does4_any 4 s HT1.o;unfold akV at hc;have HC:=hD hc;clear hc;go_wp2_with (go_at_call 40;refine HC.o.mono ?_;rintro e w9 ⟨rfl,hb⟩;have HB9:=hD hb;clear hb);go_ret;exact ⟨by unfold doesP;rw[if_neg dq,if_neg dq,if_neg dq,if_pos rfl];first|rfl|simp,HBW.o.trans (HB9.o.mono HBW.o.size)⟩
     ·obtain ⟨z,hz⟩:∃z,(zeroValue 103).run Tryz.prog w1= .ok z w1:=⟨_,rfl⟩;have hlk:=HU.o.miss (P:=Tryz.prog) (k:=5) (T:=104) (e:=103) Tryz.underlying5 Tryz.underlying104 hz hkw (by intro q hq;simp only[jdM,List.mem_cons,List.not_mem_nil,or_false] at hq;rcases hq with rfl|rfl|rfl|rfl|rfl<;>intro e<;>simp_all);have HD:Hd (doesP kind how at_ acc l=false):=by show _=_;unfold doesP;rw[if_neg (by simp_all),if_neg (by assumption),if_neg (by assumption),if_neg (by assumption)]
      clear hk hk5 hk2 hk3 hk4 hz;go_wp2_with fail;go_ret;exact ⟨by rw[HD.o];rfl,HBW.o⟩
open Go.RowKit
theorem uconv {v:Value} {xs:List Int} (h:URow w v xs):(convert 35 9 v).run Tryz.prog w= .ok (.string (strOfNums xs)) w:=by
 obtain ⟨pa,cap,rfl,h1,h2,-,h3⟩:=h;by_cases h0:0<xs.length
 ·obtain ⟨b,o,rfl,hb,hc⟩:=h3 h0;refine run_convert_bytes_arg w _ 5 Tryz.underlying35 Tryz.underlying5 b o xs.length cap xs rfl (fun i hi=>?_) _ Tryz.underlying9;have:=hc i xs[i] (gE_ hi);unfold UAt at this;rw[Nat.mul_one] at this;rw[this,List.getD_eq_getElem?_getD,gE_ hi];rfl
 ·obtain rfl:xs=[]:=List.eq_nil_of_length_eq_zero om;cases pa with
  |none=>exact run_convert_bytes_nil w _ 5 Tryz.underlying35 Tryz.underlying5 0 cap _ Tryz.underlying9
  |some a=>
   rw[run_convert_bytes_string w _ _ 5 _ _ _ Tryz.underlying35 Tryz.underlying5 Tryz.underlying9];exact run_bytesToString w a 0 cap [] rfl
open Go.RowKit
def sEq (xs ys:List Int):Bool:=(strOfNums xs).toList==(strOfNums ys).toList
theorem sEq_refl (xs:List Int):sEq xs xs=true:=by unfold sEq;simp
theorem bytesEq_any (xs ys:List Int) (v u:Value) (w:World) (h1:URow w v xs) (h2:URow w u ys):
 Calls Tryz.prog 42 #[v,u] w fun r w'=>r= .returned (.bool (sEq xs ys))/\w'=w:=by
 have k1:=uconv h1;have k2:=uconv h2;obtain ⟨p1,c1,rfl,-⟩:=h1.shape;obtain ⟨p2,c2,rfl,-⟩:=h2.shape;unfold sEq;generalize strOfNums xs=a at*;generalize strOfNums ys=b at*;clear h1 h2;go_enter Tryz.func42,Tryz.ntmps42;go_wp2_with fail;go_ret;exact ⟨rfl,rfl⟩
open Go.RowKit
structure Hp where
 e:Ed
 b:List Int
def HpAt (w:World) (b o:Nat) (h:Hp):Prop:=w.cell? ⟨b,o,none⟩=some (.int .i64 h.e.sw)/\w.cell? ⟨b,o+1,none⟩=some (.int .i64 h.e.port)/\SlAt URow w b (o+2) h.b
theorem keepHp:KeepAt HpAt:=fun w w' b o _n hb hlt ⟨h1,h2,h3⟩=>⟨(hb.cell (p:=⟨b,o,none⟩) hlt).trans h1,(hb.cell (p:=⟨b,o+1,none⟩) hlt).trans h2,SlAt.keep (RowAt.keep keepU) w w' b _ _ hb hlt h3⟩
abbrev HpRow:=RowAt 3 HpAt
def hpEq (x y:Hp):Bool:=decide (x.e=y.e)&&sEq x.b y.b
theorem same1_any (x y:Hp) (p1 p2:Option Addr) (n1 c1 n2 c2:Nat) (w:World) (h1:URow w (.slice p1 n1 c1) x.b) (h2:URow w (.slice p2 n2 c2) y.b):
 Calls Tryz.prog 41 #[.agg #[.int .i64 x.e.sw, .int .i64 x.e.port, .slice p1 n1 c1], .agg #[.int .i64 y.e.sw, .int .i64 y.e.port, .slice p2 n2 c2]] w fun r w'=>r= .returned (.bool (hpEq x y))/\Bl w w':=by
 have HB:Hd (∀ W,Bl w W->Calls Tryz.prog 42 #[.slice p1 n1 c1, .slice p2 n2 c2] W fun r w'=>r= .returned (.bool (sEq x.b y.b))/\w'=W):=fun W hb=>bytesEq_any x.b y.b _ _ W (h1.below keepU hb) (h2.below keepU hb)
 obtain ⟨R,hR⟩:=nm (hpEq x y);have HR:Hd (R=(decide (x.e=y.e)&&sEq x.b y.b)):=hR;rw[<- hR];clear hR h1 h2;generalize sEq x.b y.b=S at*;obtain ⟨⟨xs,xp⟩,xb⟩:=x;obtain ⟨⟨ys,yp⟩,yb⟩:=y;dsimp only at HR⊢;go_enter Tryz.func41,Tryz.ntmps41;go_upto_region 1 with fail
 obtain ⟨W0,hW0⟩:=nm ((w.alloc (.cells #[.int .i64 xs, .int .i64 xp, .slice p1 n1 c1] 65)).alloc (.cells #[.int .i64 ys, .int .i64 yp, .slice p2 n2 c2] 65));have HB0:Hd (Bl w W0):=by show Below _ _ _;rw[hW0];exact bL
 have x0:W0.cell? ⟨w.heap.size,0,none⟩=some (.int .i64 xs):=by rw[hW0];simp[go_sem]
 have x1:W0.cell? ⟨w.heap.size,1,none⟩=some (.int .i64 xp):=by rw[hW0];simp[go_sem]
 have x2:W0.cell? ⟨w.heap.size,2,none⟩=some (.slice p1 n1 c1):=by rw[hW0];simp[go_sem]
 have y0:W0.cell? ⟨w.heap.size+1,0,none⟩=some (.int .i64 ys):=by rw[hW0];simp[go_sem]
 have y1:W0.cell? ⟨w.heap.size+1,1,none⟩=some (.int .i64 yp):=by rw[hW0];simp[go_sem]
 have y2:W0.cell? ⟨w.heap.size+1,2,none⟩=some (.slice p2 n2 c2):=by rw[hW0];simp[go_sem]
 rw[<- hW0];clear hW0;by_cases h:xs=ys/\xp=yp
 ·have k1:∀W:World,(Go.binOp .eql 54 (.agg #[.int .i64 xs, .int .i64 xp]) (.agg #[.int .i64 ys, .int .i64 yp])).run Tryz.prog W= .ok (.bool true) W:=fun W=>by rw[eqlE];simp[h]
  have HRS:Hd (R=S):=by show _=_;rw[HR.o,h.1,h.2];simp
  clear h;go_wp2_with (go_at_call 42;refine (HB.o _ HB0.o).mono ?_;rintro e w1 ⟨rfl,hw⟩;obtain rfl:=hw.symm);go_ret;exact ⟨by rw[HRS.o];rfl,HB0.o⟩
 ·have k1:∀W:World,(Go.binOp .eql 54 (.agg #[.int .i64 xs, .int .i64 xp]) (.agg #[.int .i64 ys, .int .i64 yp])).run Tryz.prog W= .ok (.bool false) W:=fun W=>by rw[eqlE];congr 2;simp only[decide_eq_false_iff_not];exact h
  have HRS:Hd (R=false):=by
   show _=_;rw[HR.o,show decide ((⟨xs,xp⟩:Ed)=⟨ys,yp⟩)=false from by simp only[decide_eq_false_iff_not];exact fun e=>h (by cases e;exact ⟨rfl,rfl⟩)];rfl
  clear h;go_wp2_with fail;go_ret;exact ⟨by rw[HRS.o];rfl,HB0.o⟩
open Go.RowKit
def allHp:List Hp->List Hp->Bool
 |x::l,y::m=>hpEq x y&&allHp l m
 |_,_=>true
def eqHp (l m:List Hp):Bool:=decide (l.length=m.length)&&allHp l m
theorem allHp_refl:∀l:List Hp,allHp l l=true
 |[]=>rfl
 |x::l=>by unfold allHp hpEq;rw[allHp_refl l,sEq_refl];simp
theorem allHp_drop {l m:List Hp} {x y:Hp} {k:Nat} (hx:l[k]?=some x) (hy:m[k]?=some y):allHp (l.drop k) (m.drop k)=(hpEq x y&&allHp (l.drop (k+1)) (m.drop (k+1))):=by
 obtain ⟨h1,h2⟩:=gL_ hx;obtain ⟨h3,h4⟩:=gL_ hy;rw[List.drop_eq_getElem_cons h1,List.drop_eq_getElem_cons h3,h2,h4,allHp]
theorem equalHp_any (l m:List Hp) (p1 p2:Option Addr) (n1 c1 n2 c2:Nat) (w:World) (h1:HpRow w (.slice p1 n1 c1) l) (h2:HpRow w (.slice p2 n2 c2) m):
 Calls Tryz.prog 43 #[.slice p1 n1 c1, .slice p2 n2 c2, .func (.func 41) #[] #[]] w fun r w'=>r= .returned (.bool (eqHp l m))/\Bl w w':=by
 have HN1:Hd (n1=l.length):=h1.ln.1;have HN2:Hd (n2=m.length):=h2.ln.1;have hmx:n1<=9223372036854775807:=by obtain ⟨h1,h2,h3,-⟩:=h1.ln;unfold maxLen at h3;omega
 have H1:=hD h1;have H2:=hD h2;obtain ⟨R,hR⟩:=nm (eqHp l m);have HR:Hd (R=(decide (l.length=m.length)&&allHp (l.drop 0) (m.drop 0))):=hR;rw[<- hR];clear hR h1 h2;go_enter Tryz.func43,Tryz.ntmps43;by_cases hn:n1=n2
 ·have HR2:Hd (R=allHp (l.drop 0) (m.drop 0)):=by show _=_;rw[HR.o,show decide (l.length=m.length)=true by have:=HN1.o;have:=HN2.o;simp;omega];simp
  subst hn;clear HR;go_wp2_with fail;go_loopw [7,8,9,17] (fun u u8 u9 i wr=>∃k:Nat,k<=n1/\i= .int .i64 (k:Int)/\Hd (R=allHp (l.drop k) (m.drop k))/\Hd (Bl w wr)) (fun _ _ _ i _=>n1-(intOf i).toNat)
  case atStart=>exact ⟨0,zl,rfl,HR2.o,Below.refl _ _⟩
  case round=>
   obtain ⟨k,hk,rfl,HE,HB⟩:=hrel;by_cases hlt:k<n1
   ·have hki:(k:Int)<(n1:Int):=om
    obtain ⟨x,hx⟩:∃x,l[k]?=some x:=⟨_,gE_ (by have:=HN1.o;omega)⟩;obtain ⟨y,hy⟩:∃y,m[k]?=some y:=⟨_,gE_ (by have:=HN2.o;omega)⟩;obtain ⟨b,o,hps,hb,x0,x1,⟨pa,na,ca,x2,hxb⟩⟩:=(H1.o.below keepHp HB.o).get hx;obtain ⟨b',o',hps',hb',y0,y1,⟨pb,nb,cb,y2,hyb⟩⟩:=(H2.o.below keepHp HB.o).get hy;have HDR:=hD (allHp_drop hx hy);have HS:Hd (∀ W,Bl wr W->Calls Tryz.prog 41 #[.agg #[.int .i64 x.e.sw, .int .i64 x.e.port, .slice pa na ca], .agg #[.int .i64 y.e.sw, .int .i64 y.e.port, .slice pb nb cb]] W fun r w'=>r= .returned (.bool (hpEq x y))/\Bl W w'):=fun W hw=>same1_any x y pa pb na ca nb cb W (hxb.below keepU hw) (hyb.below keepU hw)
    have HY:Hd (∀ W,Bl wr W->(Cl W b' (o'+k*3) (.int .i64 y.e.sw)/\Cl W b' (o'+k*3+1) (.int .i64 y.e.port)/\Cl W b' (o'+k*3+2) (.slice pb nb cb))):=fun W hw=>⟨(hw.cell (p:=⟨b',o'+k*3,none⟩) hb').trans y0,(hw.cell (p:=⟨b',o'+k*3+1,none⟩) hb').trans y1,(hw.cell (p:=⟨b',o'+k*3+2,none⟩) hb').trans y2⟩
    clear hx hy hxb hyb y0 y1 y2;generalize hpEq x y=q at*;obtain ⟨⟨xs,xp⟩,xb⟩:=x;obtain ⟨⟨ys,yp⟩,yb⟩:=y;dsimp only at x0 x1 HS HY;subst hps hps';go_upto_region 6 with fail
    obtain ⟨W1,hW1⟩:=nm (wr.alloc (.cells #[.int .i64 xs, .int .i64 xp, .slice pa na ca] 65));have HB1:Hd (Bl wr W1):=by show Below _ _ _;rw[hW1];exact br.alloc lr _
    have HX1:Hd (W1.heap[wr.heap.size]?=some (.cells #[.int .i64 xs, .int .i64 xp, .slice pa na ca] 65 (0,0))):=by show _=_;rw[hW1];exact heap_new _ _
    have HS1:Hd (W1.heap.size=wr.heap.size+1):=by show _=_;rw[hW1];simp
    rw[<- hW1];clear hW1 x0 x1 x2;obtain ⟨y0,y1,y2⟩:=HY.o W1 HB1.o;go_upto_region 7 with fail
    obtain ⟨W2,hW2⟩:=nm (W1.alloc (.cells #[.int .i64 ys, .int .i64 yp, .slice pb nb cb] 65));have HB2:Hd (Bl W1 W2):=by show Below _ _ _;rw[hW2];exact br.alloc lr _
    have HX2:Hd (W2.heap[wr.heap.size+1]?=some (.cells #[.int .i64 ys, .int .i64 yp, .slice pb nb cb] 65 (0,0))):=by show _=_;rw[hW2, <-HS1.o];exact heap_new _ _
    have HX12:Hd (W2.heap[wr.heap.size]?=some (.cells #[.int .i64 xs, .int .i64 xp, .slice pa na ca] 65 (0,0))):=(HB2.o.block _ (by have:=HS1.o;omega)).trans HX1.o;have HB12:=hD (HB1.o.trans (HB2.o.mono HB1.o.size));rw[<- hW2];have hz:=HS1.o;clear hW2 y0 y1 y2;have x0:W2.cell? ⟨wr.heap.size,0,none⟩=some (.int .i64 xs):=by have h:=HX12.o;simp[World.cell?,h]
    have x1:W2.cell? ⟨wr.heap.size,1,none⟩=some (.int .i64 xp):=by have h:=HX12.o;simp[World.cell?,h]
    have x2:W2.cell? ⟨wr.heap.size,2,none⟩=some (.slice pa na ca):=by have h:=HX12.o;simp[World.cell?,h]
    have y0:W2.cell? ⟨wr.heap.size+1,0,none⟩=some (.int .i64 ys):=by have h:=HX2.o;simp[World.cell?,h]
    have y1:W2.cell? ⟨wr.heap.size+1,1,none⟩=some (.int .i64 yp):=by have h:=HX2.o;simp[World.cell?,h]
    have y2:W2.cell? ⟨wr.heap.size+1,2,none⟩=some (.slice pb nb cb):=by have h:=HX2.o;simp[World.cell?,h]
    rw[hz];clear hz;cases q
    ·have HRF:Hd (R=false):=by show _=_;rw[HE.o,HDR.o];rfl
     go_wp2_with (go_at_call 41;refine (HS.o _ HB12.o).mono ?_;rintro e w5 ⟨rfl,hb5⟩;have HB5:=hD hb5;clear hb5);go_ret;exact ⟨by rw[HRF.o];rfl,HB.o.trans ((HB12.o.trans (HB5.o.mono HB12.o.size)).mono HB.o.size)⟩
    ·go_wp2_with (go_at_call 41;refine (HS.o _ HB12.o).mono ?_;rintro e w5 ⟨rfl,hb5⟩;have HB5:=hD hb5;clear hb5);go_roundw
     case rel=>exact ⟨k+1,om,by go_num,by show _=_;rw[HE.o,HDR.o];rfl,HB.o.trans ((HB12.o.trans (HB5.o.mono HB12.o.size)).mono HB.o.size)⟩
     case measure=>exact mz
   ·obtain rfl:k=n1:=om
    have hki:¬(k:Int)<(k:Int):=om
    have HRT:Hd (R=true):=by show _=_;rw[HE.o,List.drop_eq_nil_of_le (by have:=HN1.o;omega)];rfl
    go_wp2_with fail;go_ret;exact ⟨by rw[HRT.o];rfl,HB.o⟩
 ·have HRF:Hd (R=false):=by show _=_;rw[HR.o,show decide (l.length=m.length)=false by have:=HN1.o;have:=HN2.o;simp;omega];rfl
  have hni:¬(n1:Int)=(n2:Int):=om
  go_wp2_with fail;go_ret;exact ⟨by rw[HRF.o];rfl,Below.refl _ _⟩
open Go.RowKit
structure Trc where
 hops:List Hp
 how:Int
 at_:Ed
 b:List Int
 acc:Bool
structure TrS where
 hp:Option Addr
 hn:Nat
 hc:Nat
 bp:Option Addr
 bn:Nat
 bc:Nat
def trV (s:TrS) (t:Trc):Value:= .agg #[.slice s.hp s.hn s.hc, .int .u8 t.how, .int .i64 t.at_.sw, .int .i64 t.at_.port, .slice s.bp s.bn s.bc, .bool t.acc]
structure TrOk (w:World) (s:TrS) (t:Trc):Prop where
 h:HpRow w (.slice s.hp s.hn s.hc) t.hops
 b:URow w (.slice s.bp s.bn s.bc) t.b
theorem TrOk.below {w':World} {s:TrS} {t:Trc} (h:TrOk w s t) (hb:Bl w w'):TrOk w' s t:=⟨h.h.below keepHp hb,h.b.below keepU hb⟩
def sameT (t u:Trc):Bool:=decide (t.how=u.how)&&decide (t.at_=u.at_)&&(t.acc==u.acc)&&sEq t.b u.b&&eqHp t.hops u.hops
theorem eqHp_refl (l:List Hp):eqHp l l=true:=by unfold eqHp;rw[allHp_refl];simp
theorem sameT_refl (t:Trc):sameT t t=true:=by unfold sameT;rw[eqHp_refl,sEq_refl];simp
theorem same_anyT (s1 s2:TrS) (t u:Trc) (w:World) (h1:TrOk w s1 t) (h2:TrOk w s2 u):
 Calls Tryz.prog 17 #[trV s1 t,trV s2 u] w fun r w'=>r= .returned (.bool (sameT t u))/\Bl w w':=by
 have HB:Hd (∀ W,Bl w W->Calls Tryz.prog 42 #[.slice s1.bp s1.bn s1.bc, .slice s2.bp s2.bn s2.bc] W fun r w'=>r= .returned (.bool (sEq t.b u.b))/\w'=W):=fun W hb=>bytesEq_any t.b u.b _ _ W (h1.b.below keepU hb) (h2.b.below keepU hb)
 have HH:Hd (∀ W,Bl w W->Calls Tryz.prog 43 #[.slice s1.hp s1.hn s1.hc, .slice s2.hp s2.hn s2.hc, .func (.func 41) #[] #[]] W fun r w'=>r= .returned (.bool (eqHp t.hops u.hops))/\Bl W w'):=fun W hb=>equalHp_any t.hops u.hops _ _ _ _ _ _ W (h1.h.below keepHp hb) (h2.h.below keepHp hb)
 obtain ⟨R,hR⟩:=nm (sameT t u);have HR:Hd (R=(decide (t.how=u.how)&&decide (t.at_=u.at_)&&(t.acc==u.acc)&&sEq t.b u.b&&eqHp t.hops u.hops)):=hR;rw[<- hR];clear hR h1 h2;generalize sEq t.b u.b=S at*;generalize eqHp t.hops u.hops=E at*;obtain ⟨th,how,⟨xs,xp⟩,tb,acc⟩:=t;obtain ⟨uh,how',⟨ys,yp⟩,ub,acc'⟩:=u;unfold trV;dsimp only at HR⊢;go_enter Tryz.func17,Tryz.ntmps17;go_upto_region 1 with fail
 obtain ⟨W0,hW0⟩:=nm ((w.alloc (.cells #[.slice s1.hp s1.hn s1.hc, .int .u8 how, .int .i64 xs, .int .i64 xp, .slice s1.bp s1.bn s1.bc, .bool acc] 59)).alloc (.cells #[.slice s2.hp s2.hn s2.hc, .int .u8 how', .int .i64 ys, .int .i64 yp, .slice s2.bp s2.bn s2.bc, .bool acc'] 59));have HB0:Hd (Bl w W0):=by show Below _ _ _;rw[hW0];exact bL
 have HX:Hd (TBx W0 w.heap.size (.slice s1.hp s1.hn s1.hc) (.slice s1.bp s1.bn s1.bc) how ⟨xs,xp⟩ acc):=by show _=_;rw[hW0,Below.heap_alloc _ _ _ sm];exact heap_new _ _
 have HY:Hd (TBx W0 (w.heap.size+1) (.slice s2.hp s2.hn s2.hc) (.slice s2.bp s2.bn s2.bc) how' ⟨ys,yp⟩ acc'):=by
  show _=_;rw[hW0];exact hq2 _ _ _
 rw[<- hW0];clear hW0;obtain ⟨x0,x1,x2,x3,x4,x5⟩:=HX.o.cells;obtain ⟨y0,y1,y2,y3,y4,y5⟩:=HY.o.cells;dsimp only at x2 x3 y2 y3;by_cases h1:how=how'
 ·subst h1;by_cases h2:xs=ys/\xp=yp
  ·have k1:∀W:World,(Go.binOp .eql 54 (.agg #[.int .i64 xs, .int .i64 xp]) (.agg #[.int .i64 ys, .int .i64 yp])).run Tryz.prog W= .ok (.bool true) W:=fun W=>by rw[eqlE];simp[h2]
   have HRS:Hd (R=((acc==acc')&&S&&E)):=by show _=_;rw[HR.o,h2.1,h2.2];simp
   clear h2;cases acc<;>cases acc'<;>cases S
   all_goals
    go_wp2_with (first
     |(go_at_call 42;refine (HB.o _ HB0.o).mono ?_;rintro e w1 ⟨rfl,hw⟩;obtain rfl:=hw.symm)
     |(go_at_call 43;refine (HH.o _ HB0.o).mono ?_;rintro e w2 ⟨rfl,hw⟩;have HB2:=hD hw;clear hw))
    go_ret
    first
     |exact ⟨by rw[HRS.o];rfl,HB0.o⟩
     |exact ⟨by rw[HRS.o];rfl,HB0.o.trans (HB2.o.mono HB0.o.size)⟩
  ·have k1:∀W:World,(Go.binOp .eql 54 (.agg #[.int .i64 xs, .int .i64 xp]) (.agg #[.int .i64 ys, .int .i64 yp])).run Tryz.prog W= .ok (.bool false) W:=fun W=>by rw[eqlE];congr 2;simp only[decide_eq_false_iff_not];exact h2
   have HRS:Hd (R=false):=by
    show _=_;rw[HR.o,show decide ((⟨xs,xp⟩:Ed)=⟨ys,yp⟩)=false from by simp only[decide_eq_false_iff_not];exact fun e=>h2 (by cases e;exact ⟨rfl,rfl⟩)];simp
   clear h2;go_wp2_with fail;go_ret;exact ⟨by rw[HRS.o];rfl,HB0.o⟩
 ·have HRS:Hd (R=false):=by show _=_;rw[HR.o,show decide (how=how')=false from by simp[h1]];rfl
  go_wp2_with fail;go_ret;exact ⟨by rw[HRS.o];rfl,HB0.o⟩
open Go.RowKit
structure Sm (p:Prg):Prop where
 heads:p.heads.length<=6000
 head:∀l∈p.heads,l.length<=6000
 metas:p.metas.length<=6000
 emit:p.emit.length<=6000
 steps:p.steps.length<=6000
 takes:∀x∈p.steps,x.takes.length<=6000
 skeys:∀x∈p.steps,x.keys.length<=6000
 scode:∀x∈p.steps,∀c∈x.keys,c.length<=6000
 brs:∀x∈p.steps,x.brs.length<=6000
 pats:∀x∈p.steps,∀b∈x.brs,b.pats.length<=6000
 acts:p.acts.length<=6000
 params:∀a∈p.acts,a.params.length<=6000
 body:∀a∈p.acts,a.body.length<=6000
 bcode:∀a∈p.acts,∀i∈a.body,i.e.length<=6000
 ctl:p.ctl.length<=6000
 ccode:∀i∈p.ctl,i.e.length<=6000
 tabs:p.tabs.length<=6000
 tkeys:∀x∈p.tabs,x.keys.length<=6000
 tcode:∀x∈p.tabs,∀c∈x.keys,c.length<=6000
 tacts:∀x∈p.tabs,x.acts.length<=6000
 dargs:∀x∈p.tabs,x.dargs.length<=6000
open Go.RowKit
theorem IsRow.el {p:Option Addr} {l:List (List Int)} (h:IsRow w (.slice p n c) l) (hj:j<l.length):∃b o p1 n1 c1,p=some ⟨b,o,none⟩/\b<w.heap.size/\w.cell? ⟨b,o+j,none⟩=some (.slice p1 n1 c1)/\IRow w (.slice p1 n1 c1) (l.getD j []):=by
 obtain ⟨b,o,e,h1,p1,n1,c1,h2,h3⟩:=h.get (some_getD [] hj);rw[Nat.mul_one] at h2;exact ⟨b,o,p1,n1,c1,e,h1,h2,h3⟩
theorem ActnRow.el {p:Option Addr} {l:List Actn} (h:ActnRow w (.slice p n c) l) (hj:j<l.length):∃b o p1 n1 c1 p2 n2 c2,p=some ⟨b,o,none⟩/\b<w.heap.size/\w.cell? ⟨b,o+j*2,none⟩=some (.slice p1 n1 c1)/\IRow w (.slice p1 n1 c1) (l.getD j ⟨[],[]⟩).params/\w.cell? ⟨b,o+j*2+1,none⟩=some (.slice p2 n2 c2)/\IstRow w (.slice p2 n2 c2) (l.getD j ⟨[],[]⟩).body:=by
 obtain ⟨b,o,e,h1,⟨p1,n1,c1,h2,h3⟩,⟨p2,n2,c2,h4,h5⟩⟩:=h.get (some_getD ⟨[],[]⟩ hj);exact ⟨b,o,p1,n1,c1,p2,n2,c2,e,h1,h2,h3,h4,h5⟩
structure Pkt where
 port:Int
 rest:List Int
 valid:List Bool
 fields:List (List Nat)
 metas:List Nat
 dropped:Bool
 sent:Bool
 egress:Int
 access:Bool
inductive Tr
 |leaf (n:Nod)
 |un (n:Nod) (t:Tr)
 |bin (n:Nod) (a b:Tr)
def Tr.flat:Tr->List Nod
 | .leaf n=>[n]
 | .un n t=>t.flat++[n]
 | .bin n a b=>a.flat++b.flat++[n]
def Tr.root:Tr->Nod
 | .leaf n=>n
 | .un n _=>n
 | .bin n _ _=>n
inductive WTr (p:Prg) (act:Int):Tr->Int->Prop
 |leaf (n:Nod):1<=n.op->n.op<=6->plain0P p act n=n.w->okP n.w=true->WTr p act (.leaf n) n.w
 |un (n:Nod) (t:Tr) (w:Int):isUn n.op->WTr p act t w->n.v=0->single0P n w=n.w->okP n.w=true->WTr p act (.un n t) n.w
 |bin (n:Nod) (a b:Tr) (wa wb:Int):¬(1<=n.op/\n.op<=6)->¬isUn n.op->WTr p act a wa->WTr p act b wb->n.v=0->pair0P n wa wb=n.w->okP n.w=true->WTr p act (.bin n a b) n.w
theorem WTr.root {p:Prg} {t:Tr} {w:Int} (h:WTr p act t w):t.root.w=w/\okP w=true:=by
 cases h<;>exact ⟨rfl,by assumption⟩
theorem okP_iff {w:Int}:okP w=true↔0<w/\w<129:=by unfold okP;simp
theorem bin_op {n:Nod} {a b:Int} (h:pair0P n a b=n.w) (hok:okP n.w=true):n.op=10\/(11<=n.op/\n.op<=17)\/n.op=18\/n.op=19\/n.op=20:=by
 rw[okP_iff] at hok;unfold pair0P at h;split at h
 ·omega
 ·split at h
  ·omega
  ·split at h
   ·omega
   ·split at h
    ·omega
    ·split at h
     ·omega
     ·omega
theorem foldW_app (p:Prg) (act:Int):∀(c d:List Nod) (st:List Int),foldW p act st (c++d)=(foldW p act st c).bind fun s=>foldW p act s d
 |[],d,st=>rfl
 |n::c,d,st=>by
  rw[List.cons_append,foldW,foldW];cases stepW p act st n with
  |none=>rfl
  |some s=>exact foldW_app p act c d s
theorem trees_of {p:Prg} :∀(k:Nat) (c:List Nod) (st:List Int),c.length=k->foldW p act [] c=some st->∃ts:List Tr,c=(ts.reverse.map Tr.flat).flatten/\ts.length=st.length/\∀(j:Nat) (t:Tr) (w:Int),ts[j]?=some t->st[j]?=some w->WTr p act t w:=by
 intro k;induction k with
 |zero=>
  intro c st hc h;obtain rfl:=List.length_eq_zero_iff.1 hc;simp only[foldW,Option.some.injEq] at h;subst h;exact ⟨[],rfl,rfl,fun j t w h=>by simp at h⟩
 |succ k ih=>
  intro c st hc h;obtain ⟨c',n,rfl⟩:∃c' n,c=c'++[n]:=⟨c.dropLast,c.getLast (by intro e;rw[e] at hc;cases hc),(List.dropLast_concat_getLast _).symm⟩;rw[foldW_app] at h;cases hq:foldW p act [] c' with
  |none=>rw[hq] at h;cases h
  |some s=>
   rw[hq,Option.bind_some,foldW] at h;cases hs:stepW p act s n with
   |none=>rw[hs] at h;cases h
   |some s2=>
    rw[hs] at h;simp only[foldW,Option.some.injEq] at h;subst h;obtain ⟨ts,e1,e2,e3⟩:=ih c' s (by simpa using hc) hq;unfold stepW at hs;simp only at hs;split at hs
    ·rename_i hop;split at hs
     ·rename_i hw;cases hs;refine ⟨.leaf n::ts,by rw[e1];simp[Tr.flat],by simp[e2],fun j t w hj hw2=>?_⟩;cases j with
      |zero=>
       simp only[List.getElem?_cons_zero,Option.some.injEq] at hj hw2;subst hj hw2;rw[hw.1];exact .leaf n hop.1 hop.2 hw.1 (by rw[<- hw.1];exact hw.2)
      |succ j=>exact e3 j t w (by simpa using hj) (by simpa using hw2)
     ·cases hs
    ·rename_i hop;split at hs
     ·cases hs
     ·rename_i hv;have hv0:n.v=0:=om
      split at hs
      ·rename_i hun;split at hs
       ·cases hs
       ·rename_i t r;split at hs
        ·rename_i hw;cases hs
         match ts,e2 with
         |tt::tr,e2=>
          have h0:=e3 0 tt t rfl rfl;refine ⟨.un n tt::tr,by rw[e1];simp[Tr.flat],by simpa using e2,fun j x w hj hw2=>?_⟩;cases j with
          |zero=>
           simp only[List.getElem?_cons_zero,Option.some.injEq] at hj hw2;subst hj hw2;rw[hw.1];exact .un n tt t hun h0 hv0 hw.1 (by rw[<- hw.1];exact hw.2)
          |succ j=>exact e3 (j+1) x w (by simpa using hj) (by simpa using hw2)
        ·cases hs
      ·rename_i hun;split at hs
       ·rename_i b a r;split at hs
        ·rename_i hw;cases hs
         match ts,e2 with
         |tb::ta::tr,e2=>
          have h0:=e3 0 tb b rfl rfl;have h1:=e3 1 ta a rfl rfl;refine ⟨.bin n ta tb::tr,by rw[e1];simp[Tr.flat],by simpa using e2,fun j x w hj hw2=>?_⟩;cases j with
          |zero=>
           simp only[List.getElem?_cons_zero,Option.some.injEq] at hj hw2;subst hj hw2;rw[hw.1];exact .bin n ta tb a b hop hun h1 h0 hv0 hw.1 (by rw[<- hw.1];exact hw.2)
          |succ j=>exact e3 (j+2) x w (by simpa using hj) (by simpa using hw2)
        ·cases hs
       ·cases hs
theorem tree_of {p:Prg} {c:List Nod} {w:Int} (h:widthP p act c=some w):∃t:Tr,c=t.flat/\WTr p act t w:=by
 unfold widthP at h;split at h
 ·cases h
 ·split at h
  ·rename_i w' hq;cases h;obtain ⟨ts,e1,e2,e3⟩:=trees_of _ c [w] rfl hq
   match ts,e2 with
   |[t],_=>exact ⟨t,by rw[e1];simp,e3 0 t w rfl rfl⟩
  ·cases h
def truthN (b:Bool):Nat:=if b then 1 else 0
def thereP (x:Pkt) (h f:Int):Prop:=0<=h/\h<(x.valid.length:Int)/\h<(x.fields.length:Int)/\0<=f/\f<((x.fields.getD h.toNat []).length:Int)
instance (x:Pkt) (h f:Int):Decidable (thereP x h f):=inferInstanceAs (Decidable (_/\_))
def getP (x:Pkt) (h f:Int):Nat:=if thereP x h f/\x.valid.getD h.toNat false=true then (x.fields.getD h.toNat []).getD f.toNat 0 else 0
def accP (x:Pkt) (h f:Int):Bool:=decide (thereP x h f)&& !x.valid.getD h.toNat false
def leafP (x:Pkt) (args:List Nat) (n:Nod):Nat:=
 if n.op=1 then n.v else if n.op=2 then getP x n.a n.b else if n.op=3 then x.metas.getD n.a.toNat 0 else if n.op=4 then args.getD n.a.toNat 0 else if n.op=5 then x.port.toNat else truthN (x.valid.getD n.a.toNat false)
def leafA (x:Pkt) (n:Nod):Bool:=decide (n.op=2)&&accP x n.a n.b
def un1 (n:Nod) (v:Nat):Nat:=
 if n.op=7 then (v%2 ^ sh n.w) ^^^ (2 ^ sh n.w-1) else if n.op=8 then (0+(B*B-v))%(B*B)%2 ^ sh n.w else if n.op=9 then v/2 ^ sh n.b%2 ^ sh (n.a-n.b+1) else if n.op=13 then v*2 ^ sh n.a%(B*B)%2 ^ sh n.w else v/2 ^ sh n.a
def bin2 (n:Nod) (a b:Nat) (wb:Int):Nat:=
 if n.op=10 then (a*2 ^ sh wb%(B*B)%2 ^ sh 128) ||| (b%2 ^ sh wb) else if n.op=11 then (a+b)%(B*B)%2 ^ sh n.w else if n.op=12 then (a+(B*B-b))%(B*B)%2 ^ sh n.w
 else if n.op=15 then a &&& b else if n.op=16 then a ^^^ b else if n.op=17 then a ||| b else if n.op=18 then truthN (decide (a=b)) else if n.op=19 then truthN (decide (a<b)) else truthN (decide (a<=b))
def evT (x:Pkt) (args:List Nat):Tr->Nat
 | .leaf n=>leafP x args n%2 ^ sh n.w
 | .un n t=>un1 n (evT x args t)%2 ^ sh n.w
 | .bin n a b=>bin2 n (evT x args a) (evT x args b) b.root.w%2 ^ sh n.w
theorem ev_lt (x:Pkt) (args:List Nat) (t:Tr):evT x args t<2 ^ sh t.root.w:=by
 cases t<;>exact Nat.mod_lt _ (Nat.two_pow_pos _)
theorem pow_BB:(2:Nat) ^ 128=B*B:=by decide
theorem sh_ltBB {v:Nat} {k:Int} (h:v<2 ^ sh k):v<B*B:=by
 rw[<- pow_BB];exact Nat.lt_of_lt_of_le h (Nat.pow_le_pow_right om (sh_le k))
theorem allIdx_iff {α:Type} {f:Nat->α->Bool}:∀{l:List α} {i:Nat},allIdx f i l=true↔∀(j:Nat) (x:α),l[j]?=some x->f (i+j) x=true
 |[],i=>by simp[allIdx]
 |y::l,i=>by
  rw[allIdx,Bool.and_eq_true,allIdx_iff (l:=l)];constructor
  ·rintro ⟨h1,h2⟩ j x hj;cases j with
   |zero=>simp only[List.getElem?_cons_zero,Option.some.injEq] at hj;subst hj;simpa using h1
   |succ j=>have:=h2 j x (by simpa using hj);rwa [show i+1+j=i+(j+1) by omega] at this
  ·intro h;refine ⟨by simpa using h 0 y sm,fun j x hj=>?_⟩;have:=h (j+1) x (by simpa using hj)
   rwa [show i+(j+1)=i+1+j by omega] at this
open Go.RowKit
theorem IstRow.el {p:Option Addr} {l:List Ist} (h:IstRow w (.slice p n c) l) {x:Ist} (hj:l[j]?=some x):∃b o ep en ec,p=some ⟨b,o,none⟩/\b<w.heap.size/\w.cell? ⟨b,o+j*5,none⟩=some (.int .u8 x.k)/\w.cell? ⟨b,o+j*5+1,none⟩=some (.int .i64 x.a)/\w.cell? ⟨b,o+j*5+2,none⟩=some (.int .i64 x.b)/\w.cell? ⟨b,o+j*5+3,none⟩=some (.slice ep en ec)/\w.cell? ⟨b,o+j*5+4,none⟩=some (.int .i64 x.to)/\CRow w (.slice ep en ec) x.e:=by
 obtain ⟨b,o,e,h1,c0,c1,c2,⟨ep,en,ec,c3,hr⟩,c4⟩:=h.get hj;exact ⟨b,o,ep,en,ec,e,h1,c0,c1,c2,c3,c4,hr⟩
end Go.Proofs.YtikilcbpogfgkaaGreat
