/- Lemmas. -/
import Derived.Test.YtikilcbpogfgkaaGreatJI22
set_option maxHeartbeats 6400000
set_option maxRecDepth 100000
namespace Go.Proofs.YtikilcbpogfgkaaGreat
open Go.RowKit
variable {w' W:World} {g h base:Nat} {a b:Int} {x:Pkt} {r f m:Value} {fs:List Value} {vb:Bool}
theorem zero_flat (n:Nat):(madeCells #[.int .u64 0, .int .u64 0] (n*2)).toList=(List.replicate n 0).flatMap numC:=by
 have h1:(madeCells #[.int .u64 0, .int .u64 0] (n*2)).toList=List.replicate (n*2) (.int .u64 0):=by
  rw[List.eq_replicate_iff];refine ⟨by rw[Array.length_toList,size_madeCells],fun b hb=>?_⟩;unfold madeCells at hb;rw[Array.mem_toList_iff,Array.mem_map] at hb;obtain ⟨a,-,rfl⟩:=hb;rcases Nat.mod_two_eq_zero_or_one a with h|h
  ·show (#[Value.int .u64 0, .int .u64 0][a%2]!)=_;rw[h];rfl
  show (#[Value.int .u64 0, .int .u64 0][a%2]!)=_;rw[h];rfl
 have h2:(List.replicate n 0).flatMap numC=List.replicate (n*2) (.int .u64 0):=by
  rw[List.eq_replicate_iff];refine ⟨by rw[flat_len flatGN.len,List.length_replicate],fun b hb=>?_⟩;obtain ⟨a,ha,hb⟩:=List.mem_flatMap.1 hb;rw[List.mem_replicate] at ha;rw[ha.2] at hb;have e:numC 0=[.int .u64 0, .int .u64 0]:=by simp[numC]
  rw[e] at hb;simpa using hb
 rw[h1,h2]
section
variable {base:Nat} {w w':World} {X:Nat} {x:Pkt} {r v f m:Value} {fs:List Value}
end
open Go.RowKit Stab
def FewB (l:List Ent):Prop:=∀k:Nat,k<l.length->(eAt l k).pats.length<=1000000/\(eAt l k).args.length<=1000000
theorem chooseB_any (l:List Ent) (tab:Int) (ks:List Nat) (lv kv:Value) (w:World) (hl:ERow w lv l) (hk:NRow w kv ks) (hn:l.length<=40) (hf:FewB l):
 Calls Tryz.prog 123 #[lv, .int .i64 tab,kv] w (RetBest w l tab ks):=by
 obtain ⟨la,lc,rfl,hc1,hc2⟩:=hl.shape;obtain ⟨ka,kc,rfl,kc1,kc2⟩:=hk.shape;have HO:=hD (order_any l tab _ w hl hn);have HL:=hD hl;have HK:=hD hk;have HF:=hD hf;obtain ⟨n,hnn⟩:=nm l.length;rw[<- hnn] at hn hc1 HL HO⊢;have HN:=hD hnn;clear hl hk hf hnn;go_enter Tryz.func123,Tryz.ntmps123;go_wp2_with fail;refine HO.o.mono ?_;rintro e w1 ⟨v,xs,rfl,hx,ho,hb⟩;obtain ⟨xa,xc,rfl,xc1,xc2,hxa⟩:=hx.shape;have HX:=hD hx;have HXA:=hD hxa;have HOD:=hD ho;have HB:=hD hb;obtain ⟨m,hm⟩:=nm xs.length;rw[<- hm] at xc1 HX⊢;have hm40:m<=40:=by have:=ho.len;have:=sel_len l tab l.length;have:=HN.o;omega
 have HM:=hD hm;clear hx ho hb hm hxa HO;go_wp2_with fail;go_loopw [8,13] (fun u i wr=>∃k:Nat,k<=m/\i= .int .i64 k/\Hd (∀ j,j<k->matB (eAt l (fnOf xs j)) tab ks=false)/\Hd (Bl w1 wr)) (fun _ i _=>m-(intOf i).toNat)
 case atStart=>exact ⟨0,zl,rfl,fun j h=>absurd h om,Below.refl _ _⟩
 case round=>
  obtain ⟨k,hk,rfl,HJ,HW⟩:=hrel;by_cases hlt:k<m
  ·obtain ⟨y,hy1,hy2⟩:∃y:Nat,fnOf xs k=(y:Int)/\y<n:=by
    have hmem:fnOf xs k∈xs:=by rw[fnOf_at (by have:=HM.o;omega)];exact List.getElem_mem _
    have:=HOD.o.mem.1 hmem;have:=HN.o;exact ⟨(fnOf xs k).toNat,om,om⟩
   obtain ⟨xb,xo,rfl,hxb,hxe⟩:=HXA.o (by have:=HM.o;omega);have x0:=hxe k (by have:=HM.o;omega);rw[<- HW.o.cell (p:=⟨xb,xo+k,none⟩) hxb] at x0;have e0:xs.getD k 0=(y:Int):=hy1;rw[e0] at x0;have hBW:=HB.o.trans (HW.o.mono HB.o.size);obtain ⟨lb,lo,lc2,he2,-,hej⟩:=(HL.o.below keepE hBW).at (eAt_nat l y (by have:=HN.o;omega));simp only[Value.slice.injEq] at he2;obtain ⟨rfl,-,-⟩:=he2;obtain ⟨p1,n1,c1,r1,m1,d1,a0,a1,a2,a3,a4,a5,hp,hr⟩:=hej.six;obtain ⟨r,hr2⟩:=nm (matB (eAt l y) tab ks);have hpl:(eAt l y).pats.length<=1000000:=by have:=(HF.o y (by have:=HN.o;omega)).1;omega
   have HC:Hd (CR 129 #[.agg #[.int .i64 (eAt l y).tab, .slice p1 n1 c1, .int .i64 (eAt l y).len, .int .i64 (eAt l y).prio, .int .i64 (eAt l y).act, .slice r1 m1 d1], .int .i64 tab, .slice ka ks.length kc] wr (.bool r)):=by
    rw[hr2];exact matches_any (eAt l y) tab ks _ _ wr ⟨_,_,rfl,hp,hr⟩ (HK.o.below keepN hBW) hpl
   have HR:Hd (r=matB (eAt l (fnOf xs k)) tab ks):=by show _=_;rw[hr2,hy1]
   have HY:Hd (fnOf xs k=(y:Int)):=hy1;clear hr2 hy1 e0 hBW hej hp hr hxe hpl;generalize (eAt l y).tab=t1 at*;generalize (eAt l y).len=l1 at*;generalize (eAt l y).prio=q1 at*;generalize (eAt l y).act=s1 at*;have z1:(k:Int)<(m:Int):=om;have z2:(y:Int)<(n:Int):=om;go_wp2_with fail;refine HC.o.mono ?_;rintro e w2 ⟨rfl,hb2⟩;have HW2:=hD (HW.o.trans (hb2.mono HW.o.size));clear hb2 HC a0 a1 a2 a3 a4 a5 x0;cases r
   ·go_wp2_with fail;go_roundw
    case rel=>
     refine ⟨k+1,om,by go_num,fun j hj=>?_,HW2⟩;by_cases e:j=k
     ·subst e;exact HR.o.symm
     exact HJ.o j om
    case measure=>exact mz
   ·go_wp2_with fail;go_ret;refine ⟨(y:Int),rfl,?_,HB.o.trans (HW2.o.mono HB.o.size)⟩;rw[<- HY.o];have hkx:k<xs.length:=by have:=HM.o;omega
    exact HOD.o.best hkx HJ.o HR.o.symm
  obtain rfl:k=m:=om;go_wp2_with fail;go_ret;exact ⟨-1,rfl,HOD.o.none (by rw[<- HM.o];exact HJ.o),HB.o.trans (HW.o.mono HB.o.size)⟩
theorem lookupB_any (l:List Ent) (tab:Int) (ks:List Nat) (a0:Int) (g0:List Nat) (lv kv gv:Value) (w:World) (hl:ERow w lv l) (hk:NRow w kv ks) (hg:NRow w gv g0) (hn:l.length<=40) (hf:FewB l) (hg0:g0.length<=6000):
 Calls Tryz.prog 115 #[lv, .int .i64 tab,kv, .agg #[.int .i64 a0,gv]] w (RetRunO w (Look l tab ks a0 g0)):=by
 obtain ⟨la,lc,rfl,hc1,hc2⟩:=hl.shape;obtain ⟨ka,kc,rfl,kc1,kc2⟩:=hk.shape;obtain ⟨ga,gc,rfl,gc1,gc2⟩:=hg.shape;have HC:Hd (∀ W,Bl w W->Calls Tryz.prog 123 #[.slice la l.length lc, .int .i64 tab, .slice ka ks.length kc] W (RetBest W l tab ks)):=fun W hW=>chooseB_any l tab ks _ _ W (hl.below keepE hW) (hk.below keepN hW) hn hf
 have HL:=hD hl;have HG:=hD hg;have HF:=hD hf;have HCL:Hd (∀ (g:List Nat) (v:Value) (W:World),NRow W v g->g.length<=1000000->Calls Tryz.prog 124 #[v] W fun e w'=>∃v',e= .returned v'/\NOwn W.heap.size w' v' g/\Bl W w'):=fun g v W h1 h2=>cloneN_any g v W h1 h2
 clear hl hk hg hf;go_enter Tryz.func115,Tryz.ntmps115;go_wp2_with fail;have hb0:Bl w (((w.alloc (.cells #[.int .i64 a0, .slice ga g0.length gc] 119)).alloc (.cells #[.int .i64 0, .slice none 0 0] 119)).alloc (.cells #[.int .i64 a0, .slice ga g0.length gc] 119)):=bL;generalize hX:((w.alloc (.cells #[.int .i64 a0, .slice ga g0.length gc] 119)).alloc (.cells #[.int .i64 0, .slice none 0 0] 119)).alloc (.cells #[.int .i64 a0, .slice ga g0.length gc] 119)=X at hb0;have x0:X.cell? ⟨w.heap.size+1,0,none⟩=some (.int .i64 0):=by rw[<- hX];simp[go_sem]
 have x1:X.cell? ⟨w.heap.size+1,1,none⟩=some (.slice none 0 0):=by rw[<- hX];simp[go_sem]
 have x2:X.cell? ⟨w.heap.size+1+1,0,none⟩=some (.int .i64 a0):=by rw[<- hX];simp[go_sem]
 have x3:X.cell? ⟨w.heap.size+1+1,1,none⟩=some (.slice ga g0.length gc):=by rw[<- hX];simp[go_sem]
 have xs:X.heap.size=w.heap.size+1+1+1:=by rw[<- hX];simp
 have xf:∀j,X.frozen? ⟨w.heap.size+1,j,none⟩=false/\X.frozen? ⟨w.heap.size+1+1,j,none⟩=false:=fun j=>by rw[<- hX];simp[go_sem]
 have hXW:∀W,Bl X W->(W.cell? ⟨w.heap.size+1,0,none⟩=some (.int .i64 0)/\W.cell? ⟨w.heap.size+1,1,none⟩=some (.slice none 0 0)/\W.cell? ⟨w.heap.size+1+1,0,none⟩=some (.int .i64 a0)/\W.cell? ⟨w.heap.size+1+1,1,none⟩=some (.slice ga g0.length gc))/\
  (∀ j,W.frozen? ⟨w.heap.size+1,j,none⟩=false)/\(∀ j,W.frozen? ⟨w.heap.size+1+1,j,none⟩=false)/\w.heap.size+1+1<W.heap.size/\Bl w W:=fun W hW=>
  ⟨⟨(hW.cell (p:=⟨w.heap.size+1,0,none⟩) (by show w.heap.size+1<_;omega)).trans x0,(hW.cell (p:=⟨w.heap.size+1,1,none⟩) (by show w.heap.size+1<_;omega)).trans x1,(hW.cell (p:=⟨w.heap.size+1+1,0,none⟩) (by show w.heap.size+1+1<_;omega)).trans x2,(hW.cell (p:=⟨w.heap.size+1+1,1,none⟩) (by show w.heap.size+1+1<_;omega)).trans x3⟩,
   fun j=>(hW.frozen (p:=⟨w.heap.size+1,j,none⟩) (by show w.heap.size+1<_;omega)).trans (xf j).1,fun j=>(hW.frozen (p:=⟨w.heap.size+1+1,j,none⟩) (by show w.heap.size+1+1<_;omega)).trans (xf j).2,by have:=hW.size;omega,hb0.trans (hW.mono hb0.size)⟩
 have HXW:=hD hXW;have HCX:=hD (HC.o X hb0);clear hX x0 x1 x2 x3 xs xf hXW HC hb0;refine HCX.o.mono ?_;rintro e w1 ⟨c,rfl,hbest,hb1⟩;obtain ⟨⟨x0,x1,x2,x3⟩,f1,f2,hs1,hbw⟩:=HXW.o w1 hb1;have HB:=hD hbest;have HW1:=hD hbw;have f10:=f1 0;have f11:=f1 1;have f20:=f2 0;have f21:=f2 1;clear hbest hb1 hbw HCX f1 f2;obtain ⟨N,hN⟩:=nm w.heap.size;have HNN:=hD hN;rw[<- hN] at x0 x1 x2 x3 f10 f11 f20 f21 hs1⊢;clear hN;by_cases hc:c<0
 ·have HCC:=hD (HCL.o g0 _ w1 (HG.o.below keepN HW1.o) om);go_wp2_with fail;refine HCC.o.mono ?_;rintro e w2 ⟨v',rfl,ho,hb2⟩;obtain ⟨vp,vc,rfl⟩:=ho.shape;have HO:=hD ho;have y0:=(hb2.cell (p:=⟨N+1,0,none⟩) (by show N+1<_;omega)).trans x0;have y1:=(hb2.cell (p:=⟨N+1,1,none⟩) (by show N+1<_;omega)).trans x1;have y2:=(hb2.cell (p:=⟨N+1+1,0,none⟩) (by show N+1+1<_;omega)).trans x2;have y3:=(hb2.cell (p:=⟨N+1+1,1,none⟩) (by show N+1+1<_;omega)).trans x3;have g10:=(hb2.frozen (p:=⟨N+1,0,none⟩) (by show N+1<_;omega)).trans f10;have g11:=(hb2.frozen (p:=⟨N+1,1,none⟩) (by show N+1<_;omega)).trans f11;have g21:=(hb2.frozen (p:=⟨N+1+1,1,none⟩) (by show N+1+1<_;omega)).trans f21;have HW2:=hD (HW1.o.trans (hb2.mono HW1.o.size));have hs2:=hb2.size;clear ho hb2 HCC x0 x1 x2 x3 f10 f11 f20 f21;go_wp2_with fail;refine bodyPost_ret (v:= .agg #[.int .i64 a0, .slice vp g0.length vc]) (by simp[results,Tryz.results115,go_sem,y0,y1]) rfl ?_;refine ⟨a0,g0,_,rfl,⟨c,HB.o,by rw[if_pos hc],by rw[if_pos hc]⟩,(HO.o.at fun k hk=>?_).mono (by have:=HNN.o;omega),((HW2.o.setCell (by have:=HNN.o;show _<=N+1+1;omega) _).setCell (by have:=HNN.o;show _<=N+1;omega) _).setCell (by have:=HNN.o;show _<=N+1;omega) _⟩;exact gW2
 obtain ⟨y,rfl⟩:∃y:Nat,c=(y:Int):=⟨c.toNat,om⟩;have hyl:y<l.length:=by
  rcases HB.o with ⟨h,-⟩|⟨-,h,-⟩
  ·omega
  omega
 obtain ⟨lb,lo,lc2,he2,hlb,hej⟩:=HL.o.at (eAt_nat l y hyl);simp only[Value.slice.injEq] at he2;obtain ⟨rfl,-,-⟩:=he2;obtain ⟨p1,n1,c1,r1,m1,d1,a0',a1',a2',a3',a4,a5,hp,hr⟩:=hej.six;clear a0' a1' a2' a3' hp;have hr2:=hr;obtain ⟨r1',d1',he3,-,-⟩:=hr2.shape;simp only[Value.slice.injEq] at he3;obtain ⟨rfl,rfl,rfl⟩:=he3;have b4:=(HW1.o.cell (p:=⟨lb,lo+y*6+4,none⟩) hlb).trans a4;have b5:=(HW1.o.cell (p:=⟨lb,lo+y*6+5,none⟩) hlb).trans a5;have hne1:lb≠N+1:=by have:=HNN.o;omega
 have hne2:lb≠N+1+1:=by have:=HNN.o;omega
 have hgl:(eAt l (y:Int)).args.length<=1000000:=(HF.o y hyl).2;have HR:=hD hr;have HA:Hd ((eAt l (y:Int)).act=(eAt l (y:Int)).act/\(eAt l (y:Int)).args=(eAt l (y:Int)).args):=⟨rfl,rfl⟩;have HLK:Hd (∀ a g,a=(eAt l (y:Int)).act->g=(eAt l (y:Int)).args->Look l tab ks a0 g0 a g):=fun a g h1 h2=>⟨(y:Int),HB.o,by rw[if_neg om];exact h1,by rw[if_neg om];exact h2⟩
 obtain ⟨act,hact⟩:=nm ((eAt l (y:Int)).act);obtain ⟨g,hgg⟩:=nm ((eAt l (y:Int)).args);have HL2:=hD (HLK.o act g hact hgg);rw[<- hact] at b4;rw[<- hgg] at b5 hgl HR;clear hact hgg HLK HA a4 a5 hej hr hr2;have HCC:∀p q:Value,Hd (Calls Tryz.prog 124 #[.slice r1 g.length d1] ((w1.setCell ⟨N+1+1,0,none⟩ p).setCell ⟨N+1+1,1,none⟩ q) fun e w'=>∃v',e= .returned v'/\NOwn ((w1.setCell ⟨N+1+1,0,none⟩ p).setCell ⟨N+1+1,1,none⟩ q).heap.size w' v' g/\Below ((w1.setCell ⟨N+1+1,0,none⟩ p).setCell ⟨N+1+1,1,none⟩ q).heap.size ((w1.setCell ⟨N+1+1,0,none⟩ p).setCell ⟨N+1+1,1,none⟩ q) w'):=fun p q=>
  HCL.o g _ _ (HR.o.below keepN ((HW1.o.setCell (by have:=HNN.o;show _<=N+1+1;omega) _).setCell (by have:=HNN.o;show _<=N+1+1;omega) _)) om
 have z1:(y:Int)<(l.length:Int):=om;go_wp2_with fail;have HCY:=HCC (.int .i64 act) (.slice r1 g.length d1);have hby:Bl w ((w1.setCell ⟨N+1+1,0,none⟩ (.int .i64 act)).setCell ⟨N+1+1,1,none⟩ (.slice r1 g.length d1)):=(HW1.o.setCell (by have:=HNN.o;show _<=N+1+1;omega) _).setCell (by have:=HNN.o;show _<=N+1+1;omega) _;generalize hY:(w1.setCell ⟨N+1+1,0,none⟩ (.int .i64 act)).setCell ⟨N+1+1,1,none⟩ (.slice r1 g.length d1)=Y at HCY hby;have u0:Y.cell? ⟨N+1,0,none⟩=some (.int .i64 0):=by rw[<- hY];simp[go_sem,x0]
 have u1:Y.cell? ⟨N+1,1,none⟩=some (.slice none 0 0):=by rw[<- hY];simp[go_sem,x1]
 have u2:Y.cell? ⟨N+1+1,0,none⟩=some (.int .i64 act):=by rw[<- hY];simp[go_sem,x2]
 have u3:Y.cell? ⟨N+1+1,1,none⟩=some (.slice r1 g.length d1):=by rw[<- hY];simp[go_sem,x3]
 have v10:Y.frozen? ⟨N+1,0,none⟩=false:=by rw[<- hY];simp[go_sem,f10]
 have v11:Y.frozen? ⟨N+1,1,none⟩=false:=by rw[<- hY];simp[go_sem,f11]
 have v21:Y.frozen? ⟨N+1+1,1,none⟩=false:=by rw[<- hY];simp[go_sem,f21]
 have hsy:N+1+1<Y.heap.size:=by rw[<- hY];simp;omega
 have HBY:=hD hby;clear hY hby HCC x0 x1 x2 x3 f10 f11 f20 f21 b4 b5 hs1;refine HCY.o.mono ?_;rintro e w2 ⟨v',rfl,ho,hb2⟩;obtain ⟨vp,vc,rfl⟩:=ho.shape;have HO:=hD ho;have y0:=(hb2.cell (p:=⟨N+1,0,none⟩) (by show N+1<_;omega)).trans u0;have y1:=(hb2.cell (p:=⟨N+1,1,none⟩) (by show N+1<_;omega)).trans u1;have y2:=(hb2.cell (p:=⟨N+1+1,0,none⟩) (by show N+1+1<_;omega)).trans u2;have y3:=(hb2.cell (p:=⟨N+1+1,1,none⟩) (by show N+1+1<_;omega)).trans u3;have g10:=(hb2.frozen (p:=⟨N+1,0,none⟩) (by show N+1<_;omega)).trans v10;have g11:=(hb2.frozen (p:=⟨N+1,1,none⟩) (by show N+1<_;omega)).trans v11;have g21:=(hb2.frozen (p:=⟨N+1+1,1,none⟩) (by show N+1+1<_;omega)).trans v21;have HW2:=hD (HBY.o.trans (hb2.mono HBY.o.size));have hs2:=hb2.size;clear ho hb2 HCY u0 u1 u2 u3 v10 v11 v21;go_wp2_with fail;refine bodyPost_ret (v:= .agg #[.int .i64 act, .slice vp g.length vc]) (by simp[results,Tryz.results115,go_sem,y0,y1]) rfl ?_;refine ⟨act,g,_,rfl,HL2.o,(HO.o.at fun k hk=>?_).mono (by have:=HNN.o;omega),((HW2.o.setCell (by have:=HNN.o;show _<=N+1+1;omega) _).setCell (by have:=HNN.o;show _<=N+1;omega) _).setCell (by have:=HNN.o;show _<=N+1;omega) _⟩;exact gW2
open Go.RowKit
theorem RowAt.map {α:Type} {sz:Nat} {At:World->Nat->Nat->α->Prop} {w:World} {v:Value} {l:List α} (h:RowAt sz At w v l) (hs:w.heap.size<=w'.heap.size) (hk:∀b o x,At w b o x->At w' b o x):RowAt sz At w' v l:=by
 obtain ⟨pa,cap,h1,h2,h3,h4,h5⟩:=h;refine ⟨pa,cap,h1,h2,h3,h4,fun h0=>?_⟩;obtain ⟨b,o,e1,e2,e4⟩:=h5 h0;exact ⟨b,o,e1,Nat.lt_of_lt_of_le e2 hs,fun j x hj=>hk b _ x (e4 j x hj)⟩
structure AR (b:Nat) (O0:Obj) (J:World->Nat->Prop) (W W':World):Prop where
 low:Below b W W'
 nrow:∀v l,NRow W v l->NRow W' v l
 zz:∀g:Nat,b<=g->(W.heap[g]?=some O0\/J W g)->(W'.heap[g]?=some O0\/J W' g)
 p1:∀g:Nat,b<=g->J W g->J W' g
section
variable {b:Nat} {O0:Obj} {J:World->Nat->Prop} {W W':World}
theorem AR.refl (b:Nat) (O0:Obj) (J:World->Nat->Prop) (W:World):AR b O0 J W W:=⟨Below.refl _ _,fun _ _=>id,fun _ _=>id,fun _ _=>id⟩
theorem AR.of_below (hJ:∀(g:Nat) (W W':World),Bl W W'->J W g->J W' g) (hb:b<=W.heap.size) (h:Bl W W'):AR b O0 J W W':=
 ⟨h.mono hb,fun _ _ e=>e.below keepN h,fun g _ e=>e.imp (fun q=>(h.block g (lt_some q)).trans q) (hJ g W W' h),fun g _=>hJ g W W' h⟩
theorem NRow.past {v:Value} {l:List Nat} (h:NRow W v l) (hs:W.heap.size<=W'.heap.size) (ho:∀k,k≠g->W'.heap[k]?=W.heap[k]?) (hn:∀i n,W.cell? ⟨g,i,none⟩≠some (.int .u64 n)):NRow W' v l:=
 RowAt.map h hs fun b o x ⟨h1,h2,h3⟩=>by
  have hbg:b≠g:=by rintro rfl;exact hn _ _ h2
  have hc:∀j,W'.cell? ⟨b,j,none⟩=W.cell? ⟨b,j,none⟩:=fun j=>by unfold World.cell?;rw[ho b hbg]
  exact ⟨h1,(hc _).trans h2,(hc _).trans h3⟩
theorem AR.store (hg:b<=g) (hlow:Below b W W') (hs:W.heap.size<=W'.heap.size) (ho:∀k,k≠g->W'.heap[k]?=W.heap[k]?) (hn:∀i n,W.cell? ⟨g,i,none⟩≠some (.int .u64 n)) (hJg:J W' g) (hJo:∀k,k≠g->J W k->J W' k):AR b O0 J W W':=by
 refine ⟨hlow,fun v l h=>NRow.past h hs ho hn,fun k hk e=>?_,fun k hk e=>?_⟩
 ·by_cases q:k=g
  ·subst q;exact .inr hJg
  exact e.imp (fun q2=>(ho k q).trans q2) (hJo k q)
 by_cases q:k=g
 ·subst q;exact hJg
 exact hJo k q e
end
def R0:Obj:= .cells #[.int .i64 0, .slice none 0 0] 119 (0,0)
def R1 (a:Int) (u:Value):Obj:= .cells #[.int .i64 a,u] 119 (0,0)
def JR (a:Int) (l:List Nat) (W:World) (g:Nat):Prop:=∃u,W.heap[g]?=some (R1 a u)/\NRow W u l
theorem jr_cells {l:List Nat} (h:W.heap[g]?=some R0\/JR a l W g):∃x y,W.heap[g]?=some (R1 x y)/\(∀ n,y≠ .int .u64 n):=by
 rcases h with h|⟨u,h,h2⟩
 ·exact ⟨0, .slice none 0 0,h,fun n e=>by cases e⟩
 obtain ⟨p,c,rfl,-⟩:=h2.shape;exact ⟨a,_,h,fun n e=>by cases e⟩
open Go.RowKit Stab
structure WPos (p:Prg):Prop where
 head:∀l∈p.heads,∀k∈l,(0:Int)<k
 metas:∀k∈p.metas,(0:Int)<k
theorem WPos.at {p:Prg} (h:WPos p) {i j:Nat} (hi:i<p.heads.length) (hj:j<(p.heads.getD i []).length):(0:Int)<(p.heads.getD i []).getD j 0:=
 h.head _ (gM_ (some_getD (l:=p.heads) (j:=i) [] hi)) _ (gM_ (some_getD (l:=p.heads.getD i []) (j:=j) 0 hj))
theorem r1_cells {x:Int} {y:Value} (h:W.heap[g]?=some (R1 x y)):W.cell? ⟨g,0,none⟩=some (.int .i64 x)/\W.cell? ⟨g,1,none⟩=some y/\W.frozen? ⟨g,0,none⟩=false/\W.frozen? ⟨g,1,none⟩=false:=by
 unfold R1 at h;refine ⟨?_,?_,?_,?_⟩<;>simp[World.cell?,World.frozen?,h]
structure ApOk (p:Prg) (l:List Ent):Prop where
 keys:∀i:Nat,i<p.tabs.length->(tblAt p i).keys.length<=6000/\(∀ c∈(tblAt p i).keys,c.length<=6000)/\∀c∈(tblAt p i).keys,∃wt,widthP p (-1) c=some wt
 act:∀(i:Nat) (ks:List Nat),i<p.tabs.length->0<=lookA l i ks (tblAt p i).dact/\lookA l i ks (tblAt p i).dact<(p.acts.length:Int)/\(lookG l i ks (tblAt p i).dargs).length=(actAt p (lookA l i ks (tblAt p i).dact)).params.length
 body:∀j:Nat,j<p.acts.length->mayInstsP p j (actAt p j).body=true/\∀i∈(actAt p j).body,i.e.length<=6000
 few:l.length<=40/\FewB l
def apF (p:Prg) (l:List Ent) (act:Int):Pkt->Ist->Pkt:=if act<0 then applyP p l else fun x _=>x
def runA (p:Prg) (l:List Ent) (act:Int) (args:List Nat) (c:List Ist) (x:Pkt):Pkt:=runFrom p (apF p l act) args c 0 x
section
variable {p:Prg} {s:PgS} {q k k':KS} {x y y':Pkt} {w wr w' w2:World}
end
open Go.RowKit Stab
theorem mayP_parts {p:Prg} (h:mayP p=true):headsP p=true/\p.metas.all okP=true/\mayInstsP p (-1) p.ctl=true/\allIdx (fun i (a:Actn)=>decide (a.params.length<=8)&&a.params.all okP&&mayInstsP p (i:Int) a.body) 0 p.acts=true/\p.tabs.all (mayTabP p)=true:=by
 unfold mayP at h;simp only[Bool.and_eq_true] at h;obtain ⟨⟨⟨⟨⟨⟨⟨⟨⟨⟨h1,h2⟩,h3⟩,h4⟩,h5⟩,h6⟩,h7⟩,h8⟩,h9⟩,h10⟩,h11⟩:=h;exact ⟨h1,h3,h7,h10,h11⟩
theorem ok_pos {w:Int} (h:okP w=true):0<w:=(okP_iff.1 h).1
theorem wpos_of {p:Prg} (h:mayP p=true):WPos p:=by
 obtain ⟨h1,h2,-,-,-⟩:=mayP_parts h;constructor
 ·intro l hl k hk;unfold headsP at h1;rw[Bool.and_eq_true] at h1;obtain ⟨j,hj⟩:=List.getElem?_of_mem hl;have h3:=allIdx_iff.1 h1.2 j l hj;rw[Bool.and_eq_true,Bool.and_eq_true] at h3;exact ok_pos (List.all_eq_true.1 h3.1.2 k hk)
 intro k hk;exact ok_pos (List.all_eq_true.1 h2 k hk)
theorem body_of {p:Prg} (h:mayP p=true) (hS:Sm p) {j:Nat} (hj:j<p.acts.length):mayInstsP p j (actAt p j).body=true/\∀i∈(actAt p j).body,i.e.length<=6000:=by
 obtain ⟨-,-,-,h1,-⟩:=mayP_parts h;have hx:p.acts[j]?=some (actAt p j):=by
  unfold actAt;rw[Int.toNat_natCast];exact some_getD (l:=p.acts) (j:=j) _ hj
 have h2:=allIdx_iff.1 h1 j _ hx;rw[Bool.and_eq_true,Nat.zero_add] at h2;exact ⟨h2.2,hS.bcode _ (gM_ hx)⟩
theorem mayRun_parts {p:Prg} {ls:List Int} {g:List Nat} (h:mayRunP p ls a g=true):0<=a/\a<(p.acts.length:Int)/\g.length=(actAt p a).params.length:=by
 unfold mayRunP at h;simp only[Bool.and_eq_true,decide_eq_true_eq] at h;exact ⟨h.1.1.1,h.1.1.2,h.2.1⟩
theorem choose_tab (l:List Ent) (tab:Int) (ks:List Nat):∀k:Nat,k<=l.length->chooseF l tab ks k<0\/∃j:Nat,j<k/\chooseF l tab ks k=(j:Int)/\matB (eAt l (j:Int)) tab ks=true
 |0,_=>by left;unfold chooseF;decide
 |k+1,hk=>by
  rw[chooseF];split
  ·rename_i h;exact .inr ⟨k,om,rfl,h.1⟩
  ·rcases choose_tab l tab ks k om with h|⟨j,h1,h2,h3⟩
   ·exact .inl h
   ·exact .inr ⟨j,om,h2,h3⟩
theorem tab_at {p:Prg} {i:Nat} (hi:i<p.tabs.length):p.tabs[i]?=some (tblAt p i):=by
 unfold tblAt;rw[Int.toNat_natCast];exact some_getD (l:=p.tabs) (j:=i) _ hi
theorem apok_of {p:Prg} {l:List Ent} (h:mayP p=true) (hS:Sm p) (he:∀y∈l,EntOk p y) (hn:l.length<=40) (hf:FewB l):ApOk p l:=by
 obtain ⟨-,-,-,-,h5⟩:=mayP_parts h;have ht:∀i:Nat,i<p.tabs.length->mayTabP p (tblAt p i)=true:=fun i hi=>List.all_eq_true.1 h5 _ (gM_ (tab_at hi))
 refine ⟨fun i hi=>?_,fun i ks hi=>?_,fun j hj=>body_of h hS hj,hn,hf⟩
 ·have hm:=gM_ (tab_at hi);refine ⟨hS.tkeys _ hm,hS.tcode _ hm,fun c hc=>?_⟩;have h1:=ht i hi;unfold mayTabP at h1;simp only[Bool.and_eq_true] at h1;obtain ⟨j,hj⟩:=List.getElem?_of_mem hc;have h2:=allIdx_iff.1 h1.1.1.2 j c hj;rw[Bool.and_eq_true,Option.isSome_iff_exists] at h2;exact h2.1
 have h1:=ht i hi;unfold mayTabP at h1;simp only[Bool.and_eq_true] at h1;have hd:=mayRun_parts h1.2;unfold lookA lookG;by_cases hc:chooseF l i ks l.length<0
 ·rw[if_pos hc,if_pos hc];exact hd
 rw[if_neg hc,if_neg hc];rcases choose_tab l i ks l.length lr with q|⟨j,q1,q2,q3⟩
 ·exact absurd q hc
 rw[q2];have hjm:l[j]?=some (eAt l (j:Int)):=by
  unfold eAt;rw[Int.toNat_natCast];exact some_getD (l:=l) (j:=j) _ q1
 exact mayRun_parts (he _ (gM_ hjm)).run
theorem fewB_of {l:List Ent} (h:∀e∈l,e.pats.length<=1000000/\e.args.length<=1000000):FewB l:=by
 intro k hk;have hjm:l[k]?=some (eAt l (k:Int)):=by
  unfold eAt;rw[Int.toNat_natCast];exact some_getD (l:=l) (j:=k) _ hk
 exact h _ (gM_ hjm)
open Go.RowKit Stab
def bitP (b:List Int) (k:Nat):Nat:=(bits .and .u8 ((b.getD (k/8) 0)/2 ^ (7-k%8)) 1).toNat
def bitsN (b:List Int) (s:Nat):Nat->Nat
 |0=>0
 |k+1=>(bitsN b s k*2 ^ sh 1%(B*B)%2 ^ sh 128) ||| bitP b (s+k)
def offN (ws:List Int) (f:Nat):Nat:=((ws.take f).map Int.toNat).sum
def fldN (b:List Int) (ws:List Int) (f:Nat):Nat:=bitsN b (offN ws f) (ws.getD f 0).toNat
def tkF (b:List Int) (ws:List Int):Nat->List Nat->List Nat
 |0,l=>l
 |f+1,l=>(tkF b ws f l).set f (fldN b ws f)
def wdsP (p:Prg) (h:Nat):List Int:=p.heads.getD h []
def sizeP (p:Prg) (h:Nat):Int:=(sumI (wdsP p h)).tdiv 8
def tookP (p:Prg) (x:Pkt) (h:Nat):Pkt:={ x with rest:=x.rest.drop (sizeP p h).toNat,valid:=x.valid.set h true,fields:=x.fields.set h (tkF x.rest (wdsP p h) (wdsP p h).length (x.fields.getD h [])) }
def takeP (p:Prg) (x:Pkt) (h:Nat):Option Pkt:=if x.valid.getD h false=true\/(x.rest.length:Int)<sizeP p h then none else some (tookP p x h)
def takesP (p:Prg):List Int->Pkt->Pkt×Bool
 |[],x=>(x,true)
 |h::t,x=>match takeP p x h.toNat with
  |some y=>takesP p t y
  |none=>(x,false)
def brP (b:Brn) (ks:List Nat):Bool:=matB ⟨0,b.pats,0,0,0,[]⟩ 0 ks
def nextP (s:Stp) (x:Pkt):Int×Pkt:=
 if s.keys.length=0 then (s.to,x) else
 ((
  match s.brs.findIdx? (fun b=>brP b (keysP x s.keys)) with
  |some i=>(s.brs.getD i ⟨[],0⟩).to
  |none=>-2),seenAll x s.keys)
def stpAt (p:Prg) (i:Int):Stp:=p.steps.getD i.toNat ⟨[],[],[],0⟩
def parseF (p:Prg):Nat->Nat->Int->Pkt->Pkt×Bool
 |0,_,_,x=>(x,false)
 |f+1,many,i,x=>
  if 0<=i/\i<(p.steps.length:Int) then
   (
    let y:=takesP p (stpAt p i).takes x
    if y.2=true then (let z:=nextP (stpAt p i) y.1;parseF p f (many+1) (if p.steps.length<=many then -2 else z.1) z.2) else (y.1,false))
  else (x,decide (i= -1))
def newP (p:Prg) (port:Int) (b:List Int):Pkt:=⟨port,b,List.replicate p.heads.length false,p.heads.map fun l=>List.replicate l.length 0,List.replicate p.metas.length 0,false,false,0,false⟩
def parseP (p:Prg) (port:Int) (b:List Int):Pkt×Bool:=parseF p (p.steps.length+2) 0 0 (newP p port b)
structure Psd (p:Prg) (x y:Pkt):Prop where
 fits:PktF p y
 port:y.port=x.port
 dropped:y.dropped=x.dropped
 sent:y.sent=x.sent
 egress:y.egress=x.egress
 rest:∃n,y.rest=x.rest.drop n
theorem Psd.trans {p:Prg} {y z:Pkt} (h:Psd p x y) (k:Psd p y z):Psd p x z:=by
 obtain ⟨n,hn⟩:=h.rest;obtain ⟨m,hm⟩:=k.rest;exact ⟨k.fits,k.port.trans h.port,k.dropped.trans h.dropped,k.sent.trans h.sent,k.egress.trans h.egress,n+m,by rw[hm,hn,List.drop_drop]⟩
theorem Psd.refl {p:Prg} (h:PktF p x):Psd p x x:=⟨h,rfl,rfl,rfl,rfl,0,by simp⟩
theorem bits_one (z:Int):0<=bits .and .u8 z 1/\bits .and .u8 z 1<2:=by
 have h:(BitVec.ofInt 8 z &&& BitVec.ofInt 8 1).toNat<=1:=by
  rw[BitVec.toNat_and];exact Nat.and_le_right
 have e:bits .and .u8 z 1=(((BitVec.ofInt 8 z &&& BitVec.ofInt 8 1).toNat:Nat):Int):=by
  show IntKind.u8.wrap (((BitVec.ofInt 8 z &&& BitVec.ofInt 8 1).toNat:Nat):Int)=_;generalize (BitVec.ofInt 8 z &&& BitVec.ofInt 8 1).toNat=n at h⊢;have:n=0\/n=1:=om;rcases this with rfl|rfl<;>decide
 rw[e];omega
theorem bitP_lt (b:List Int) (k:Nat):bitP b k<2:=by have:=bits_one ((b.getD (k/8) 0)/2 ^ (7-k%8));unfold bitP;omega
theorem bitsN_lt (b:List Int) (s:Nat):∀k,bitsN b s k<2 ^ k
 |0=>by simp[bitsN]
 |k+1=>by
  have ih:=bitsN_lt b s k;unfold bitsN;refine Nat.or_lt_two_pow ?_ (Nat.lt_of_lt_of_le (bitP_lt _ _) ?_)
  ·refine Nat.lt_of_le_of_lt (Nat.le_trans (Nat.mod_le _ _) (Nat.mod_le _ _)) ?_;have e:sh 1=1:=by decide
   rw[e,Nat.pow_succ];omega
  ·exact Nat.pow_le_pow_right (n:=2) om (show 1<=k+1 by omega)
theorem tkF_len (b:List Int) (ws:List Int):∀(f:Nat) (l:List Nat),(tkF b ws f l).length=l.length
 |0,l=>rfl
 |f+1,l=>by unfold tkF;rw[List.length_set];exact tkF_len b ws f l
theorem tkF_get (b:List Int) (ws:List Int):∀(f:Nat) (l:List Nat) (j:Nat),j<f->j<l.length->(tkF b ws f l)[j]?=some (fldN b ws j)
 |f+1,l,j,hj,hl=>by
  unfold tkF;by_cases e:j=f
  ·subst e;rw[List.getElem?_set_self (by rw[tkF_len];exact hl)]
  ·rw[List.getElem?_set_ne om];exact tkF_get b ws f l j om hl
structure HdOk (p:Prg):Prop where
 w:∀(h:Nat) (l:List Int),p.heads[h]?=some l->(∀ k∈l,0<k/\k<129)/\sumI l%8=0/\0<=sumI l/\sumI l<=256/\l.length<=16
 pos:∀(h:Nat) (l:List Int),p.heads[h]?=some l->0<sumI l
theorem sumI_pos:∀(l:List Int),(∀ k∈l,0<k)->0<=sumI l:=by
 intro l h;have:∀(l:List Int) (a:Int),0<=a->(∀ k∈l,0<k)->0<=l.foldl (·+·) a:=by
  intro l;induction l with
  |nil=>intro a ha _;exact ha
  |cons x l ih=>intro a ha hl;exact ih _ (by have:=hl x sm;show 0<=a+x;omega) fun k hk=>hl k (by simp[hk])
 exact this l 0 om h
theorem hdOk_of {p:Prg} (h:mayP p=true):HdOk p:=by
 obtain ⟨h1,-,-,-,-⟩:=mayP_parts h;unfold headsP at h1;rw[Bool.and_eq_true] at h1;refine ⟨fun i l hl=>?_,fun i l hl=>?_⟩;rotate_left
 ·have h2:=allIdx_iff.1 h1.2 i l hl;rw[Bool.and_eq_true,Bool.and_eq_true] at h2;obtain ⟨⟨h3,h4⟩,-⟩:=h2;have h3:=of_decide_eq_true h3;have h6:∀k∈l,0<k/\k<129:=fun k hk=>okP_iff.1 (List.all_eq_true.1 h4 k hk)
  match l,h3,h6 with
  |a::r,_,h6=>
   have h7:=sumI_pos r fun k hk=>(h6 k (by simp[hk])).1
   have h8:=(h6 a sm).1;show 0<List.foldl (·+·) 0 (a::r);rw[List.foldl_cons,foldl_add];show 0<0+a+sumI r;omega
 have h2:=allIdx_iff.1 h1.2 i l hl;rw[Bool.and_eq_true,Bool.and_eq_true] at h2;obtain ⟨⟨h3,h4⟩,h5⟩:=h2;have h3:=of_decide_eq_true h3;have h5:=of_decide_eq_true h5;have h6:∀k∈l,0<k/\k<129:=fun k hk=>okP_iff.1 (List.all_eq_true.1 h4 k hk)
 exact ⟨h6,h5.1,sumI_pos l fun k hk=>(h6 k hk).1,h5.2.1,h3.2⟩
theorem wdsP_some {p:Prg} {l:List Int} (hl:p.heads[h]?=some l):wdsP p h=l:=by unfold wdsP;rw[List.getD_eq_getElem?_getD,hl];rfl
theorem tookP_ok {p:Prg} (hd:HdOk p) (hx:PktF p x) (h:Nat) (hh:h<p.heads.length):Psd p x (tookP p x h):=by
 have hf:h<x.fields.length:=by rw[hx.f];exact hh
 have hv:h<x.valid.length:=by rw[hx.v];exact hh
 obtain ⟨l,hl⟩:∃l,x.fields[h]?=some l:=⟨_,gE_ hf⟩;obtain ⟨ws,hws⟩:∃l,p.heads[h]?=some l:=⟨_,gE_ hh⟩;have hll:=hx.fl h l hl;have hwd:=wdsP_some hws;have hgl:x.fields.getD h []=l:=by rw[List.getD_eq_getElem?_getD,hl];rfl
 have hgw:p.heads.getD h []=ws:=hwd;rw[hgw] at hll;obtain ⟨hw1,-,-,-,-⟩:=hd.w h ws hws;refine ⟨⟨?_,?_,hx.m,hx.mf,?_,?_,?_⟩,rfl,rfl,rfl,rfl,_,rfl⟩
 ·show (x.valid.set h true).length=_;rw[List.length_set];exact hx.v
 ·show (x.fields.set h _).length=_;rw[List.length_set];exact hx.f
 ·intro j m hj;have hj:(x.fields.set h (tkF x.rest (wdsP p h) (wdsP p h).length (x.fields.getD h [])))[j]?=some m:=hj;by_cases e:j=h
  ·subst e;rw[List.getElem?_set_self hf] at hj;simp only[Option.some.injEq] at hj;rw[<- hj,tkF_len,hgl,hll,hgw]
  rw[List.getElem?_set_ne (fun q=>e q.symm)] at hj;exact hx.fl j m hj
 ·intro j m hj k a hk;have hj:(x.fields.set h (tkF x.rest (wdsP p h) (wdsP p h).length (x.fields.getD h [])))[j]?=some m:=hj;by_cases e:j=h
  ·subst e;rw[List.getElem?_set_self hf] at hj;simp only[Option.some.injEq] at hj;subst hj;have hkl:=(gL_ hk).1;rw[tkF_len,hgl,hll] at hkl;rw[tkF_get _ _ _ _ _ (by rw[hwd];exact hkl) (by rw[hgl,hll];exact hkl)] at hk;simp only[Option.some.injEq] at hk;subst hk;unfold fldN;rw[hgw,hwd];have hwk:ws.getD k 0=ws[k]:=by rw[List.getD_eq_getElem?_getD,gE_ hkl];rfl
   obtain ⟨w1,w2⟩:=hw1 _ (List.getElem_mem hkl);rw[hwk];unfold fitsP;refine decide_eq_true (Nat.mod_eq_of_lt ?_);have:=bitsN_lt x.rest (offN ws k) ws[k].toNat;have e:sh ws[k]=ws[k].toNat:=by unfold sh;omega
   rw[e];exact this
  rw[List.getElem?_set_ne (fun q=>e q.symm)] at hj;exact hx.ff j m hj k a hk
 intro j m hj hvj;have hj:(x.fields.set h (tkF x.rest (wdsP p h) (wdsP p h).length (x.fields.getD h [])))[j]?=some m:=hj;have hvj:(x.valid.set h true).getD j false=false:=hvj;by_cases e:j=h
 ·subst e;rw[List.getD_eq_getElem?_getD,List.getElem?_set_self hv] at hvj;cases hvj
 rw[List.getElem?_set_ne (fun q=>e q.symm)] at hj;rw[List.getD_eq_getElem?_getD,List.getElem?_set_ne (fun q=>e q.symm), <-List.getD_eq_getElem?_getD] at hvj;exact hx.z j m hj hvj
theorem takesP_ok {p:Prg} (hd:HdOk p):∀(t:List Int) (x:Pkt),PktF p x->(∀ h∈t,0<=h/\h<(p.heads.length:Int))->Psd p x (takesP p t x).1
 |[],x,hx,_=>Psd.refl hx
 |h::t,x,hx,ht=>by
  unfold takesP takeP;obtain ⟨h0,h1⟩:=ht h sm;by_cases e:x.valid.getD h.toNat false=true\/(x.rest.length:Int)<sizeP p h.toNat
  ·rw[if_pos e];exact Psd.refl hx
  ·rw[if_neg e];have q:=tookP_ok hd hx h.toNat om;exact q.trans (takesP_ok hd t _ q.fits fun k hk=>ht k (by simp[hk]))
theorem PktF.seenAll {p:Prg} (hx:PktF p x) (cs:List (List Nod)):PktF p (seenAll x cs):=⟨hx.v,hx.f,hx.m,hx.mf,hx.fl,hx.ff,hx.z⟩
theorem nextP_ok {p:Prg} {s:Stp} (hx:PktF p x):Psd p x (nextP s x).2:=by
 unfold nextP;split
 ·exact Psd.refl hx
 exact ⟨hx.seenAll _,rfl,rfl,rfl,rfl,0,by simp[Go.Proofs.YtikilcbpogfgkaaGreat.seenAll]⟩
structure StOk (p:Prg):Prop where
 takes:∀(i:Nat) (s:Stp),p.steps[i]?=some s->(∀ h∈s.takes,0<=h/\h<(p.heads.length:Int))/\(∀ b∈s.brs,b.pats.length=s.keys.length)/\∀c∈s.keys,∃wt,widthP p (-1) c=some wt
theorem stpAt_mem {p:Prg} {i:Int} (h0:0<=i) (h1:i<(p.steps.length:Int)):p.steps[i.toNat]?=some (stpAt p i):=by
 unfold stpAt;exact some_getD (l:=p.steps) (j:=i.toNat) _ om
theorem parseF_ok {p:Prg} (hd:HdOk p) (hs:StOk p):∀(f many:Nat) (i:Int) (x:Pkt),PktF p x->Psd p x (parseF p f many i x).1
 |0,_,_,x,hx=>Psd.refl hx
 |f+1,many,i,x,hx=>by
  unfold parseF;split
  ·rename_i h;have q:=takesP_ok hd (stpAt p i).takes x hx (hs.takes _ _ (stpAt_mem h.1 h.2)).1;dsimp only;split
   ·exact (q.trans (nextP_ok q.fits)).trans (parseF_ok hd hs f _ _ _ (nextP_ok q.fits).fits)
   ·exact q
  ·exact Psd.refl hx
theorem newP_ok (p:Prg) (port:Int) (b:List Int):PktF p (newP p port b):=by
 unfold newP;refine ⟨by simp,by simp,by simp,?_,?_,?_,?_⟩
 ·intro j a h;have h:=gM_ h;obtain ⟨-,rfl⟩:=List.mem_replicate.1 h;unfold fitsP;simp
 ·intro j l h;simp only[List.getElem?_map,Option.map_eq_some_iff] at h;obtain ⟨ws,h1,rfl⟩:=h;rw[List.length_replicate,List.getD_eq_getElem?_getD,h1];rfl
 ·intro j l h k a hk;simp only[List.getElem?_map,Option.map_eq_some_iff] at h;obtain ⟨ws,h1,rfl⟩:=h;obtain ⟨-,rfl⟩:=List.mem_replicate.1 (gM_ hk);unfold fitsP;simp
 intro j l h _ a ha;simp only[List.getElem?_map,Option.map_eq_some_iff] at h;obtain ⟨ws,h1,rfl⟩:=h;exact (List.mem_replicate.1 ha).2
theorem parseP_ok {p:Prg} (hd:HdOk p) (hs:StOk p) (port:Int) (b:List Int):Psd p (newP p port b) (parseP p port b).1:=parseF_ok hd hs _ _ _ _ (newP_ok p port b)
theorem stOk_of {p:Prg} (h:mayP p=true):StOk p:=by
 have hst:p.steps.all (mayStepP p)=true:=by
  unfold mayP at h;simp only[Bool.and_eq_true] at h;obtain ⟨⟨⟨⟨⟨⟨⟨⟨⟨⟨h1,h2⟩,h3⟩,h4⟩,h5⟩,h6⟩,h7⟩,h8⟩,h9⟩,h10⟩,h11⟩:=h;first|exact h9|exact h8|exact h6|exact h5|exact h4|exact h2
 refine ⟨fun i s hi=>?_⟩;have h1:=List.all_eq_true.1 hst s (gM_ hi);unfold mayStepP at h1;rw[Bool.and_eq_true,Bool.and_eq_true] at h1;obtain ⟨⟨-,h2⟩,h3⟩:=h1;refine ⟨fun k hk=>of_decide_eq_true (List.all_eq_true.1 h2 k hk),?_⟩;by_cases e:s.keys.length=0
 ·rw[if_pos e] at h3;have h3:=of_decide_eq_true h3;have e1:s.brs=[]:=List.eq_nil_of_length_eq_zero h3;have e2:s.keys=[]:=List.eq_nil_of_length_eq_zero e;rw[e1,e2];exact ⟨by simp,by simp⟩
 rw[if_neg e,Bool.and_eq_true] at h3;have h4:=allIdx_iff.1 h3.2;refine ⟨fun b hb=>?_,fun c hc=>?_⟩
 ·obtain ⟨c,hc⟩:∃c,s.keys[0]?=some c:=⟨_,gE_ om⟩;have h5:=h4 0 c hc;revert h5;cases hw:widthP p (-1) c with
  |none=>simp
  |some w=>
   intro h5;have h6:=List.all_eq_true.1 h5 b hb;rw[Bool.and_eq_true] at h6;exact (of_decide_eq_true h6.1).2.2
 obtain ⟨j,hj⟩:=List.getElem?_of_mem hc;have h5:=h4 j c hj;revert h5;cases hw:widthP p (-1) c with
 |none=>simp
 |some w=>exact fun _=>⟨w,rfl⟩
open Go.RowKit
structure Fr (S:Nat->Prop) (w w':World):Prop where
 os:w'.os=w.os
 tape:w'.tape=w.tape
 output:w'.output=w.output
 size:w.heap.size<=w'.heap.size
 block:∀k,k<w.heap.size->¬S k->w'.heap[k]?=w.heap[k]?
section
variable {S S':Nat->Prop} {w w' w2:World}
theorem Fr.refl (S:Nat->Prop) (w:World):Fr S w w:=⟨rfl,rfl,rfl,Nat.le_refl _,fun _ _ _=>rfl⟩
theorem Fr.trans (h:Fr S w w') (k:Fr S w' w2):Fr S w w2:=⟨k.os.trans h.os,k.tape.trans h.tape,k.output.trans h.output,Nat.le_trans h.size k.size,fun i hi hs=>(k.block i (Nat.lt_of_lt_of_le hi h.size) hs).trans (h.block i hi hs)⟩
theorem Fr.of_below (h:Bl w w'):Fr S w w':=⟨h.os,h.tape,h.output,h.size,fun k hk _=>h.block k hk⟩
theorem Fr.more (h:Fr S w w') (hs:∀k,S k->S' k):Fr S' w w':=⟨h.os,h.tape,h.output,h.size,fun k hk hn=>h.block k hk fun e=>hn (hs k e)⟩
theorem Fr.below (h:Fr S w w') {b:Nat} (hb:b<=w.heap.size) (hs:∀k,S k->b<=k):Below b w w':=⟨h.os,h.tape,h.output,h.size,fun k hk=>h.block k om fun e=>by have:=hs k e;omega⟩
theorem Fr.set {X:Nat} {i:Nat} (h:Fr S w w') (hX:S X\/w.heap.size<=X) (u:Value):Fr S w (w'.setCell ⟨X,i,none⟩ u):=
 ⟨h.os,h.tape,h.output,by simpa [World.setCell] using h.size,fun k hk hn=>(heap_setCell_other w' _ k u (fun e=>by rcases hX with q|q;exact hn (by rw[show k=X from e];exact q);exact absurd (show k=X from e) om)).trans (h.block k hk hn)⟩
theorem Fr.cell (h:Fr S w w') {p:Addr} {v:Value} (hp:¬S p.block) (hc:w.cell? p=some v):w'.cell? p=some v:=
 (World.cell?_of_block (w:=w) (h.block p.block (cell_there hc).1 hp)).trans hc
end
abbrev Pkt.acc (x:Pkt) (b:Bool):Pkt:={ x with access:=x.access||b }
theorem PktB.setAcc {w:World} {X:Nat} {v:Value} (h:PktB base w X x r v f m fs):PktB base (w.setCell ⟨X,8,none⟩ (.bool true)) X (x.acc true) r v f m fs:=
 h.put (i:=8) (u:= .bool true) (by simp[pktCells]) rfl rfl rfl rfl
theorem PktB.acc0 {w:World} {X:Nat} {v:Value} (h:PktB base w X x r v f m fs):PktB base w X (x.acc false) r v f m fs:=by
 have:x.acc false=x:=by simp[Pkt.acc]
 rw[this];exact h
def PS (X:Nat) (r v f m:Value) (fs:List Value) (k:Nat):Prop:=k=X\/∃z∈[r,v,f,m]++fs,z.ownBlock=some k
theorem PktB.kept {w:World} {X:Nat} {v:Value} (h:PktB base w X x r v f m fs) (hk:∀k,PS X r v f m fs k->w'.heap[k]?=w.heap[k]?):PktB base w' X x r v f m fs:=
 ⟨(hk X (.inl rfl)).trans h.st,own_far h.hr fun k e=>hk k (.inr ⟨r,by simp,e⟩),own_far h.hv fun k e=>hk k (.inr ⟨v,by simp,e⟩),own_far h.hf fun k e=>hk k (.inr ⟨f,by simp,e⟩),
  fun i u l h1 h2=>(h.hfs i u l h1 h2).far fun k e=>hk k (.inr ⟨u,by simp[gM_ h1],e⟩),h.hm.far fun k e=>hk k (.inr ⟨m,by simp,e⟩),h.lo,h.nd⟩
theorem PktB.blk {w:World} {X:Nat} {v:Value} (h:PktB base w X x r v f m fs) {k:Nat} (hk:PS X r v f m fs k):base<=k/\k<w.heap.size:=by
 rcases hk with rfl|⟨z,hz,e⟩
 ·exact ⟨h.lo,h.lt⟩
 rcases List.mem_append.1 hz with q|q
 ·simp only[List.mem_cons,List.not_mem_nil,or_false] at q;rcases q with rfl|rfl|rfl|rfl
  ·exact own_size h.hr e
  ·exact own_size h.hv e
  ·exact own_size h.hf e
  exact own_size h.hm.1 e
 obtain ⟨i,hi⟩:=List.getElem?_of_mem q;have hlt:=(gL_ hi).1;exact own_size (h.hfs i z _ hi (gE_ (by rw[<- h.flen];exact hlt))).1 e
structure PkAt (w:World) (X h f:Nat) (vg vc vn fg fn fc ug uc un:Nat) (vb:Bool) (y z:Int):Prop where
 c2:w.cell? ⟨X,2,none⟩=some (.slice (some ⟨vg,0,none⟩) vn vc)
 c3:w.cell? ⟨X,3,none⟩=some (.slice (some ⟨fg,0,none⟩) fn fc)
 cv:w.cell? ⟨vg,h,none⟩=some (.bool vb)
 cf:w.cell? ⟨fg,h,none⟩=some (.slice (some ⟨ug,0,none⟩) un uc)
 n0:w.cell? ⟨ug,f*2,none⟩=some (.int .u64 y)
 n1:w.cell? ⟨ug,f*2+1,none⟩=some (.int .u64 z)
theorem PktB.reads {w:World} {X:Nat} {v:Value} (hP:PktB base w X x r v f m fs) {j n:Nat} {l:List Nat} (hl:x.fields[h]?=some l) (hn:l[j]?=some n) (hv:x.valid[h]?=some vb):
 ∃vg vc fg fc ug uc,PkAt w X h j vg vc x.valid.length fg x.fields.length fc ug uc l.length vb ((n/B:Nat):Int) ((n%B:Nat):Int):=by
 obtain ⟨vg,vc,rfl,-,hv0⟩:=hP.getValid hv;obtain ⟨fg,fc,u,rfl,-,hf0,hu,hnu⟩:=hP.getRow hl;have hlt:=(gL_ hn).1;obtain ⟨ug,uc,rfl,-⟩:=own_some hnu.1 om;obtain ⟨nb,no,e,-,-,y1,y2⟩:=hnu.row.get hn;simp only[Option.some.injEq,Addr.mk.injEq,and_true] at e;obtain ⟨rfl,rfl⟩:=e;rw[Nat.zero_add] at y1 y2;exact ⟨vg,vc,fg,fc,ug,uc,hP.cell (i:=2) rfl,hP.cell (i:=3) rfl,hv0,hf0,y1,y2⟩
theorem lt_of_some {o:Obj} (h:W.heap[g]?=some o):g<W.heap.size:=(gA_ h).1
def Bx2 (W:World) (g:Nat) (a b:Int):Prop:=W.heap[g]?=some (.cells #[.int .u64 a, .int .u64 b] 82 (0,0))
theorem Bx2.cells (h:Bx2 W g a b):W.cell? ⟨g,0,none⟩=some (.int .u64 a)/\W.cell? ⟨g,1,none⟩=some (.int .u64 b)/\W.frozen? ⟨g,0,none⟩=false/\W.frozen? ⟨g,1,none⟩=false:=by
 unfold Bx2 at h;refine ⟨?_,?_,?_,?_⟩<;>simp[World.cell?,World.frozen?,h]
theorem has_true {w:World} {X:Nat} {v:Value} (hP:PktB base w X x r v f m fs) (h:Nat) (h1:h<x.valid.length) (h2:h<x.fields.length):
 Calls Tryz.prog 57 #[.pointer (some ⟨X,0,none⟩), .int .i64 (h:Int)] w fun e w'=>e= .returned (.bool true)/\Bl w w':=by
 obtain ⟨vg,vc,rfl,-,-⟩:=hP.getValid (gE_ h1);obtain ⟨fg,fc,u,rfl,-,-,-,-⟩:=hP.getRow (gE_ h2);have c2:=hP.cell (i:=2) rfl;have c3:=hP.cell (i:=3) rfl;have q1:(h:Int)<(x.valid.length:Int):=om;have q2:(h:Int)<(x.fields.length:Int):=om;have q0:¬(h:Int)<0:=om;clear hP h1 h2;generalize x.valid.length=vn at*;generalize x.fields.length=fn at*;go_enter Tryz.func57,Tryz.ntmps57;go_wp2_with fail;go_ret;exact ⟨rfl,bL⟩
theorem get_any {w:World} {X:Nat} {v:Value} (hP:PktB base w X x r v f m fs) {j n:Nat} {l:List Nat} (hl:x.fields[h]?=some l) (hn:l[j]?=some n) (hv:x.valid[h]?=some vb):
 Calls Tryz.prog 130 #[.pointer (some ⟨X,0,none⟩), .int .i64 (h:Int), .int .i64 (j:Int)] w fun e w'=>e= .returned (numV (if vb then n else 0))/\PktB base w' X (x.acc !vb) r v f m fs/\Fr (·=X) w w':=by
 have h1:h<x.valid.length:=(gL_ hv).1;have h2:h<x.fields.length:=(gL_ hl).1;have h3:j<l.length:=(gL_ hn).1;obtain ⟨vg,vc,fg,fc,ug,uc,hA⟩:=hP.reads hl hn hv;have HAS:Hd (∀ W,Bl w W->CR 57 #[.pointer (some ⟨X,0,none⟩), .int .i64 (h:Int)] W (.bool true)):=fun W hb=>has_true (hP.below hb) h h1 h2
 have HRD:Hd (∀ W,Bl w W->PkAt W X h j vg vc x.valid.length fg x.fields.length fc ug uc l.length vb ((n/B:Nat):Int) ((n%B:Nat):Int)):=fun W hb=>by
  obtain ⟨a1,a2,a3,a4,a5,a6⟩:=hA;exact ⟨(hb.cell (cell_there a1).1).trans a1,(hb.cell (cell_there a2).1).trans a2,(hb.cell (cell_there a3).1).trans a3,(hb.cell (cell_there a4).1).trans a4,(hb.cell (cell_there a5).1).trans a5,(hb.cell (cell_there a6).1).trans a6⟩
 have HP:=hD hP;have hXl:=hP.lt;have HN:Hd (numV n= .agg #[.int .u64 ((n/B:Nat):Int), .int .u64 ((n%B:Nat):Int)]):=rfl;have i1:(h:Int)<(x.valid.length:Int):=om;have i2:(h:Int)<(x.fields.length:Int):=om;have i3:(j:Int)<(l.length:Int):=om;have i4:¬(l.length:Int)<=(j:Int):=om;have i0:¬(j:Int)<0:=om;clear hP hl hn hv hA h1 h2 h3;generalize ((n/B:Nat):Int)=n0 at*;generalize ((n%B:Nat):Int)=n2 at*;generalize x.valid.length=vn at*;generalize x.fields.length=fn at*;generalize l.length=ll at*;go_enter Tryz.func130,Tryz.ntmps130;go_upto_region 1 with fail;obtain ⟨W0,hW0⟩:=nm (w.alloc (.cells #[.int .u64 0, .int .u64 0] 82));have HB0:Hd (Bl w W0):=by show Below _ _ _;rw[hW0];exact bL
 have HX0:Hd (Bx2 W0 w.heap.size 0 0):=by show _=_;rw[hW0];exact heap_new _ _
 rw[<- hW0];clear hW0;obtain ⟨c2,c3,cv,cf,d0,d1⟩:=HRD.o W0 HB0.o;go_upto_region 3 with (go_at_call 57;refine (HAS.o _ HB0.o).mono ?_;rintro e w1 ⟨rfl,hb1⟩;clear c2 c3 cv cf d0 d1;have HX1:Hd (Bx2 w1 w.heap.size 0 0):=(hb1.block _ (lt_of_some HX0.o)).trans HX0.o;have HB1:=hD (HB0.o.trans (hb1.mono HB0.o.size));clear hb1;obtain ⟨c2,c3,cv,cf,d0,d1⟩:=HRD.o w1 HB1.o);have HP1:Hd (PktB base w1 X x r v f m fs):=HP.o.below HB1.o;cases vb
 ·have e8:=HP1.o.cell (i:=8) rfl;have f8:=HP1.o.free 8;go_upto_region 5 with fail;obtain ⟨W2,hW2⟩:=nm (w1.setCell ⟨X,8,none⟩ (.bool true));have HP2:Hd (PktB base W2 X (x.acc true) r v f m fs):=by show PktB _ _ _ _ _ _ _ _ _;rw[hW2];exact HP1.o.setAcc
  have HF2:Hd (Fr (·=X) w W2):=by show Fr _ _ _;rw[hW2];exact (Fr.of_below (S:=(·=X)) HB1.o).set (X:=X) (.inl rfl) _
  have hx2:Bx2 W2 w.heap.size 0 0:=by rw[hW2];exact (heap_setCell_other w1 _ _ _ (by show w.heap.size≠X;omega)).trans HX1.o
  have HS2:Hd (w.heap.size<W2.heap.size):=lt_of_some hx2;rw[<- hW2];clear hW2 c2 c3 cv cf d0 d1 e8 f8;obtain ⟨b0,b1,g0,g1⟩:=hx2.cells;have HW0:Hd (W2.heap.size>w.heap.size):=HS2.o;have hXX:=hXl;go_wp2_with fail;refine bodyPost_ret (v:= .agg #[.int .u64 0, .int .u64 0]) ?_ rfl ⟨rfl,?_,?_⟩
  ·simp[results,Tryz.results130,go_sem,b0,b1]
  ·exact HP2.o.kept fun k hk=>set2_other W2 w.heap.size 0 1 _ _ (by have:=(HP.o.blk hk).2;omega)
  exact (HF2.o.set (.inr lr) _).set (.inr lr) _
 ·obtain ⟨b0,b1,g0,g1⟩:=HX1.o.cells;go_wp2_with fail;refine bodyPost_ret (v:= .agg #[.int .u64 n0, .int .u64 n2]) ?_ rfl ⟨by rw[<- HN.o],?_,?_⟩
  ·simp[results,Tryz.results130,go_sem,b0,b1]
  ·exact HP1.o.acc0.kept fun k hk=>set2_other w1 w.heap.size 0 1 _ _ (by have:=(HP.o.blk hk).2;omega)
  exact ((Fr.of_below HB1.o).set (.inr lr) _).set (.inr lr) _
theorem among_any {w:World} {v:Value} {l:List Nat} (hv:NRow w v l) {i n:Nat} (hn:l[i]?=some n):
 Calls Tryz.prog 131 #[v, .int .i64 (i:Int)] w (RetNum w n):=by
 obtain ⟨p,c,rfl,-⟩:=hv.shape;obtain ⟨b,o,hp,hb,-,y1,y2⟩:=hv.get hn;have hlt:=(gL_ hn).1;have hbw:b<w.heap.size:=hb;have hlc:=hv.ln;subst hp;have i1:(i:Int)<(l.length:Int):=om;have i2:¬(l.length:Int)<=(i:Int):=om;obtain ⟨z3,z4,he,e3,e4⟩:=numV_parts n;have HE:=hD he;rw[<- e3] at y1;rw[<- e4] at y2;unfold RetNum;rw[he];clear hv hn he e3 e4 hlc hb hlt;generalize l.length=ll at*;go_enter Tryz.func131,Tryz.ntmps131;go_wp2_with fail;exact bodyPost_ret (v:= .agg #[.int .u64 (z3:Int), .int .u64 (z4:Int)]) (by simp[results,Tryz.results131,go_sem]) rfl ⟨rfl,bL⟩
structure BR (n g:Nat) (n0 n1:Int) (W W':World):Prop where
 low:Below n W W'
 oth:∀k,k<W.heap.size->k≠g->W'.heap[k]?=W.heap[k]?
 kb:Bx2 W g n0 n1->Bx2 W' g n0 n1
 ob:(∃ a b,Bx2 W g a b)->∃a b,Bx2 W' g a b
structure BS (n g:Nat) (W0 W:World):Prop where
 low:Below n W0 W
 oth:∀k,k<W0.heap.size->k≠g->W.heap[k]?=W0.heap[k]?
 ob:∃a b,Bx2 W g a b
section
variable {n g:Nat} {n0 n1:Int} {W0 W W':World}
theorem BR.refl (n g:Nat) (n0 n1:Int) (W:World):BR n g n0 n1 W W:=⟨Below.refl _ _,fun _ _ _=>rfl,id,id⟩
theorem Bx2.below (h:Bx2 W g a b) (hb:Bl W W'):Bx2 W' g a b:=(hb.block _ (lt_of_some h)).trans h
theorem BR.of_below (hn:n<=W.heap.size) (hb:Bl W W'):BR n g n0 n1 W W':=⟨hb.mono hn,fun k hk _=>hb.block k hk,fun h=>h.below hb,fun ⟨a,b,h⟩=>⟨a,b,h.below hb⟩⟩
theorem Bx2.put (h:Bx2 W g a b) (x y:Int):Bx2 ((W.setCell ⟨g,0,none⟩ (.int .u64 x)).setCell ⟨g,1,none⟩ (.int .u64 y)) g x y:=by
 have h1:(W.setCell ⟨g,0,none⟩ (.int .u64 x)).heap[g]?=some (.cells #[.int .u64 x, .int .u64 b] 82 (0,0)):=heap_setCell_same W g 0 _ _ _ h;exact heap_setCell_same (W.setCell ⟨g,0,none⟩ (.int .u64 x)) g 1 _ _ _ h1
theorem BR.put (hn:n<=g) (h:Bx2 W g a b):BR n g n0 n1 W ((W.setCell ⟨g,0,none⟩ (.int .u64 n0)).setCell ⟨g,1,none⟩ (.int .u64 n1)):=
 ⟨((Below.refl n W).setCell hn _).setCell hn _,fun _k _ hk=>set2_other W g 0 1 _ _ hk,fun _=>h.put _ _,fun _=>⟨_,_,h.put _ _⟩⟩
theorem BS.step (h:BS n g W0 W) (hr:BR n g n0 n1 W W'):BS n g W0 W':=⟨h.low.trans hr.low,fun k hk hg=>(hr.oth k (Nat.lt_of_lt_of_le hk h.low.size) hg).trans (h.oth k hk hg),hr.ob h.ob⟩
theorem BS.start (h:Bx2 W g a b):BS n g W W.drew:=⟨Below.drew br,fun _ _ _=>rfl,⟨_,_,h⟩⟩
theorem BS.cell (h:BS n g W0 W) {p:Addr} {v:Value} (hp:p.block≠g) (hc:W0.cell? p=some v):W.cell? p=some v:=(World.cell?_of_block (w:=W0) (h.oth p.block (cell_there hc).1 hp)).trans hc
end
end Go.Proofs.YtikilcbpogfgkaaGreat
