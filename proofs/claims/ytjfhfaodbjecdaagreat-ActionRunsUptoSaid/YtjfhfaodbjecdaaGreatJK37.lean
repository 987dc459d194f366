/- Lemmas. -/
import Derived.Test.YtjfhfaodbjecdaaGreatJK36
set_option maxHeartbeats 6400000
set_option maxRecDepth 100000
namespace Go.Proofs.YtjfhfaodbjecdaaGreat
open Go.RowKit Stab
variable {l:List Nat} {g b:Nat} {W:World} {a:Int}
def sj (l:List Ent):Prop:=∀k:Nat,k<l.length->(bz l k).pats.length<=1000000/\(bz l k).args.length<=1000000
theorem qI (l:List Ent) (tab:Int) (ks:List Nat) (lv kv:Value) (w:World) (hl:ERow w lv l) (hk:NRow w kv ks) (hn:l.length<=40) (hf:sj l):
 Calls Tryz.prog 121 #[lv, .int .i64 tab,kv] w (kU w l tab ks):=by
 obtain ⟨la,lc,rfl,hc1,hc2⟩:=hl.shape;obtain ⟨ka,kc,rfl,kc1,kc2⟩:=hk.shape;have HO:=hD (t8 l tab _ w hl hn);have HL:=hD hl;have HK:=hD hk;have HF:=hD hf;obtain ⟨n,hnn⟩:=nm l.length;rw[<- hnn] at hn hc1 HL HO⊢;have HN:=hD hnn;clear hl hk hf hnn;go_enter Tryz.func121,Tryz.ntmps121;go_wp2_with fail;refine HO.o.mono ?_;rintro e w1 ⟨v,xs,rfl,hx,ho,hb⟩;obtain ⟨xa,xc,rfl,xc1,xc2,hxa⟩:=hx.shape;have HX:=hD hx;have HXA:=hD hxa;have HOD:=hD ho;have HB:=hD hb;obtain ⟨m,hm⟩:=nm xs.length;rw[<- hm] at xc1 HX⊢;have hm40:m<=40:=by have:=ho.len;have:=kS l tab l.length;have:=HN.o;omega
 have HM:=hD hm;clear hx ho hb hm hxa HO;go_wp2_with fail;go_loopw [8,13] (fun u i wr=>∃k:Nat,k<=m/\i= .int .i64 k/\Hd (∀ j,j<k->cP (bz l (cR xs j)) tab ks=false)/\Hd (Bl w1 wr)) (fun _ i _=>m-(intOf i).toNat)
 case atStart=>exact ⟨0,zl,rfl,fun j h=>absurd h om,Below.refl _ _⟩
 case round=>
  obtain ⟨k,hk,rfl,HJ,HW⟩:=hrel;by_cases hlt:k<m
  ·obtain ⟨y,hy1,hy2⟩:∃y:Nat,cR xs k=(y:Int)/\y<n:=by
    have hmem:cR xs k∈xs:=by rw[sW (by have:=HM.o;omega)];exact List.getElem_mem _
    have:=HOD.o.mem.1 hmem;have:=HN.o;exact ⟨(cR xs k).toNat,om,om⟩
   obtain ⟨xb,xo,rfl,hxb,hxe⟩:=HXA.o (by have:=HM.o;omega);have x0:=hxe k (by have:=HM.o;omega);rw[<- HW.o.cell (p:=⟨xb,xo+k,none⟩) hxb] at x0;have e0:xs.getD k 0=(y:Int):=hy1;rw[e0] at x0;have hBW:=HB.o.trans (HW.o.mono HB.o.size);obtain ⟨lb,lo,lc2,he2,-,hej⟩:=(HL.o.below eN hBW).at (fD l y (by have:=HN.o;omega));simp only[Value.slice.injEq] at he2;obtain ⟨rfl,-,-⟩:=he2;obtain ⟨p1,n1,c1,r1,m1,d1,a0,a1,a2,a3,a4,a5,hp,hr⟩:=hej.six;obtain ⟨r,hr2⟩:=nm (cP (bz l y) tab ks);have hpl:(bz l y).pats.length<=1000000:=by have:=(HF.o y (by have:=HN.o;omega)).1;omega
   have HC:Hd (CR 139 #[.agg #[.int .i64 (bz l y).tab, .slice p1 n1 c1, .int .i64 (bz l y).len, .int .i64 (bz l y).prio, .int .i64 (bz l y).act, .slice r1 m1 d1], .int .i64 tab, .slice ka ks.length kc] wr (.bool r)):=by
    rw[hr2];exact qq (bz l y) tab ks _ _ wr ⟨_,_,rfl,hp,hr⟩ (HK.o.below aM hBW) hpl
   have HR:Hd (r=cP (bz l (cR xs k)) tab ks):=by show _=_;rw[hr2,hy1]
   have HY:Hd (cR xs k=(y:Int)):=hy1;clear hr2 hy1 e0 hBW hej hp hr hxe hpl;generalize (bz l y).tab=t1 at*;generalize (bz l y).len=l1 at*;generalize (bz l y).prio=q1 at*;generalize (bz l y).act=s1 at*;have z1:(k:Int)<(m:Int):=om;have z2:(y:Int)<(n:Int):=om;go_wp2_with fail;refine HC.o.mono ?_;rintro e w2 ⟨rfl,hb2⟩;have HW2:=hD (HW.o.trans (hb2.mono HW.o.size));clear hb2 HC a0 a1 a2 a3 a4 a5 x0;cases r
   ·go_wp2_with fail;go_roundw
    case rel=>
     refine ⟨k+1,om,by go_num,fun j hj=>?_,HW2⟩;by_cases e:j=k
     ·subst e;exact HR.o.symm
     exact HJ.o j om
    case measure=>exact mz
   ·go_wp2_with fail;go_ret;refine ⟨(y:Int),rfl,?_,HB.o.trans (HW2.o.mono HB.o.size)⟩;rw[<- HY.o];have hkx:k<xs.length:=by have:=HM.o;omega
    exact HOD.o.best hkx HJ.o HR.o.symm
  obtain rfl:k=m:=om;go_wp2_with fail;go_ret;exact ⟨-1,rfl,HOD.o.none (by rw[<- HM.o];exact HJ.o),HB.o.trans (HW.o.mono HB.o.size)⟩
theorem mC (l:List Ent) (tab:Int) (ks:List Nat) (lv kv:Value) (w:World) (hl:ERow w lv l) (hk:NRow w kv ks) (hn:l.length<=40) (hf:sj l):
 Calls Tryz.prog 54 #[lv, .int .i64 tab,kv] w (kU w l tab ks):=by
 obtain ⟨la,lc,rfl,hc1,hc2⟩:=hl.shape;obtain ⟨ka,kc,rfl,kc1,kc2⟩:=hk.shape;have HL:=hD hl;have HK:=hD hk;have HF:=hD hf;obtain ⟨n,hnn⟩:=nm l.length;rw[<- hnn] at hn hc1 HL⊢;have HN:=hD hnn;clear hl hk hf hnn;go_enter Tryz.func54,Tryz.ntmps54;go_wp2_with fail;go_loopw [7,8] (fun b i wr=>∃(k:Nat) (c:Int),k<=n/\i= .int .i64 k/\b= .int .i64 c/\Hd (Best l tab ks k c)/\Hd (Bl w wr)) (fun _ i _=>n-(intOf i).toNat)
 case atStart=>exact ⟨0,-1,zl,rfl,rfl,Best.zero l tab ks,Below.refl _ _⟩
 case round=>
  obtain ⟨k,c,hk,rfl,rfl,HB,HW⟩:=hrel;by_cases hlt:k<n
  ·obtain ⟨lb,lo,lc2,he2,-,hek⟩:=(HL.o.below eN HW.o).at (fD l k (by have:=HN.o;omega));simp only[Value.slice.injEq] at he2;obtain ⟨rfl,-,-⟩:=he2;obtain ⟨p1,n1,c1,r1,m1,d1,a0,a1,a2,a3,a4,a5,hp,hr⟩:=hek.six;obtain ⟨r,hr2⟩:=nm (cP (bz l k) tab ks);have hpl:(bz l k).pats.length<=1000000:=by have:=(HF.o k (by have:=HN.o;omega)).1;omega
   have HC:Hd (∀ W,Bl wr W->CR 82 #[.agg #[.int .i64 (bz l k).tab, .slice p1 n1 c1, .int .i64 (bz l k).len, .int .i64 (bz l k).prio, .int .i64 (bz l k).act, .slice r1 m1 d1], .int .i64 tab, .slice ka ks.length kc] W (.bool r)):=fun W hW=>by
    rw[hr2];exact lQ (bz l k) tab ks _ _ W ⟨_,_,rfl,hp.below lg hW,hr.below aM hW⟩ (HK.o.below aM (HW.o.trans (hW.mono HW.o.size))) hpl
   have HR:Hd (r=cP (bz l k) tab ks):=hr2;have HAY:Hd (∀ y:Nat,y<n->∃p2 n2 c2 r2 m2 d2 t2 l2 q2 s2,(Cl wr lb (lo+y*6) (.int .i64 t2)/\Cl wr lb (lo+y*6+1) (.slice p2 n2 c2)/\Cl wr lb (lo+y*6+2) (.int .i64 l2)/\Cl wr lb (lo+y*6+3) (.int .i64 q2)/\Cl wr lb (lo+y*6+4) (.int .i64 s2)/\Cl wr lb (lo+y*6+5) (.slice r2 m2 d2))/\
    ∀W,Calls Tryz.prog 83 #[.agg #[.int .i64 (bz l k).tab, .slice p1 n1 c1, .int .i64 (bz l k).len, .int .i64 (bz l k).prio, .int .i64 (bz l k).act, .slice r1 m1 d1], .agg #[.int .i64 t2, .slice p2 n2 c2, .int .i64 l2, .int .i64 q2, .int .i64 s2, .slice r2 m2 d2]] W
     fun e w'=>e= .returned (.bool (nA l k y))/\Bl W w'):=fun y hy=>by
    obtain ⟨lb3,lo3,lc3,he3,-,hej⟩:=(HL.o.below eN HW.o).at (fD l y (by have:=HN.o;omega));simp only[Value.slice.injEq,Option.some.injEq,Addr.mk.injEq,and_true,true_and] at he3;obtain ⟨⟨rfl,rfl⟩,-⟩:=he3;obtain ⟨p2,n2,c2,r2,m2,d2,b0,b1,b2,b3,b4,b5,-,-⟩:=hej.six;exact ⟨p2,n2,c2,r2,m2,d2,_,_,_,_,⟨b0,b1,b2,b3,b4,b5⟩,fun W=>oV _ _ _ _ _ _ _ _ _ _ _ _ _ _ _ _ _ _ _ _ W⟩
   clear hr2 hek hp hr hpl;generalize (bz l k).tab=t1 at*;generalize (bz l k).len=l1 at*;generalize (bz l k).prio=q1 at*;generalize (bz l k).act=s1 at*;have z1:(k:Int)<(n:Int):=om;have z0:(0:Int)<=(k:Int):=om;have HCL:Hd (∀ W,Bl wr W->Cl W lb (lo+k*6) (.int .i64 t1)/\Cl W lb (lo+k*6+1) (.slice p1 n1 c1)/\Cl W lb (lo+k*6+2) (.int .i64 l1)/\Cl W lb (lo+k*6+3) (.int .i64 q1)/\Cl W lb (lo+k*6+4) (.int .i64 s1)/\Cl W lb (lo+k*6+5) (.slice r1 m1 d1)):=fun W hW=>⟨(hW.cell (af a0).1).trans a0,(hW.cell (af a1).1).trans a1,(hW.cell (af a2).1).trans a2,(hW.cell (af a3).1).trans a3,(hW.cell (af a4).1).trans a4,(hW.cell (af a5).1).trans a5⟩
   have hb0:=below_drewN (Below.refl wr.heap.size wr) 1;cases r
   ·clear hb0 a0 a1 a2 a3 a4 a5;go_wp2_with fail;refine dZ wr ?_;refine sq (fun aa ww ll hh=>by exact ov (bg (hh.oL 0))) ?_;refine sq (fun aa ww ll hh=>by exact ov (bg (hh.oL 8))) ?_;refine sq (fun aa ww ll hh=>by have:=hh.gt 0 1;have:=hh.gt 1 0;exact ov gX) ?_;refine sq (fun aa ww ll hh=>by have:=hh.gt 2 0;exact ov (fC (HCL.o ww hh.inv))) ?_;refine sq (fun aa ww ll hh=>by exact ov (bg (hh.oL 1))) ?_;refine sq (fun aa ww ll hh=>by exact ov (bg (hh.oL 2))) ?_;refine ⟨.eq (.bool false),trivial,rfl,fun aa ww ll hh=>?_,?_⟩
    ·exact Dv
    refine cV 6 0 ?_;refine aV 0 ?_;refine aV 1 ?_;refine aV 2 ?_;refine aV 0 ?_ (hv:= .inr rfl);refine aV 1 ?_ (hv:= .inr rfl);refine aV 2 ?_ (hv:= .inr rfl);refine aV 3 ?_ (hv:= .inr rfl);refine aV 4 ?_ (hv:= .inr rfl);refine aV 5 ?_ (hv:= .inr rfl);refine aV 6 ?_ (hv:= .inr rfl);refine aV 7 ?_ (hv:= .inr rfl);refine aV 8 ?_ (hv:= .inr rfl);refine aV 12 ?_;refine sq (fun aa ww ll hh=>by have:=hh.gt 7 13;have:=hh.gt 20 0;have ec:=cW aa;exact ov gX) ?_;intro ll w1 hS hok;clear hok;simp only[ly];have HW2:=hD (HW.o.trans (hS.mono HW.o.size));clear hS;go_wp2_with fail;go_roundw
    case rel=>exact ⟨k+1,c,om,by go_num,rfl,HB.o.no HR.o.symm,HW2⟩
    case measure=>exact mz
   ·by_cases hc:c<0
    ·have hc1':c= -1:=by
      rcases HB.o with ⟨h,-⟩|⟨h,-⟩
      ·exact h
      omega
     subst hc1';clear hb0 hc a0 a1 a2 a3 a4 a5;go_wp2_with fail;refine dZ wr ?_;refine sq (fun aa ww ll hh=>by exact ov (bg (hh.oL 0))) ?_;refine sq (fun aa ww ll hh=>by exact ov (bg (hh.oL 8))) ?_;refine sq (fun aa ww ll hh=>by have:=hh.gt 0 1;have:=hh.gt 1 0;exact ov gX) ?_;refine sq (fun aa ww ll hh=>by have:=hh.gt 2 0;exact ov (fC (HCL.o ww hh.inv))) ?_;refine sq (fun aa ww ll hh=>by exact ov (bg (hh.oL 1))) ?_;refine sq (fun aa ww ll hh=>by exact ov (bg (hh.oL 2))) ?_;refine ⟨.eq (.bool true),trivial,rfl,fun aa ww ll hh=>?_,?_⟩
     ·exact Dv
     refine cV 6 0 ?_;refine sq (fun aa ww ll hh=>by exact hh.og 0 (bg (hh.oL 7))) ?_;refine sq (fun aa ww ll hh=>by have:=hh.gt 8 0;have ec:=cW aa;exact hh.og 1 gX) ?_;refine Ee 2 9 0 ?_;refine aV 0 ?_;refine aV 1 ?_;refine aV 2 ?_;refine aV 3 ?_;refine aV 4 ?_;refine aV 5 ?_;refine aV 6 ?_;refine aV 7 ?_;refine aV 8 ?_;refine sq (fun aa ww ll hh=>by have:=hh.gt 10 9;have:=hh.gt 19 0;have ec:=cW aa;exact hh.og 12 gX) ?_;refine sq (fun aa ww ll hh=>by have:=hh.gt 7 13;have:=hh.gt 20 0;have ec:=cW aa;exact ov gX) ?_;intro ll w1 hS hok;clear hok;simp only[ly];have HW2:=hD (HW.o.trans (hS.mono HW.o.size));clear hS;go_wp2_with fail;go_roundw
     case rel=>exact ⟨k+1,k,om,by go_num,rfl,HB.o.first HR.o.symm,HW2⟩
     case measure=>exact mz
    obtain ⟨y,rfl⟩:∃y:Nat,c=(y:Int):=⟨c.toNat,om⟩;have hyk:y<k:=by
     exact CH
    obtain ⟨p2,n2,c2,r2,m2,d2,t2,l2,q2,s2,⟨b0,b1,b2,b3,b4,b5⟩,hA⟩:=HAY.o y om;obtain ⟨x,hx⟩:=nm (nA l k (y:Int));rw[<- hx] at hA;have HA:=hD hA;have HX:=hD hx;have z2:(y:Int)<(n:Int):=om;have z3:(0:Int)<=(y:Int):=om;have hdy:decide ((y:Int)<0)=false:=decide_eq_false om;clear hA hx hc;have hS:=hD (And.intro hb0 (And.intro a0 (And.intro a1 (And.intro a2 (And.intro a3 (And.intro a4 (And.intro a5 (And.intro b0 (And.intro b1 (And.intro b2 (And.intro b3 (And.intro b4 b5))))))))))));clear hb0;go_wp2_with fail;go_region_held3 (fun Wk=>Below (wr.heap.size) (wr) Wk/\Wk.cell? ⟨lb,lo+k*6,none⟩=some (.int .i64 t1)/\Wk.cell? ⟨lb,lo+k*6+1,none⟩=some (.slice p1 n1 c1)/\Wk.cell? ⟨lb,lo+k*6+2,none⟩=some (.int .i64 l1)/\Wk.cell? ⟨lb,lo+k*6+3,none⟩=some (.int .i64 q1)/\Wk.cell? ⟨lb,lo+k*6+4,none⟩=some (.int .i64 s1)/\Wk.cell? ⟨lb,lo+k*6+5,none⟩=some (.slice r1 m1 d1)/\Wk.cell? ⟨lb,lo+y*6,none⟩=some (.int .i64 t2)/\Wk.cell? ⟨lb,lo+y*6+1,none⟩=some (.slice p2 n2 c2)/\Wk.cell? ⟨lb,lo+y*6+2,none⟩=some (.int .i64 l2)/\Wk.cell? ⟨lb,lo+y*6+3,none⟩=some (.int .i64 q2)/\Wk.cell? ⟨lb,lo+y*6+4,none⟩=some (.int .i64 s2)/\Wk.cell? ⟨lb,lo+y*6+5,none⟩=some (.slice r2 m2 d2))
     (first|exact hS.o|exact tY hb1 (by assumption)|assumption)
     (first
   |(go_at_call 82;(with_reducible refine (HC.o _ (And.left (by assumption))).mono ?_);rintro e w1 ⟨rfl,hb1⟩)
   |(go_at_call 83;(with_reducible refine (HA.o _).mono ?_);rintro e w1 ⟨rfl,hb1⟩))
    rename_i hT;have HW2:=hD (HW.o.trans (hT.1.mono HW.o.size));clear hS hT hb1 a0 a1 a2 a3 a4 a5 b0 b1 b2 b3 b4 b5 hdy;cases x
    ·go_wp2_with fail;go_roundw
     case rel=>exact ⟨k+1,y,om,by go_num,rfl,HB.o.keep HX.o.symm,HW2⟩
     case measure=>exact mz
    ·go_wp2_with fail;go_roundw
     case rel=>exact ⟨k+1,k,om,by go_num,rfl,HB.o.next HR.o.symm HX.o.symm,HW2⟩
     case measure=>exact mz
  obtain rfl:k=n:=om;go_wp2_with fail;go_ret;exact ⟨c,rfl,by rw[<- HN.o];exact HB.o,HW.o⟩
theorem qJ (l:List Ent) (tab:Int) (ks:List Nat) (a0:Int) (g0:List Nat) (lv kv gv:Value) (w:World) (hl:ERow w lv l) (hk:NRow w kv ks) (hg:NRow w gv g0) (hn:l.length<=40) (hf:sj l) (hg0:g0.length<=6000):
 Calls Tryz.prog 71 #[lv, .int .i64 tab,kv, .agg #[.int .i64 a0,gv]] w (ym w (Look l tab ks a0 g0)):=by
 obtain ⟨la,lc,rfl,hc1,hc2⟩:=hl.shape;obtain ⟨ka,kc,rfl,kc1,kc2⟩:=hk.shape;obtain ⟨ga,gc,rfl,gc1,gc2⟩:=hg.shape;have HC:Hd (∀ W,Bl w W->Calls Tryz.prog 121 #[.slice la l.length lc, .int .i64 tab, .slice ka ks.length kc] W (kU W l tab ks)):=fun W hW=>qI l tab ks _ _ W (hl.below eN hW) (hk.below aM hW) hn hf
 have HL:=hD hl;have HG:=hD hg;have HF:=hD hf;have HCL:Hd (∀ (g:List Nat) (v:Value) (W:World),NRow W v g->g.length<=1000000->Calls Tryz.prog 122 #[v] W fun e w'=>∃v',e= .returned v'/\NOwn W.heap.size w' v' g/\Bl W w'):=fun g v W h1 h2=>rO g v W h1 h2
 clear hl hk hg hf;go_enter Tryz.func71,Tryz.ntmps71;go_wp2_with fail;have hb0:Bl w (((w.alloc (.cells #[.int .i64 a0, .slice ga g0.length gc] 52)).alloc (.cells #[.int .i64 0, .slice none 0 0] 52)).alloc (.cells #[.int .i64 a0, .slice ga g0.length gc] 52)):=bL;generalize hX:((w.alloc (.cells #[.int .i64 a0, .slice ga g0.length gc] 52)).alloc (.cells #[.int .i64 0, .slice none 0 0] 52)).alloc (.cells #[.int .i64 a0, .slice ga g0.length gc] 52)=X at hb0;have x0:X.cell? ⟨w.heap.size+1,0,none⟩=some (.int .i64 0):=by rw[<- hX];simp[go_sem]
 have x1:X.cell? ⟨w.heap.size+1,1,none⟩=some (.slice none 0 0):=by rw[<- hX];simp[go_sem]
 have x2:X.cell? ⟨w.heap.size+1+1,0,none⟩=some (.int .i64 a0):=by rw[<- hX];simp[go_sem]
 have x3:X.cell? ⟨w.heap.size+1+1,1,none⟩=some (.slice ga g0.length gc):=by rw[<- hX];simp[go_sem]
 have xs:X.heap.size=w.heap.size+1+1+1:=by rw[<- hX];simp
 have xf:∀j,X.frozen? ⟨w.heap.size+1,j,none⟩=false/\X.frozen? ⟨w.heap.size+1+1,j,none⟩=false:=fun j=>by rw[<- hX];simp[go_sem]
 have hXW:∀W,Bl X W->(W.cell? ⟨w.heap.size+1,0,none⟩=some (.int .i64 0)/\W.cell? ⟨w.heap.size+1,1,none⟩=some (.slice none 0 0)/\W.cell? ⟨w.heap.size+1+1,0,none⟩=some (.int .i64 a0)/\W.cell? ⟨w.heap.size+1+1,1,none⟩=some (.slice ga g0.length gc))/\
  (∀ j,W.frozen? ⟨w.heap.size+1,j,none⟩=false)/\(∀ j,W.frozen? ⟨w.heap.size+1+1,j,none⟩=false)/\w.heap.size+1+1<W.heap.size/\Bl w W:=fun W hW=>
  ⟨⟨(hW.cell (p:=⟨w.heap.size+1,0,none⟩) (by show w.heap.size+1<_;omega)).trans x0,(hW.cell (p:=⟨w.heap.size+1,1,none⟩) (by show w.heap.size+1<_;omega)).trans x1,(hW.cell (p:=⟨w.heap.size+1+1,0,none⟩) (by show w.heap.size+1+1<_;omega)).trans x2,(hW.cell (p:=⟨w.heap.size+1+1,1,none⟩) (by show w.heap.size+1+1<_;omega)).trans x3⟩,
   fun j=>(hW.frozen (p:=⟨w.heap.size+1,j,none⟩) (by show w.heap.size+1<_;omega)).trans (xf j).1,fun j=>(hW.frozen (p:=⟨w.heap.size+1+1,j,none⟩) (by show w.heap.size+1+1<_;omega)).trans (xf j).2,by have:=hW.size;omega,hb0.trans (hW.mono hb0.size)⟩
 have HXW:=hD hXW;have HCX:=hD (HC.o X hb0);clear hX x0 x1 x2 x3 xs xf hXW HC hb0;refine HCX.o.mono ?_;rintro e w1 ⟨c,rfl,hbest,hb1⟩;obtain ⟨⟨x0,x1,x2,x3⟩,f1,f2,hs1,hbw⟩:=HXW.o w1 hb1;have HB:=hD hbest;have HW1:=hD hbw;have f10:=f1 0;have f11:=f1 1;have f20:=f2 0;have f21:=f2 1;clear hbest hb1 hbw HCX f1 f2;obtain ⟨N,hN⟩:=nm w.heap.size;have HNN:=hD hN;rw[<- hN] at x0 x1 x2 x3 f10 f11 f20 f21 hs1⊢;clear hN;by_cases hc:c<0
 ·have HCC:=hD (HCL.o g0 _ w1 (HG.o.below aM HW1.o) om);go_wp2_with fail;refine HCC.o.mono ?_;rintro e w2 ⟨v',rfl,ho,hb2⟩;obtain ⟨vp,vc,rfl⟩:=ho.shape;have HO:=hD ho;have y0:=(hb2.cell (p:=⟨N+1,0,none⟩) (by show N+1<_;omega)).trans x0;have y1:=(hb2.cell (p:=⟨N+1,1,none⟩) (by show N+1<_;omega)).trans x1;have y2:=(hb2.cell (p:=⟨N+1+1,0,none⟩) (by show N+1+1<_;omega)).trans x2;have y3:=(hb2.cell (p:=⟨N+1+1,1,none⟩) (by show N+1+1<_;omega)).trans x3;have g10:=(hb2.frozen (p:=⟨N+1,0,none⟩) (by show N+1<_;omega)).trans f10;have g11:=(hb2.frozen (p:=⟨N+1,1,none⟩) (by show N+1<_;omega)).trans f11;have g21:=(hb2.frozen (p:=⟨N+1+1,1,none⟩) (by show N+1+1<_;omega)).trans f21;have HW2:=hD (HW1.o.trans (hb2.mono HW1.o.size));have hs2:=hb2.size;clear ho hb2 HCC x0 x1 x2 x3 f10 f11 f20 f21;go_wp2_with fail;refine bodyPost_ret (v:= .agg #[.int .i64 a0, .slice vp g0.length vc]) (by simp[results,Tryz.results71,go_sem,y0,y1]) rfl ?_;refine ⟨a0,g0,_,rfl,⟨c,HB.o,by rw[if_pos hc],by rw[if_pos hc]⟩,(HO.o.at fun k hk=>?_).mono (by have:=HNN.o;omega),((HW2.o.setCell (by have:=HNN.o;show _<=N+1+1;omega) _).setCell (by have:=HNN.o;show _<=N+1;omega) _).setCell (by have:=HNN.o;show _<=N+1;omega) _⟩;exact DB
 obtain ⟨y,rfl⟩:∃y:Nat,c=(y:Int):=⟨c.toNat,om⟩;have hyl:y<l.length:=by
  exact CH
 obtain ⟨lb,lo,lc2,he2,hlb,hej⟩:=HL.o.at (fD l y hyl);simp only[Value.slice.injEq] at he2;obtain ⟨rfl,-,-⟩:=he2;obtain ⟨p1,n1,c1,r1,m1,d1,a0',a1',a2',a3',a4,a5,hp,hr⟩:=hej.six;clear a0' a1' a2' a3' hp;have hr2:=hr;obtain ⟨r1',d1',he3,-,-⟩:=hr2.shape;simp only[Value.slice.injEq] at he3;obtain ⟨rfl,rfl,rfl⟩:=he3;have b4:=(HW1.o.cell (p:=⟨lb,lo+y*6+4,none⟩) hlb).trans a4;have b5:=(HW1.o.cell (p:=⟨lb,lo+y*6+5,none⟩) hlb).trans a5;have hne1:lb≠N+1:=by have:=HNN.o;omega
 have hne2:lb≠N+1+1:=by have:=HNN.o;omega
 have hgl:(bz l (y:Int)).args.length<=1000000:=(HF.o y hyl).2;have HR:=hD hr;have HA:Hd ((bz l (y:Int)).act=(bz l (y:Int)).act/\(bz l (y:Int)).args=(bz l (y:Int)).args):=⟨rfl,rfl⟩;have HLK:Hd (∀ a g,a=(bz l (y:Int)).act->g=(bz l (y:Int)).args->Look l tab ks a0 g0 a g):=fun a g h1 h2=>⟨(y:Int),HB.o,by rw[if_neg om];exact h1,by rw[if_neg om];exact h2⟩
 obtain ⟨act,hact⟩:=nm ((bz l (y:Int)).act);obtain ⟨g,hgg⟩:=nm ((bz l (y:Int)).args);have HL2:=hD (HLK.o act g hact hgg);rw[<- hact] at b4;rw[<- hgg] at b5 hgl HR;clear hact hgg HLK HA a4 a5 hej hr hr2;have HCC:∀p q:Value,Hd (Calls Tryz.prog 122 #[.slice r1 g.length d1] ((w1.setCell ⟨N+1+1,0,none⟩ p).setCell ⟨N+1+1,1,none⟩ q) fun e w'=>∃v',e= .returned v'/\NOwn ((w1.setCell ⟨N+1+1,0,none⟩ p).setCell ⟨N+1+1,1,none⟩ q).heap.size w' v' g/\Below ((w1.setCell ⟨N+1+1,0,none⟩ p).setCell ⟨N+1+1,1,none⟩ q).heap.size ((w1.setCell ⟨N+1+1,0,none⟩ p).setCell ⟨N+1+1,1,none⟩ q) w'):=fun p q=>
  HCL.o g _ _ (HR.o.below aM ((HW1.o.setCell (by have:=HNN.o;show _<=N+1+1;omega) _).setCell (by have:=HNN.o;show _<=N+1+1;omega) _)) om
 have z1:(y:Int)<(l.length:Int):=om;go_wp2_with fail;have HCY:=HCC (.int .i64 act) (.slice r1 g.length d1);have hby:Bl w ((w1.setCell ⟨N+1+1,0,none⟩ (.int .i64 act)).setCell ⟨N+1+1,1,none⟩ (.slice r1 g.length d1)):=(HW1.o.setCell (by have:=HNN.o;show _<=N+1+1;omega) _).setCell (by have:=HNN.o;show _<=N+1+1;omega) _;generalize hY:(w1.setCell ⟨N+1+1,0,none⟩ (.int .i64 act)).setCell ⟨N+1+1,1,none⟩ (.slice r1 g.length d1)=Y at HCY hby;have u0:Y.cell? ⟨N+1,0,none⟩=some (.int .i64 0):=by rw[<- hY];simp[go_sem,x0,x1,x2,x3]
 have u1:Y.cell? ⟨N+1,1,none⟩=some (.slice none 0 0):=by rw[<- hY];simp[go_sem,x0,x1,x2,x3]
 have u2:Y.cell? ⟨N+1+1,0,none⟩=some (.int .i64 act):=by rw[<- hY];simp[go_sem,x0,x1,x2,x3]
 have u3:Y.cell? ⟨N+1+1,1,none⟩=some (.slice r1 g.length d1):=by rw[<- hY];simp[go_sem,x0,x1,x2,x3]
 have v10:Y.frozen? ⟨N+1,0,none⟩=false:=by rw[<- hY];simp[go_sem,f10]
 have v11:Y.frozen? ⟨N+1,1,none⟩=false:=by rw[<- hY];simp[go_sem,f11]
 have v21:Y.frozen? ⟨N+1+1,1,none⟩=false:=by rw[<- hY];simp[go_sem,f21]
 have hsy:N+1+1<Y.heap.size:=by rw[<- hY];simp;omega
 have HBY:=hD hby;clear hY hby HCC x0 x1 x2 x3 f10 f11 f20 f21 b4 b5 hs1;refine HCY.o.mono ?_;rintro e w2 ⟨v',rfl,ho,hb2⟩;obtain ⟨vp,vc,rfl⟩:=ho.shape;have HO:=hD ho;have y0:=(hb2.cell (p:=⟨N+1,0,none⟩) (by show N+1<_;omega)).trans u0;have y1:=(hb2.cell (p:=⟨N+1,1,none⟩) (by show N+1<_;omega)).trans u1;have y2:=(hb2.cell (p:=⟨N+1+1,0,none⟩) (by show N+1+1<_;omega)).trans u2;have y3:=(hb2.cell (p:=⟨N+1+1,1,none⟩) (by show N+1+1<_;omega)).trans u3;have g10:=(hb2.frozen (p:=⟨N+1,0,none⟩) (by show N+1<_;omega)).trans v10;have g11:=(hb2.frozen (p:=⟨N+1,1,none⟩) (by show N+1<_;omega)).trans v11;have g21:=(hb2.frozen (p:=⟨N+1+1,1,none⟩) (by show N+1+1<_;omega)).trans v21;have HW2:=hD (HBY.o.trans (hb2.mono HBY.o.size));have hs2:=hb2.size;clear ho hb2 HCY u0 u1 u2 u3 v10 v11 v21;go_wp2_with fail;refine bodyPost_ret (v:= .agg #[.int .i64 act, .slice vp g.length vc]) (by simp[results,Tryz.results71,go_sem,y0,y1]) rfl ?_;refine ⟨act,g,_,rfl,HL2.o,(HO.o.at fun k hk=>?_).mono (by have:=HNN.o;omega),((HW2.o.setCell (by have:=HNN.o;show _<=N+1+1;omega) _).setCell (by have:=HNN.o;show _<=N+1;omega) _).setCell (by have:=HNN.o;show _<=N+1;omega) _⟩;exact DB
theorem mD (l:List Ent) (tab:Int) (ks:List Nat) (a0:Int) (g0:List Nat) (lv kv gv:Value) (w:World) (hl:ERow w lv l) (hk:NRow w kv ks) (hg:NRow w gv g0) (hn:l.length<=40) (hf:sj l):
 Calls Tryz.prog 25 #[lv, .int .i64 tab,kv, .agg #[.int .i64 a0,gv]] w (zZ w (Look l tab ks a0 g0)):=by
 obtain ⟨la,lc,rfl,hc1,hc2⟩:=hl.shape;obtain ⟨ka,kc,rfl,kc1,kc2⟩:=hk.shape;obtain ⟨ga,gc,rfl,gc1,gc2⟩:=hg.shape;have HC:Hd (∀ W,Bl w W->Calls Tryz.prog 54 #[.slice la l.length lc, .int .i64 tab, .slice ka ks.length kc] W (kU W l tab ks)):=fun W hW=>mC l tab ks _ _ W (hl.below eN hW) (hk.below aM hW) hn hf
 have HL:=hD hl;have HG:=hD hg;clear hl hk hg hf;go_enter Tryz.func25,Tryz.ntmps25;go_wp2_with fail;have hb0:Bl w ((w.alloc (.cells #[.int .i64 a0, .slice ga g0.length gc] 52)).alloc (.cells #[.int .i64 0, .slice none 0 0] 52)):=bL;generalize hX:(w.alloc (.cells #[.int .i64 a0, .slice ga g0.length gc] 52)).alloc (.cells #[.int .i64 0, .slice none 0 0] 52)=X at hb0;have x0:X.cell? ⟨w.heap.size+1,0,none⟩=some (.int .i64 0):=by rw[<- hX];simp[go_sem]
 have x1:X.cell? ⟨w.heap.size+1,1,none⟩=some (.slice none 0 0):=by rw[<- hX];simp[go_sem]
 have x2:X.cell? ⟨w.heap.size,0,none⟩=some (.int .i64 a0):=by rw[<- hX];simp[go_sem]
 have x3:X.cell? ⟨w.heap.size,1,none⟩=some (.slice ga g0.length gc):=by rw[<- hX];simp[go_sem]
 have xs:X.heap.size=w.heap.size+1+1:=by rw[<- hX];simp
 have xf:∀j,X.frozen? ⟨w.heap.size+1,j,none⟩=false:=fun j=>by rw[<- hX];simp[go_sem]
 have HCX:=hD (HC.o X hb0);refine HCX.o.mono ?_;rintro e w1 ⟨c,rfl,hbest,hb1⟩;have y0:=(hb1.cell (p:=⟨w.heap.size+1,0,none⟩) (by show w.heap.size+1<_;omega)).trans x0;have y1:=(hb1.cell (p:=⟨w.heap.size+1,1,none⟩) (by show w.heap.size+1<_;omega)).trans x1;have y2:=(hb1.cell (p:=⟨w.heap.size,0,none⟩) (by show w.heap.size<_;omega)).trans x2;have y3:=(hb1.cell (p:=⟨w.heap.size,1,none⟩) (by show w.heap.size<_;omega)).trans x3;have f0:=(hb1.frozen (p:=⟨w.heap.size+1,0,none⟩) (by show w.heap.size+1<_;omega)).trans (xf 0);have f1:=(hb1.frozen (p:=⟨w.heap.size+1,1,none⟩) (by show w.heap.size+1<_;omega)).trans (xf 1);have HB:=hD hbest;have HW1:=hD (hb0.trans (hb1.mono hb0.size));obtain ⟨N,hN⟩:=nm w.heap.size;have HNN:=hD hN;rw[<- hN] at y0 y1 y2 y3 f0 f1⊢;clear hX x0 x1 x2 x3 xs xf HC hb0 HCX hbest hb1 hN;by_cases hc:c<0
 ·go_wp2_with fail;refine bodyPost_ret (v:= .agg #[.int .i64 a0, .slice ga g0.length gc]) (by simp[results,Tryz.results25,go_sem,y0,y1]) rfl ?_;have hbz:=(HW1.o.setCell (p:=⟨N+1,0,none⟩) (by have:=HNN.o;show _<=N+1;omega) (.int .i64 a0)).setCell (p:=⟨N+1,1,none⟩) (by have:=HNN.o;show _<=N+1;omega) (.slice ga g0.length gc);exact ⟨a0,g0,_,rfl,⟨c,HB.o,by rw[if_pos hc],by rw[if_pos hc]⟩,HG.o.below aM hbz,hbz⟩
 obtain ⟨y,rfl⟩:∃y:Nat,c=(y:Int):=⟨c.toNat,om⟩;have hyl:y<l.length:=by
  exact CH
 obtain ⟨lb,lo,lc2,he2,hlb,hej⟩:=HL.o.at (fD l y hyl);simp only[Value.slice.injEq] at he2;obtain ⟨rfl,-,-⟩:=he2;obtain ⟨p1,n1,c1,r1,m1,d1,a0',a1',a2',a3',a4,a5,hp,hr⟩:=hej.six;clear a0' a1' a2' a3' hp;have b4:=(HW1.o.cell (p:=⟨lb,lo+y*6+4,none⟩) hlb).trans a4;have b5:=(HW1.o.cell (p:=⟨lb,lo+y*6+5,none⟩) hlb).trans a5;have hne1:lb≠N+1:=by have:=HNN.o;omega
 have HR:=hD hr;have HL2:Hd (Look l tab ks a0 g0 (bz l (y:Int)).act (bz l (y:Int)).args):=⟨(y:Int),HB.o,by rw[if_neg om],by rw[if_neg om]⟩;clear a4 a5 hej hr;generalize (bz l (y:Int)).act=act at*;generalize (bz l (y:Int)).args=g at*;have z1:(y:Int)<(l.length:Int):=om;go_wp2_with fail;refine bodyPost_ret (v:= .agg #[.int .i64 act, .slice r1 m1 d1]) (by simp[results,Tryz.results25,go_sem,y0,y1]) rfl ?_;have hbz:=(HW1.o.setCell (p:=⟨N+1,0,none⟩) (by have:=HNN.o;show _<=N+1;omega) (.int .i64 act)).setCell (p:=⟨N+1,1,none⟩) (by have:=HNN.o;show _<=N+1;omega) (.slice r1 m1 d1);exact ⟨act,g,_,rfl,HL2.o,HR.o.below aM hbz,hbz⟩
theorem RowAt.map {α:Type} {sz:Nat} {At:World->Nat->Nat->α->Prop} {w w':World} {v:Value} {l:List α} (h:RowAt sz At w v l) (hs:w.heap.size<=w'.heap.size) (hk:∀b o x,At w b o x->At w' b o x):RowAt sz At w' v l:=by
 obtain ⟨pa,cap,h1,h2,h3,h4,h5⟩:=h;refine ⟨pa,cap,h1,h2,h3,h4,fun h0=>?_⟩;obtain ⟨b,o,e1,e2,e4⟩:=h5 h0;exact ⟨b,o,e1,Nat.lt_of_lt_of_le e2 hs,fun j x hj=>hk b _ x (e4 j x hj)⟩
structure AR (b:Nat) (O0:Obj) (J:World->Nat->Prop) (W W':World):Prop where
 low:Below b W W'
 nrow:∀v l,NRow W v l->NRow W' v l
 zz:∀g:Nat,b<=g->(W.heap[g]?=some O0\/J W g)->(W'.heap[g]?=some O0\/J W' g)
 p1:∀g:Nat,b<=g->J W g->J W' g
section
variable {b:Nat} {O0:Obj} {J:World->Nat->Prop} {W W':World}
theorem AR.refl (b:Nat) (O0:Obj) (J:World->Nat->Prop) (W:World):AR b O0 J W W:=⟨Below.refl _ _,fun _ _=>id,fun _ _=>id,fun _ _=>id⟩
theorem AR.of_below (hJ:∀(g:Nat) (W W':World),Bl W W'->J W g->J W' g) (hb:b<=W.heap.size) (h:Bl W W'):AR b O0 J W W':=
 ⟨h.mono hb,fun _ _ e=>e.below aM h,fun g _ e=>e.imp (fun q=>(h.block g (cB q)).trans q) (hJ g W W' h),fun g _=>hJ g W W' h⟩
theorem NRow.past {v:Value} (h:NRow W v l) (hs:W.heap.size<=W'.heap.size) (ho:∀k,k≠g->W'.heap[k]?=W.heap[k]?) (hn:∀i n,W.cell? ⟨g,i,none⟩≠some (.int .u64 n)):NRow W' v l:=
 RowAt.map h hs fun b o x ⟨h1,h2,h3⟩=>by
  have hbg:b≠g:=by rintro rfl;exact hn _ _ h2
  have hc:∀j,W'.cell? ⟨b,j,none⟩=W.cell? ⟨b,j,none⟩:=fun j=>by unfold World.cell?;rw[ho b hbg]
  exact ⟨h1,(hc _).trans h2,(hc _).trans h3⟩
theorem AR.store (hg:b<=g) (hlow:Below b W W') (hs:W.heap.size<=W'.heap.size) (ho:∀k,k≠g->W'.heap[k]?=W.heap[k]?) (hn:∀i n,W.cell? ⟨g,i,none⟩≠some (.int .u64 n)) (hJg:J W' g) (hJo:∀k,k≠g->J W k->J W' k):AR b O0 J W W':=by
 refine ⟨hlow,fun v l h=>NRow.past h hs ho hn,fun k hk e=>?_,fun k hk e=>?_⟩
 ·by_cases q:k=g
  ·subst q;exact .inr hJg
  exact e.imp (fun q2=>(ho k q).trans q2) (hJo k q)
 by_cases q:k=g
 ·subst q;exact hJg
 exact hJo k q e
end
def JP (c:List Value) (W:World) (g:Nat):Prop:=W.heap[g]?=some (P1 c)
theorem JP.below {c:List Value} (g:Nat) (W W':World) (h:Bl W W') (hj:JP c W g):JP c W' g:=(h.block g (cB hj)).trans hj
theorem ux {b0 b1 b2 b3 b4 b5 b6 b7 b8:Value} (hno:∀v∈[b0,b1,b2,b3,b4,b5,b6,b7,b8],∀n,v≠ .int .u64 n) (hg:b<=g) (h:W.heap[g]?=some P0\/JP [b0,b1,b2,b3,b4,b5,b6,b7,b8] W g):
 AR b P0 (JP [b0,b1,b2,b3,b4,b5,b6,b7,b8]) W (bw W g b0 b1 b2 b3 b4 b5 b6 b7 b8)/\JP [b0,b1,b2,b3,b4,b5,b6,b7,b8] (bw W g b0 b1 b2 b3 b4 b5 b6 b7 b8) g:=by
 have hs:=KR.storeP (c0:=0) (c1:=0) hg h;refine ⟨AR.store hg hs.1.low (by rw[oi];exact Nat.le_refl _) (fun k hk=>cC W b0 b1 b2 b3 b4 b5 b6 b7 b8 hk) (fun i n=>?_) hs.2 (fun k hk e=>(cC W b0 b1 b2 b3 b4 b5 b6 b7 b8 hk).trans e),hs.2⟩;unfold World.cell?;have key:∀c:List Value,(∀ v∈c,∀n,v≠ .int .u64 n)->c.toArray[i]?≠some (.int .u64 n):=fun c hc e=>by
  rw[List.getElem?_toArray] at e;exact hc _ (cX e) n rfl
 rcases h with h|h
 ·rw[h];intro e;exact key zL sm (by simpa [P0] using e)
 rw[show W.heap[g]?=_ from h];intro e;exact key _ hno (by simpa [P1] using e)
def R0:Obj:= .cells #[.int .i64 0, .slice none 0 0] 52 (0,0)
def R1 (a:Int) (u:Value):Obj:= .cells #[.int .i64 a,u] 52 (0,0)
def JR (a:Int) (l:List Nat) (W:World) (g:Nat):Prop:=∃u,W.heap[g]?=some (R1 a u)/\NRow W u l
theorem JR.below (g:Nat) (W W':World) (h:Bl W W') (hj:JR a l W g):JR a l W' g:=by
 obtain ⟨u,h1,h2⟩:=hj;exact ⟨u,(h.block g (cB h1)).trans h1,h2.below aM h⟩
theorem mE (h:W.heap[g]?=some R0\/JR a l W g):∃x y,W.heap[g]?=some (R1 x y)/\(∀ n,y≠ .int .u64 n):=by
 rcases h with h|⟨u,h,h2⟩
 ·exact ⟨0, .slice none 0 0,h,fun n e=>by cases e⟩
 obtain ⟨p,c,rfl,-⟩:=h2.shape;exact ⟨a,_,h,fun n e=>by cases e⟩
theorem Ae {u:Value} (hu:NRow W u l) (hg:b<=g) (h:W.heap[g]?=some R0\/JR a l W g):
 AR b R0 (JR a l) W ((W.setCell ⟨g,0,none⟩ (.int .i64 a)).setCell ⟨g,1,none⟩ u)/\JR a l ((W.setCell ⟨g,0,none⟩ (.int .i64 a)).setCell ⟨g,1,none⟩ u) g:=by
 obtain ⟨x,y,hk,hy⟩:=mE h;have ho:∀k,k≠g->((W.setCell ⟨g,0,none⟩ (.int .i64 a)).setCell ⟨g,1,none⟩ u).heap[k]?=W.heap[k]?:=fun k hk=>bj W g 0 1 _ _ hk
 have hn:∀i n,W.cell? ⟨g,i,none⟩≠some (.int .u64 n):=fun i n e=>by
  unfold World.cell? at e;rw[hk] at e;simp only[R1] at e
  match i,e with
  |0,e=>simp at e
  |1,e=>simp at e;exact hy n e
  |_+2,e=>simp at e
 have hs:W.heap.size<=((W.setCell ⟨g,0,none⟩ (.int .i64 a)).setCell ⟨g,1,none⟩ u).heap.size:=by simp
 have hp:((W.setCell ⟨g,0,none⟩ (.int .i64 a)).setCell ⟨g,1,none⟩ u).heap[g]?=some (R1 a u):=by
  have h1:=heap_setCell_same W g 0 _ _ (.int .i64 a) hk;have h2:=heap_setCell_same _ g 1 _ _ u h1;exact h2
 have hj:JR a l ((W.setCell ⟨g,0,none⟩ (.int .i64 a)).setCell ⟨g,1,none⟩ u) g:=⟨u,hp,NRow.past hu hs ho hn⟩;exact ⟨AR.store hg (((Below.refl b W).setCell hg _).setCell hg _) hs ho hn hj (fun k hk ⟨z,h1,h2⟩=>⟨z,(ho k hk).trans h1,NRow.past h2 hs ho hn⟩),hj⟩
end Go.Proofs.YtjfhfaodbjecdaaGreat
