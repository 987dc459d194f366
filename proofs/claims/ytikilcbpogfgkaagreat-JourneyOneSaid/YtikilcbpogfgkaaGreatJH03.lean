/- Lemmas. -/
import Derived.Test.YtikilcbpogfgkaaGreatJH02
import Derived.Deep.Cut
set_option maxHeartbeats 3200000
set_option maxRecDepth 100000
namespace Go.Proofs.YtikilcbpogfgkaaGreat
open Go.RowKit
variable {w W:World} {n c k g:Nat} {l:List Ed} {x at_:Ed} {hv bv:Value} {how:Int} {acc:Bool}
theorem IsRow.elT {p:Option Addr} {l:List (List Int)} (h:IsRow w (.slice p n c) l) {j:Nat} (hj:j<l.length):∃b o p1 n1 c1,p=some ⟨b,o,none⟩/\b<w.heap.size/\w.cell? ⟨b,o+j,none⟩=some (.slice p1 n1 c1)/\IRow w (.slice p1 n1 c1) (l.getD j []):=by
 obtain ⟨b,o,e,h1,p1,n1,c1,h2,h3⟩:=h.get (some_getD [] hj);rw[Nat.mul_one] at h2;exact ⟨b,o,p1,n1,c1,e,h1,h2,h3⟩
theorem there_any (s:NtS) (n:Net) (e:Ed) (w:World) (h:NtOk w s n):
 Calls Tryz.prog 76 #[ntV s,EdV e] w fun r w'=>r= .returned (.bool (ntThere n e))/\Bl w w':=by
 have HN:Hd (s.pn=n.ports.length):=h.ports.ln.1;have HP:=hD h.ports;obtain ⟨T,hT⟩:=nm (ntThere n e);have HT:=hD hT;rw[<- hT];clear h hT;obtain ⟨sw,port⟩:=e;unfold ntV EdV;dsimp only at HT⊢;go_enter Tryz.func76,Tryz.ntmps76;go_upto_region 1 with fail
 obtain ⟨W0,hW0⟩:=nm ((w.alloc (.cells #[.slice s.sp s.sn s.sc, .slice s.pp s.pn s.pc, .slice s.lp s.ln s.lc] 52)).alloc (.cells #[.int .i64 sw, .int .i64 port] 54));have HB0:Hd (Bl w W0):=by show Below _ _ _;rw[hW0];exact bL
 have HCE:Hd (∀ W,Bl W0 W->(Cl W w.heap.size 0 (.slice s.sp s.sn s.sc)/\Cl W w.heap.size 1 (.slice s.pp s.pn s.pc)/\Cl W w.heap.size 2 (.slice s.lp s.ln s.lc)/\Cl W (w.heap.size+1) 0 (.int .i64 sw)/\Cl W (w.heap.size+1) 1 (.int .i64 port))):=fun W hb=>by
  have hz:W0.heap.size=w.heap.size+1+1:=by rw[hW0];simp
  refine ⟨(hb.cell (p:=⟨w.heap.size,0,none⟩) (by show w.heap.size<_;omega)).trans ?_,(hb.cell (p:=⟨w.heap.size,1,none⟩) (by show w.heap.size<_;omega)).trans ?_,(hb.cell (p:=⟨w.heap.size,2,none⟩) (by show w.heap.size<_;omega)).trans ?_,(hb.cell (p:=⟨w.heap.size+1,0,none⟩) (by show w.heap.size+1<_;omega)).trans ?_,(hb.cell (p:=⟨w.heap.size+1,1,none⟩) (by show w.heap.size+1<_;omega)).trans ?_⟩<;>rw[hW0]<;>simp[go_sem]
 rw[<- hW0];clear hW0;by_cases h0:0<=sw
 ·by_cases h1:sw<(s.pn:Int)
  ·obtain ⟨k,rfl⟩:∃k:Nat,sw=(k:Int):=⟨sw.toNat,om⟩;obtain ⟨b,o,p1,n1,c1,hps,hb,y0,hy⟩:=IsRow.elT (HP.o.below keepIs HB0.o) (j:=k) (by have:=HN.o;omega);obtain ⟨R,hR⟩:=nm ((n.ports.getD k []).contains port);have HC:Hd (∀ W,Bl W0 W->Calls Tryz.prog 107 #[.slice p1 n1 c1, .int .i64 port] W fun r w'=>r= .returned (.bool R)/\Bl W w'):=fun W hw=>by
    rw[hR];exact contains_int _ p1 n1 c1 port W (hy.below keepI hw)
   have HY:Hd (∀ W,Bl W0 W->Cl W b (o+k) (.slice p1 n1 c1)):=fun W hw=>(hw.cell (p:=⟨b,o+k,none⟩) hb).trans y0
   have HR:Hd (T=R):=by
    show _=_;have hn:=HN.o;rw[HT.o,hR];unfold ntThere;rw[show decide (0<=(k:Int)/\(k:Int)<(n.ports.length:Int))=true by simp;omega];simp
   clear hR y0 hy hb;generalize s.pp=spp at*;subst hps;refine roB W0 ?_;refine sq (fun aa ww ll hh=>by have:=hh.oL 3;exact ov gX) ?_;refine sq (fun aa ww ll hh=>by have:=hh.gt 0 0;obtain ⟨n0,n1,n2,e0,e1⟩:=HCE.o ww hh.inv;have y0:=HY.o ww hh.inv;exact ov gX) ?_;refine sq (fun aa ww ll hh=>by have:=hh.gt 1 0;have ec:=evc aa;exact ov gX) ?_;refine stm 2 0 ?_;refine sq (fun aa ww ll hh=>by have:=hh.oL 3;exact hh.og 0 gX) ?_;refine sq (fun aa ww ll hh=>by have:=hh.gt 4 0;obtain ⟨n0,n1,n2,e0,e1⟩:=HCE.o ww hh.inv;have y0:=HY.o ww hh.inv;exact hh.og 1 gX) ?_;refine sq (fun aa ww ll hh=>by have:=hh.oL 2;exact hh.og 2 gX) ?_;refine sq (fun aa ww ll hh=>by have:=hh.gt 6 0;obtain ⟨n0,n1,n2,e0,e1⟩:=HCE.o ww hh.inv;have y0:=HY.o ww hh.inv;exact hh.og 3 gX) ?_;refine sq (fun aa ww ll hh=>by have:=hh.gt 7 0;obtain ⟨n0,n1,n2,e0,e1⟩:=HCE.o ww hh.inv;have y0:=HY.o ww hh.inv;exact hh.og 4 gX) ?_;refine sq (fun aa ww ll hh=>by have:=hh.gt 5 3;have:=hh.gt 8 0;exact hh.og 5 gX) ?_;refine sq (fun aa ww ll hh=>by have:=hh.gt 3 6;have:=hh.gt 9 0;have ec:=evc aa;exact ov gX) ?_;refine stm 10 0 ?_;refine sq (fun aa ww ll hh=>by have:=hh.oL 2;exact hh.og 0 gX) ?_;refine sq (fun aa ww ll hh=>by have:=hh.gt 12 0;obtain ⟨n0,n1,n2,e0,e1⟩:=HCE.o ww hh.inv;have y0:=HY.o ww hh.inv;exact hh.og 1 gX) ?_;refine sq (fun aa ww ll hh=>by have:=hh.oL 3;exact hh.og 2 gX) ?_;refine sq (fun aa ww ll hh=>by have:=hh.gt 14 0;obtain ⟨n0,n1,n2,e0,e1⟩:=HCE.o ww hh.inv;have y0:=HY.o ww hh.inv;exact hh.og 3 gX) ?_;refine sq (fun aa ww ll hh=>by have:=hh.gt 13 2;have:=hh.gt 15 0;exact hh.og 4 gX) ?_;refine sq (fun aa ww ll hh=>by have:=hh.gt 16 0;obtain ⟨n0,n1,n2,e0,e1⟩:=HCE.o ww hh.inv;have y0:=HY.o ww hh.inv;exact hh.og 5 gX) ?_;refine sq (fun aa ww ll hh=>by have:=hh.oL 3;exact hh.og 6 gX) ?_;refine sq (fun aa ww ll hh=>by have:=hh.gt 18 0;obtain ⟨n0,n1,n2,e0,e1⟩:=HCE.o ww hh.inv;have y0:=HY.o ww hh.inv;exact hh.og 7 gX) ?_;refine ⟨.eq (.bool R),trivial,rfl,fun aa ww ll hh=>?_,?_⟩
   ·have e22:=hh.gt 17 2;have e24:=hh.gt 19 0;have ef:=evf aa;refine out_call_eq (hh.go 8 rfl kq rfl rfl) ?_ (HC.o ww hh.inv);exact gX
   refine sq (fun aa ww ll hh=>by have:=hh.gt 11 9;have:=hh.gt 20 0;have ec:=evc aa;exact ov gX) ?_;refine stm 21 0 ?_;intro ll w2 hS hok;clear hok;simp only[ly];go_wp2_with fail;go_ret;exact ⟨by rw[HR.o];rfl,HB0.o.trans (hS.mono HB0.o.size)⟩
  ·have HR:Hd (T=false):=by
    show _=_;have hn:=HN.o;rw[HT.o];unfold ntThere;rw[show decide (0<=sw/\sw<(n.ports.length:Int))=false by simp;omega];rfl
   refine roB W0 ?_;refine sq (fun aa ww ll hh=>by have:=hh.oL 3;exact ov gX) ?_;refine sq (fun aa ww ll hh=>by have:=hh.gt 0 0;exact ov (fC (HCE.o ww hh.inv))) ?_;refine sq (fun aa ww ll hh=>by have:=hh.gt 1 0;have ec:=evc aa;exact ov gX) ?_;refine stm 2 0 ?_;refine sq (fun aa ww ll hh=>by have:=hh.oL 3;exact hh.og 0 gX) ?_;refine sq (fun aa ww ll hh=>by have:=hh.gt 4 0;exact hh.og 1 (fC (HCE.o ww hh.inv))) ?_;refine sq (fun aa ww ll hh=>by have:=hh.oL 2;exact hh.og 2 gX) ?_;refine sq (fun aa ww ll hh=>by have:=hh.gt 6 0;exact hh.og 3 (fC (HCE.o ww hh.inv))) ?_;refine sq (fun aa ww ll hh=>by have:=hh.gt 7 0;exact hh.og 4 (fC (HCE.o ww hh.inv))) ?_;refine sq (fun aa ww ll hh=>by have:=hh.gt 5 3;have:=hh.gt 8 0;exact hh.og 5 gX) ?_;refine sq (fun aa ww ll hh=>by have:=hh.gt 3 6;have:=hh.gt 9 0;have ec:=evc aa;exact ov gX) ?_;refine stm 10 0 ?_;refine stk 0 ?_;refine stk 1 ?_;refine stk 2 ?_;refine stk 3 ?_;refine stk 4 ?_;refine stk 5 ?_;refine stk 6 ?_;refine stk 7 ?_;refine stk 8 ?_;refine sq (fun aa ww ll hh=>by have:=hh.gt 11 9;have:=hh.gt 20 0;have ec:=evc aa;exact ov gX) ?_;refine stm 21 0 ?_;intro ll w2 hS hok;clear hok;simp only[ly];go_wp2_with fail;go_ret;exact ⟨by rw[HR.o];rfl,HB0.o.trans (hS.mono HB0.o.size)⟩
 ·have HR:Hd (T=false):=by
   show _=_;rw[HT.o];unfold ntThere;rw[show decide (0<=sw/\sw<(n.ports.length:Int))=false by simp;omega];rfl
  refine roB W0 ?_;refine sq (fun aa ww ll hh=>by have:=hh.oL 3;exact ov gX) ?_;refine sq (fun aa ww ll hh=>by have:=hh.gt 0 0;exact ov (fC (HCE.o ww hh.inv))) ?_;refine sq (fun aa ww ll hh=>by have:=hh.gt 1 0;have ec:=evc aa;exact ov gX) ?_;refine stm 2 0 ?_;refine stk 0 ?_;refine stk 1 ?_;refine stk 2 ?_;refine stk 3 ?_;refine stk 4 ?_;refine stk 5 ?_;refine sq (fun aa ww ll hh=>by have:=hh.gt 3 6;have:=hh.gt 9 0;have ec:=evc aa;exact ov gX) ?_;refine stm 10 0 ?_;refine stk 0 ?_;refine stk 1 ?_;refine stk 2 ?_;refine stk 3 ?_;refine stk 4 ?_;refine stk 5 ?_;refine stk 6 ?_;refine stk 7 ?_;refine stk 8 ?_;refine sq (fun aa ww ll hh=>by have:=hh.gt 11 9;have:=hh.gt 20 0;have ec:=evc aa;exact ov gX) ?_;refine stm 21 0 ?_;intro ll w2 hS hok;clear hok;simp only[ly];go_wp2_with fail;go_ret;exact ⟨by rw[HR.o];rfl,HB0.o.trans (hS.mono HB0.o.size)⟩
open Go.RowKit
theorem eqlE (a b c d:Int) (W:World):(Go.binOp .eql 54 (.agg #[.int .i64 a, .int .i64 b]) (.agg #[.int .i64 c, .int .i64 d])).run Tryz.prog W= .ok (.bool (decide (a=c/\b=d))) W:=by
 by_cases h1:a=c<;>by_cases h2:b=d<;>simp[go_sem,h1,h2]
theorem LRow.el {p:Option Addr} {l:List Lnk} (h:LRow w (.slice p n c) l) {j:Nat} {x:Lnk} (hj:l[j]?=some x):∃b o,p=some ⟨b,o,none⟩/\b<w.heap.size/\LAt w b (o+j*4) x:=by
 obtain ⟨b,o,e,h1,h2⟩:=h.get hj;exact ⟨b,o,e,h1,h2⟩
theorem next_any (s:NtS) (n:Net) (e:Ed) (w:World) (h:NtOk w s n):
 Calls Tryz.prog 34 #[ntV s,EdV e] w fun r w'=>r= .returned (.tuple #[EdV (nextT n e).1, .bool (nextT n e).2.1, .bool (nextT n e).2.2])/\Bl w w':=by
 have HN:Hd (s.ln=n.links.length):=h.links.ln.1;have hmx:s.ln<=9223372036854775807:=by obtain ⟨h1,h2,h3,-⟩:=h.links.ln;unfold maxLen at h3;omega
 have HL:=hD h.links;have HTH:Hd (∀ W,Bl w W->Calls Tryz.prog 76 #[ntV s,EdV e] W fun r w'=>r= .returned (.bool (ntThere n e))/\Bl W w'):=fun W hb=>there_any s n e W (h.below hb)
 obtain ⟨R,hR⟩:=nm (nextT n e);have HRR:Hd (R=if ntThere n e then (match linkP e n.links with|some x=>(x,true,true)|none=>(⟨0,0⟩,true,false)) else (⟨0,0⟩,false,false)):=hR;rw[<- hR];clear hR h;generalize ntThere n e=T at*;obtain ⟨LK,hLK⟩:=nm (linkP e n.links);rw[<- hLK] at HRR;have HLK:=hD hLK;clear hLK;obtain ⟨sw,port⟩:=e;unfold ntV EdV at HTH⊢;dsimp only at HTH⊢;go_enter Tryz.func34,Tryz.ntmps34;go_upto_region 1 with fail
 obtain ⟨W0,hW0⟩:=nm (((w.alloc (.cells #[.slice s.sp s.sn s.sc, .slice s.pp s.pn s.pc, .slice s.lp s.ln s.lc] 52)).alloc (.cells #[.int .i64 sw, .int .i64 port] 54)).alloc (.cells #[.int .i64 0, .int .i64 0] 54));have HB0:Hd (Bl w W0):=by show Below _ _ _;rw[hW0];exact bL
 have HSZ:Hd (W0.heap.size=w.heap.size+1+1+1):=by show _=_;rw[hW0];simp
 have HCE:Hd (∀ W,Bl W0 W->(Cl W w.heap.size 0 (.slice s.sp s.sn s.sc)/\Cl W w.heap.size 1 (.slice s.pp s.pn s.pc)/\Cl W w.heap.size 2 (.slice s.lp s.ln s.lc)/\Cl W (w.heap.size+1) 0 (.int .i64 sw)/\Cl W (w.heap.size+1) 1 (.int .i64 port))):=fun W hb=>by
  have hz:=HSZ.o;refine ⟨(hb.cell (p:=⟨w.heap.size,0,none⟩) (by show w.heap.size<_;omega)).trans ?_,(hb.cell (p:=⟨w.heap.size,1,none⟩) (by show w.heap.size<_;omega)).trans ?_,(hb.cell (p:=⟨w.heap.size,2,none⟩) (by show w.heap.size<_;omega)).trans ?_,(hb.cell (p:=⟨w.heap.size+1,0,none⟩) (by show w.heap.size+1<_;omega)).trans ?_,(hb.cell (p:=⟨w.heap.size+1,1,none⟩) (by show w.heap.size+1<_;omega)).trans ?_⟩<;>rw[hW0]<;>simp[go_sem]
 have HCR:Hd (∀ W,Bl W0 W->W.heap[w.heap.size+1+1]?=some (.cells #[.int .i64 0, .int .i64 0] 54 (0,0))):=fun W hb=>by
  have hz:=HSZ.o;refine (hb.block _ om).trans ?_;rw[hW0];exact hq3 _ _ _ _
 rw[<- hW0];clear hW0;obtain ⟨n0,n1,n2,e0,e1⟩:=HCE.o W0 br;go_upto_region 2 with (go_at_call 76;refine (HTH.o _ HB0.o).mono ?_;rintro e w1 ⟨rfl,hb1⟩;have HB1:=hD hb1;clear hb1;have HBW:=hD (HB0.o.trans (HB1.o.mono HB0.o.size));clear n0 n1 n2 e0 e1;obtain ⟨n0,n1,n2,e0,e1⟩:=HCE.o w1 HB1.o;cases T)
 ·have HRF:Hd (R=(⟨0,0⟩,false,false)):=HRR.o;have HX:=hD (HCR.o w1 HB1.o);have r0:w1.cell? ⟨w.heap.size+1+1,0,none⟩=some (.int .i64 0):=by have h:=HX.o;simp[World.cell?,h]
  have r1:w1.cell? ⟨w.heap.size+1+1,1,none⟩=some (.int .i64 0):=by have h:=HX.o;simp[World.cell?,h]
  have f0:w1.frozen? ⟨w.heap.size+1+1,0,none⟩=false:=by have h:=HX.o;simp[World.frozen?,h]
  have f1:w1.frozen? ⟨w.heap.size+1+1,1,none⟩=false:=by have h:=HX.o;simp[World.frozen?,h]
  go_wp2_with fail;have hg:=set_lo (.int .i64 0) (set_hi (.int .i64 0) HX.o);have hb7:=(HBW.o.setCell (p:=⟨w.heap.size+1+1,0,none⟩) (by show w.heap.size<=w.heap.size+1+1;omega) (.int .i64 0)).setCell (p:=⟨w.heap.size+1+1,1,none⟩) (by show w.heap.size<=w.heap.size+1+1;omega) (.int .i64 0);generalize (w1.setCell ⟨w.heap.size+1+1,0,none⟩ (.int .i64 0)).setCell ⟨w.heap.size+1+1,1,none⟩ (.int .i64 0)=W7 at*;clear r0 r1 f0 f1;have m0:W7.cell? ⟨w.heap.size+1+1,0,none⟩=some (.int .i64 0):=by simp[World.cell?,hg]
  have m1:W7.cell? ⟨w.heap.size+1+1,1,none⟩=some (.int .i64 0):=by simp[World.cell?,hg]
  clear hg;refine bodyPost_ret (v:= .tuple #[.agg #[.int .i64 0, .int .i64 0], .bool false, .bool false]) ?_ rfl ⟨by rw[HRF.o],hb7⟩;simp[results,Tryz.results34,go_sem,m0,m1]
 ·clear n0 n1 n2 e0 e1;go_loopw [8,17] (fun u i wr=>∃k:Nat,k<=s.ln/\i= .int .i64 (k:Int)/\Hd (LK=linkP ⟨sw,port⟩ (n.links.drop k))/\Hd (Bl w1 wr)) (fun _ i _=>s.ln-(intOf i).toNat)
  case atStart=>exact ⟨0,zl,rfl,HLK.o,Below.refl _ _⟩
  case round=>
   obtain ⟨k,hk,rfl,HE,HB⟩:=hrel;have HWW:=hD (HB1.o.trans (HB.o.mono HB1.o.size));have HWL:=hD (HBW.o.trans (HB.o.mono HBW.o.size));by_cases hlt:k<s.ln
   ·have hki:(k:Int)<(s.ln:Int):=om
    obtain ⟨x,hx⟩:∃x,n.links[k]?=some x:=⟨_,gE_ (by have:=HN.o;omega)⟩;obtain ⟨b,o,hps,hb,c0,c1,c2,c3⟩:=LRow.el (HL.o.below keepL HWL.o) hx;have HDR:Hd (linkP ⟨sw,port⟩ (n.links.drop k)=if x.a=⟨sw,port⟩ then some x.b else if x.b=⟨sw,port⟩ then some x.a else linkP ⟨sw,port⟩ (n.links.drop (k+1))):=by
     show _=_;rw[List.drop_eq_getElem_cons (gL_ hx).1,linkP,(gL_ hx).2]
    obtain ⟨⟨xs,xp⟩,⟨ys,yp⟩⟩:=x;dsimp only at c0 c1 c2 c3 HDR;clear hx;generalize s.lp=slp at*;subst hps;go_upto_region 6 with fail
    obtain ⟨W5,hW5⟩:=nm (wr.alloc (.cells #[.int .i64 xs, .int .i64 xp, .int .i64 ys, .int .i64 yp] 151));have HB5:Hd (Bl wr W5):=by show Below _ _ _;rw[hW5];exact br.alloc lr _
    have HL5:Hd (W5.heap[wr.heap.size]?=some (.cells #[.int .i64 xs, .int .i64 xp, .int .i64 ys, .int .i64 yp] 151 (0,0))):=by show _=_;rw[hW5];exact heap_new _ _
    rw[<- hW5];clear hW5 c0 c1 c2 c3;have HW5:=hD (HWL.o.trans (HB5.o.mono HWL.o.size));have HW0:=hD (HWW.o.trans (HB5.o.mono HWW.o.size));have l0:W5.cell? ⟨wr.heap.size,0,none⟩=some (.int .i64 xs):=by have h:=HL5.o;simp[World.cell?,h]
    have l1:W5.cell? ⟨wr.heap.size,1,none⟩=some (.int .i64 xp):=by have h:=HL5.o;simp[World.cell?,h]
    have l2:W5.cell? ⟨wr.heap.size,2,none⟩=some (.int .i64 ys):=by have h:=HL5.o;simp[World.cell?,h]
    have l3:W5.cell? ⟨wr.heap.size,3,none⟩=some (.int .i64 yp):=by have h:=HL5.o;simp[World.cell?,h]
    obtain ⟨n0,n1,n2,e0,e1⟩:=HCE.o W5 HW0.o;have HX:=hD (HCR.o W5 HW0.o);have r0:W5.cell? ⟨w.heap.size+1+1,0,none⟩=some (.int .i64 0):=by have h:=HX.o;simp[World.cell?,h]
    have r1:W5.cell? ⟨w.heap.size+1+1,1,none⟩=some (.int .i64 0):=by have h:=HX.o;simp[World.cell?,h]
    have f0:W5.frozen? ⟨w.heap.size+1+1,0,none⟩=false:=by have h:=HX.o;simp[World.frozen?,h]
    have f1:W5.frozen? ⟨w.heap.size+1+1,1,none⟩=false:=by have h:=HX.o;simp[World.frozen?,h]
    by_cases h1:xs=sw/\xp=port
    ·have HRF:Hd (R=(⟨ys,yp⟩,true,true)):=by
      show _=_;have e:LK=some ⟨ys,yp⟩:=by rw[HE.o,HDR.o];exact if_pos (by rw[h1.1,h1.2])
      rw[HRR.o,e];rfl
     have k1:∀W:World,(Go.binOp .eql 54 (.agg #[.int .i64 sw, .int .i64 port]) (.agg #[.int .i64 xs, .int .i64 xp])).run Tryz.prog W= .ok (.bool true) W:=fun W=>by rw[eqlE];simp[h1]
     clear h1;go_wp2_with fail;have hg:=set_lo (.int .i64 yp) (set_hi (.int .i64 ys) HX.o);have hb7:=(HW5.o.setCell (p:=⟨w.heap.size+1+1,0,none⟩) (by show w.heap.size<=w.heap.size+1+1;omega) (.int .i64 ys)).setCell (p:=⟨w.heap.size+1+1,1,none⟩) (by show w.heap.size<=w.heap.size+1+1;omega) (.int .i64 yp);generalize (W5.setCell ⟨w.heap.size+1+1,0,none⟩ (.int .i64 ys)).setCell ⟨w.heap.size+1+1,1,none⟩ (.int .i64 yp)=W7 at*;clear r0 r1 f0 f1;have m0:W7.cell? ⟨w.heap.size+1+1,0,none⟩=some (.int .i64 ys):=by simp[World.cell?,hg]
     have m1:W7.cell? ⟨w.heap.size+1+1,1,none⟩=some (.int .i64 yp):=by simp[World.cell?,hg]
     clear hg;refine bodyPost_ret (v:= .tuple #[.agg #[.int .i64 ys, .int .i64 yp], .bool true, .bool true]) ?_ rfl ⟨by rw[HRF.o],hb7⟩;simp[results,Tryz.results34,go_sem,m0,m1]
    ·have HDA:Hd (¬ (⟨xs,xp⟩:Ed)=⟨sw,port⟩):=fun e=>h1 (by cases e;exact ⟨rfl,rfl⟩)
     have k1:∀W:World,(Go.binOp .eql 54 (.agg #[.int .i64 sw, .int .i64 port]) (.agg #[.int .i64 xs, .int .i64 xp])).run Tryz.prog W= .ok (.bool false) W:=fun W=>by rw[eqlE];congr 2;simp only[decide_eq_false_iff_not];exact fun e=>h1 ⟨e.1.symm,e.2.symm⟩
     clear h1;by_cases h2:ys=sw/\yp=port
     ·have HRF:Hd (R=(⟨xs,xp⟩,true,true)):=by
       show _=_;have e:LK=some ⟨xs,xp⟩:=by rw[HE.o,HDR.o];exact (if_neg HDA.o).trans (if_pos (by rw[h2.1,h2.2]))
       rw[HRR.o,e];rfl
      have k2:∀W:World,(Go.binOp .eql 54 (.agg #[.int .i64 sw, .int .i64 port]) (.agg #[.int .i64 ys, .int .i64 yp])).run Tryz.prog W= .ok (.bool true) W:=fun W=>by rw[eqlE];simp[h2]
      clear h2;go_wp2_with fail;have hg:=set_lo (.int .i64 xp) (set_hi (.int .i64 xs) HX.o);have hb7:=(HW5.o.setCell (p:=⟨w.heap.size+1+1,0,none⟩) (by show w.heap.size<=w.heap.size+1+1;omega) (.int .i64 xs)).setCell (p:=⟨w.heap.size+1+1,1,none⟩) (by show w.heap.size<=w.heap.size+1+1;omega) (.int .i64 xp);generalize (W5.setCell ⟨w.heap.size+1+1,0,none⟩ (.int .i64 xs)).setCell ⟨w.heap.size+1+1,1,none⟩ (.int .i64 xp)=W7 at*;clear r0 r1 f0 f1;have m0:W7.cell? ⟨w.heap.size+1+1,0,none⟩=some (.int .i64 xs):=by simp[World.cell?,hg]
      have m1:W7.cell? ⟨w.heap.size+1+1,1,none⟩=some (.int .i64 xp):=by simp[World.cell?,hg]
      clear hg;refine bodyPost_ret (v:= .tuple #[.agg #[.int .i64 xs, .int .i64 xp], .bool true, .bool true]) ?_ rfl ⟨by rw[HRF.o],hb7⟩;simp[results,Tryz.results34,go_sem,m0,m1]
     ·have HDB:Hd (¬ (⟨ys,yp⟩:Ed)=⟨sw,port⟩):=fun e=>h2 (by cases e;exact ⟨rfl,rfl⟩)
      have k2:∀W:World,(Go.binOp .eql 54 (.agg #[.int .i64 sw, .int .i64 port]) (.agg #[.int .i64 ys, .int .i64 yp])).run Tryz.prog W= .ok (.bool false) W:=fun W=>by rw[eqlE];congr 2;simp only[decide_eq_false_iff_not];exact fun e=>h2 ⟨e.1.symm,e.2.symm⟩
      clear h2;go_wp2_with fail;go_roundw
      case rel=>exact ⟨k+1,om,by go_num,by show _=_;rw[HE.o,HDR.o];exact (if_neg HDA.o).trans (if_neg HDB.o),HB.o.trans (HB5.o.mono HB.o.size)⟩
      case measure=>exact mz
   ·obtain rfl:k=s.ln:=om
    have hki:¬(s.ln:Int)<(s.ln:Int):=om
    have HRF:Hd (R=(⟨0,0⟩,true,false)):=by
     show _=_;have e:LK=none:=by rw[HE.o,List.drop_eq_nil_of_le (by have:=HN.o;omega)];rfl
     rw[HRR.o,e];rfl
    have HW5:=HWL;obtain ⟨n0,n1,n2,e0,e1⟩:=HCE.o wr HWW.o;have HX:=hD (HCR.o wr HWW.o);have r0:wr.cell? ⟨w.heap.size+1+1,0,none⟩=some (.int .i64 0):=by have h:=HX.o;simp[World.cell?,h]
    have r1:wr.cell? ⟨w.heap.size+1+1,1,none⟩=some (.int .i64 0):=by have h:=HX.o;simp[World.cell?,h]
    have f0:wr.frozen? ⟨w.heap.size+1+1,0,none⟩=false:=by have h:=HX.o;simp[World.frozen?,h]
    have f1:wr.frozen? ⟨w.heap.size+1+1,1,none⟩=false:=by have h:=HX.o;simp[World.frozen?,h]
    go_wp2_with fail;have hg:=set_lo (.int .i64 0) (set_hi (.int .i64 0) HX.o);have hb7:=(HW5.o.setCell (p:=⟨w.heap.size+1+1,0,none⟩) (by show w.heap.size<=w.heap.size+1+1;omega) (.int .i64 0)).setCell (p:=⟨w.heap.size+1+1,1,none⟩) (by show w.heap.size<=w.heap.size+1+1;omega) (.int .i64 0);generalize (wr.setCell ⟨w.heap.size+1+1,0,none⟩ (.int .i64 0)).setCell ⟨w.heap.size+1+1,1,none⟩ (.int .i64 0)=W7 at*;clear r0 r1 f0 f1;have m0:W7.cell? ⟨w.heap.size+1+1,0,none⟩=some (.int .i64 0):=by simp[World.cell?,hg]
    have m1:W7.cell? ⟨w.heap.size+1+1,1,none⟩=some (.int .i64 0):=by simp[World.cell?,hg]
    clear hg;refine bodyPost_ret (v:= .tuple #[.agg #[.int .i64 0, .int .i64 0], .bool true, .bool false]) ?_ rfl ⟨by rw[HRF.o],hb7⟩;simp[results,Tryz.results34,go_sem,m0,m1]
open Go.RowKit
theorem below_dN (h:Below n w W) (q:Nat):Below n w (W.drewN q):=⟨h.os,h.tape,h.output,h.size,h.block⟩
open Go.RowKit
def EAt2 (w:World) (b o:Nat) (e:Ed):Prop:=w.cell? ⟨b,o,none⟩=some (.int .i64 e.sw)/\w.cell? ⟨b,o+1,none⟩=some (.int .i64 e.port)
theorem keepEd:KeepAt EAt2:=fun _w _w' b o _n hb hlt ⟨h1,h2⟩=>⟨(hb.cell (p:=⟨b,o,none⟩) hlt).trans h1,(hb.cell (p:=⟨b,o+1,none⟩) hlt).trans h2⟩
abbrev EdRow:=RowAt 2 EAt2
def IxE (l:List Ed) (x:Ed) (i:Int):Prop:=decide (0<=i)=l.contains x
theorem containsE_drop {y:Ed} (h:l[k]?=some y) (hn:¬y=x):(l.drop k).contains x=(l.drop (k+1)).contains x:=by
 obtain ⟨h1,h2⟩:=gL_ h;rw[List.drop_eq_getElem_cons h1,List.contains_cons,h2];have:(x==y)=false:=by simp;exact fun e=>hn e.symm
 rw[this,Bool.false_or]
theorem containsE_here (h:l[k]?=some x):(l.drop k).contains x=true:=by
 obtain ⟨h1,h2⟩:=gL_ h;rw[List.drop_eq_getElem_cons h1,List.contains_cons,h2];simp
theorem index_end (l:List Ed) (p:Option Addr) (n c:Nat) (x:Ed) (w:World) (h:EdRow w (.slice p n c) l):
 Calls Tryz.prog 77 #[.slice p n c,EdV x] w fun e w'=>∃i:Int,e= .returned (.int .i64 i)/\IxE l x i/\Bl w w':=by
 have HN:Hd (n=l.length):=h.ln.1;have hmx:n<=9223372036854775807:=by obtain ⟨h1,h2,h3,-⟩:=h.ln;unfold maxLen at h3;omega
 have HC:=hD h;clear h;obtain ⟨sw,port⟩:=x;unfold EdV;dsimp only;go_enter Tryz.func77,Tryz.ntmps77;go_upto_region 1 with fail
 obtain ⟨W0,hW0⟩:=nm (w.alloc (.cells #[.int .i64 sw, .int .i64 port] 54));have HB0:Hd (Bl w W0):=by show Below _ _ _;rw[hW0];exact bL
 have HCE:Hd (∀ W,Bl W0 W->(Cl W w.heap.size 0 (.int .i64 sw)/\Cl W w.heap.size 1 (.int .i64 port))):=fun W hb=>by
  have hz:W0.heap.size=w.heap.size+1:=by rw[hW0];simp
  refine ⟨(hb.cell (p:=⟨w.heap.size,0,none⟩) (by show w.heap.size<_;omega)).trans ?_,(hb.cell (p:=⟨w.heap.size,1,none⟩) (by show w.heap.size<_;omega)).trans ?_⟩<;>rw[hW0]<;>simp[go_sem]
 rw[<- hW0];clear hW0;go_wp2_with fail;go_loopw [5,8] (fun u i wr=>∃k:Nat,k<=n/\i= .int .i64 (k:Int)/\Hd (l.contains (⟨sw,port⟩:Ed)=(l.drop k).contains (⟨sw,port⟩:Ed))/\Hd (Bl W0 wr)) (fun _ i _=>n-(intOf i).toNat)
 case atStart=>exact ⟨0,zl,rfl,rfl,Below.refl _ _⟩
 case round=>
  obtain ⟨k,hk,rfl,HE,HB⟩:=hrel;have HBW:=hD (HB0.o.trans (HB.o.mono HB0.o.size));obtain ⟨e0,e1⟩:=HCE.o wr HB.o;by_cases hlt:k<n
  ·have hki:(k:Int)<(n:Int):=om
   obtain ⟨y,hy⟩:∃y,l[k]?=some y:=⟨_,gE_ (by have:=HN.o;omega)⟩;obtain ⟨b,o,rfl,hb,y0,y1⟩:=(HC.o.below keepEd HBW.o).get hy;have HY:=hD hy;clear hy;by_cases hx:y=⟨sw,port⟩
   ·subst hx;have k1:∀W:World,(Go.binOp .eql 54 (.agg #[.int .i64 sw, .int .i64 port]) (.agg #[.int .i64 sw, .int .i64 port])).run Tryz.prog W= .ok (.bool true) W:=fun W=>by rw[eqlE];simp
    dsimp only at y0 y1;go_wp2_with (go_quiet (fail));go_ret;exact ⟨_,rfl,by unfold IxE;rw[HE.o,containsE_here HY.o];simp,below_dN HBW.o _⟩
   ·obtain ⟨ys,yp⟩:=y;have HX:=hD hx;have k1:∀W:World,(Go.binOp .eql 54 (.agg #[.int .i64 sw, .int .i64 port]) (.agg #[.int .i64 ys, .int .i64 yp])).run Tryz.prog W= .ok (.bool false) W:=fun W=>by rw[eqlE];congr 2;simp only[decide_eq_false_iff_not];exact fun e=>hx (by rw[e.1,e.2])
    clear hx;dsimp only at y0 y1;go_wp2_with (go_quiet (fail));go_roundw
    case rel=>exact ⟨k+1,om,by go_num,by show _=_;rw[HE.o,containsE_drop HY.o HX.o],below_dN HB.o _⟩
    case measure=>exact mz
  ·obtain rfl:k=n:=om
   have hki:¬(k:Int)<(k:Int):=om
   go_wp2_with fail;go_ret;exact ⟨_,rfl,by unfold IxE;rw[HE.o,List.drop_eq_nil_of_le (by have:=HN.o;omega)];rfl,HBW.o⟩
theorem contains_end (l:List Ed) (p:Option Addr) (n c:Nat) (x:Ed) (w:World) (h:EdRow w (.slice p n c) l):
 Calls Tryz.prog 37 #[.slice p n c,EdV x] w fun e w'=>e= .returned (.bool (l.contains x))/\Bl w w':=by
 have HI:Hd (∀ W,Bl w W->Calls Tryz.prog 77 #[.slice p n c,EdV x] W fun e w'=>∃i:Int,e= .returned (.int .i64 i)/\IxE l x i/\Bl W w'):=fun W hb=>index_end l p n c x W (h.below keepEd hb)
 clear h;obtain ⟨R,hR⟩:=nm (l.contains x);have HR:=hD hR;rw[<- hR];clear hR;unfold IxE at HI;rw[<- HR.o] at HI;obtain ⟨sw,port⟩:=x;unfold EdV at HI⊢;dsimp only at HI⊢;go_enter Tryz.func37,Tryz.ntmps37;go_upto_region 1 with fail
 obtain ⟨W0,hW0⟩:=nm (w.alloc (.cells #[.int .i64 sw, .int .i64 port] 54));have HB0:Hd (Bl w W0):=by show Below _ _ _;rw[hW0];exact bL
 have e0:W0.cell? ⟨w.heap.size,0,none⟩=some (.int .i64 sw):=by rw[hW0];simp[go_sem]
 have e1:W0.cell? ⟨w.heap.size,1,none⟩=some (.int .i64 port):=by rw[hW0];simp[go_sem]
 rw[<- hW0];clear hW0;go_wp2_with (go_at_call 77;refine (HI.o _ HB0.o).mono ?_;rintro e w1 ⟨i,rfl,hi,hb⟩;have HB:=hD hb;have HI1:=hD hi;clear hi hb);go_ret;exact ⟨by rw[<- HI1.o];rfl,HB0.o.trans (HB.o.mono HB0.o.size)⟩
def TBx (W:World) (g:Nat) (hv bv:Value) (how:Int) (at_:Ed) (acc:Bool):Prop:=W.heap[g]?=some (.cells #[hv, .int .u8 how, .int .i64 at_.sw, .int .i64 at_.port,bv, .bool acc] 59 (0,0))
theorem TBx.cells (h:TBx W g hv bv how at_ acc):W.cell? ⟨g,0,none⟩=some hv/\W.cell? ⟨g,1,none⟩=some (.int .u8 how)/\W.cell? ⟨g,2,none⟩=some (.int .i64 at_.sw)/\W.cell? ⟨g,3,none⟩=some (.int .i64 at_.port)/\W.cell? ⟨g,4,none⟩=some bv/\W.cell? ⟨g,5,none⟩=some (.bool acc):=by
 unfold TBx at h;refine ⟨?_,?_,?_,?_,?_,?_⟩<;>simp[World.cell?,h]
theorem TBx.below {W':World} (h:TBx W g hv bv how at_ acc) (hb:Bl W W'):TBx W' g hv bv how at_ acc:=(hb.block _ (gA_ h).1).trans h
structure AkS where
 fp:Option Addr
 fn:Nat
 fc:Nat
 tp:Option Addr
 tn:Nat
 tc:Nat
 qp:Option Addr
 qn:Nat
 qc:Nat
def akV (kind:Int) (s:AkS):Value:= .agg #[.int .u8 kind, .slice s.fp s.fn s.fc, .slice s.tp s.tn s.tc, .slice s.qp s.qn s.qc]
section
variable {g:Nat} {hv bv:Value} {how:Int} {at_:Ed} {acc:Bool} {w:World}
theorem does4_any (kind:Int) (s:AkS) (h:TBx w g hv bv how at_ acc):Calls Tryz.prog 40 #[akV kind s, .pointer (some ⟨g,0,none⟩)] w fun e w'=>e= .returned (.bool acc)/\Bl w w':=by
 obtain ⟨t0,t1,t2,t3,t4,t5⟩:=(h.below (W':=w.alloc (.cells #[.int .u8 kind, .slice s.fp s.fn s.fc, .slice s.tp s.tn s.tc, .slice s.qp s.qn s.qc] 72)) (br.alloc lr _)).cells;unfold akV;go_enter Tryz.func40,Tryz.ntmps40;go_wp2_with fail;go_ret;exact ⟨rfl,bL⟩
theorem does2_any (kind:Int) (s:AkS) (h:TBx w g hv bv how at_ acc):Calls Tryz.prog 38 #[akV kind s, .pointer (some ⟨g,0,none⟩)] w fun e w'=>e= .returned (.bool (decide (how=2)))/\Bl w w':=by
 obtain ⟨t0,t1,t2,t3,t4,t5⟩:=(h.below (W':=w.alloc (.cells #[.int .u8 kind, .slice s.fp s.fn s.fc, .slice s.tp s.tn s.tc, .slice s.qp s.qn s.qc] 72)) (br.alloc lr _)).cells;unfold akV;go_enter Tryz.func38,Tryz.ntmps38;go_wp2_with fail;go_ret;exact ⟨rfl,bL⟩
theorem does3_any (kind:Int) (s:AkS) (h:TBx w g hv bv how at_ acc):Calls Tryz.prog 39 #[akV kind s, .pointer (some ⟨g,0,none⟩)] w fun e w'=>e= .returned (.bool (decide (how=3)))/\Bl w w':=by
 obtain ⟨t0,t1,t2,t3,t4,t5⟩:=(h.below (W':=w.alloc (.cells #[.int .u8 kind, .slice s.fp s.fn s.fc, .slice s.tp s.tn s.tc, .slice s.qp s.qn s.qc] 72)) (br.alloc lr _)).cells;unfold akV;go_enter Tryz.func39,Tryz.ntmps39;go_wp2_with fail;go_ret;exact ⟨rfl,bL⟩
theorem does1_any (kind:Int) (s:AkS) (l:List Ed) (h:TBx w g hv bv how at_ acc) (hl:EdRow w (.slice s.tp s.tn s.tc) l):Calls Tryz.prog 36 #[akV kind s, .pointer (some ⟨g,0,none⟩)] w fun e w'=>e= .returned (.bool (decide (how=1)&&l.contains at_))/\Bl w w':=by
 have HC:Hd (∀ W,Bl w W->CR 37 #[.slice s.tp s.tn s.tc,EdV at_] W (.bool (l.contains at_))):=fun W hb=>contains_end l s.tp s.tn s.tc at_ W (hl.below keepEd hb)
 obtain ⟨t0,t1,t2,t3,t4,t5⟩:=(h.below (W':=w.alloc (.cells #[.int .u8 kind, .slice s.fp s.fn s.fc, .slice s.tp s.tn s.tc, .slice s.qp s.qn s.qc] 72)) (br.alloc lr _)).cells;generalize l.contains at_=R at*;unfold EdV at HC;unfold akV;go_enter Tryz.func36,Tryz.ntmps36;by_cases h1:how=1
 ·subst h1;go_wp2_with (go_at_call 37;refine (HC.o _ bL).mono ?_;rintro e w1 ⟨rfl,hb⟩;have HB:=hD hb;clear hb);go_ret;exact ⟨by simp,Below.trans bL (HB.o.mono sm)⟩
 ·go_wp2_with fail;go_ret;exact ⟨by simp[h1],bL⟩
end
end Go.Proofs.YtikilcbpogfgkaaGreat
