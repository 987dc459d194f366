/- Lemmas. -/
import Derived.Test.YtikilcbpogfgkaaGreatJI39
set_option maxHeartbeats 3200000
set_option maxRecDepth 100000
namespace Go.Proofs.YtikilcbpogfgkaaGreat
open Go.RowKit
variable {w W W' w':World} {n c g b sz k T A:Nat} {hv bv:Value} {how:Int} {at_ e:Ed} {acc:Bool} {xs:List Int}
theorem eqlE (a b c d:Int) (W:World):(Go.binOp .eql 54 (.agg #[.int .i64 a, .int .i64 b]) (.agg #[.int .i64 c, .int .i64 d])).run Tryz.prog W= .ok (.bool (decide (a=c/\b=d))) W:=by
 by_cases h1:a=c<;>by_cases h2:b=d<;>simp[go_sem,h1,h2]
theorem LRow.el {p:Option Addr} {l:List Lnk} (h:LRow w (.slice p n c) l) {j:Nat} {x:Lnk} (hj:l[j]?=some x):∃b o,p=some ⟨b,o,none⟩/\b<w.heap.size/\LAt w b (o+j*4) x:=by
 obtain ⟨b,o,e,h1,h2⟩:=h.get hj;exact ⟨b,o,e,h1,h2⟩
theorem next_any (s:NtS) (n:Net) (e:Ed) (w:World) (h:NtOk w s n):
 Calls Tryz.prog 34 #[ntV s,EdV e] w fun r w'=>r= .returned (.tuple #[EdV (nextT n e).1, .bool (nextT n e).2.1, .bool (nextT n e).2.2])/\Bl w w':=by
 have HN:Hd (s.ln=n.links.length):=h.links.ln.1;have hmx:s.ln<=9223372036854775807:=by obtain ⟨h1,h2,h3,-⟩:=h.links.ln;unfold maxLen at h3;omega
 have HL:=hD h.links;have HTH:Hd (∀ W,Bl w W->Calls Tryz.prog 76 #[ntV s,EdV e] W fun r w'=>r= .returned (.bool (ntThere n e))/\Bl W w'):=fun W hb=>there_any s n e W (h.below hb)
 obtain ⟨R,hR⟩:=nm (nextT n e);have HRR:Hd (R=if ntThere n e then (match linkP e n.links with|some x=>(x,true,true)|none=>(⟨0,0⟩,true,false)) else (⟨0,0⟩,false,false)):=hR;rw[<- hR];clear hR h;generalize ntThere n e=T at*;obtain ⟨LK,hLK⟩:=nm (linkP e n.links);rw[<- hLK] at HRR;have HLK:=hD hLK;clear hLK;obtain ⟨sw,port⟩:=e;unfold ntV EdV at HTH⊢;dsimp only at HTH⊢;go_enter Tryz.func34,Tryz.ntmps34;go_upto_region 1 with fail;obtain ⟨W0,hW0⟩:=nm (((w.alloc (.cells #[.slice s.sp s.sn s.sc, .slice s.pp s.pn s.pc, .slice s.lp s.ln s.lc] 52)).alloc (.cells #[.int .i64 sw, .int .i64 port] 54)).alloc (.cells #[.int .i64 0, .int .i64 0] 54));have HB0:Hd (Bl w W0):=by show Below _ _ _;rw[hW0];exact bL
 have HSZ:Hd (W0.heap.size=w.heap.size+1+1+1):=by show _=_;rw[hW0];simp
 have HCE:Hd (∀ W,Bl W0 W->(Cl W w.heap.size 0 (.slice s.sp s.sn s.sc)/\Cl W w.heap.size 1 (.slice s.pp s.pn s.pc)/\Cl W w.heap.size 2 (.slice s.lp s.ln s.lc)/\Cl W (w.heap.size+1) 0 (.int .i64 sw)/\Cl W (w.heap.size+1) 1 (.int .i64 port))):=fun W hb=>by
  have hz:=HSZ.o;refine ⟨(hb.cell (p:=⟨w.heap.size,0,none⟩) (by show w.heap.size<_;omega)).trans ?_,(hb.cell (p:=⟨w.heap.size,1,none⟩) (by show w.heap.size<_;omega)).trans ?_,(hb.cell (p:=⟨w.heap.size,2,none⟩) (by show w.heap.size<_;omega)).trans ?_,(hb.cell (p:=⟨w.heap.size+1,0,none⟩) (by show w.heap.size+1<_;omega)).trans ?_,(hb.cell (p:=⟨w.heap.size+1,1,none⟩) (by show w.heap.size+1<_;omega)).trans ?_⟩<;>rw[hW0]<;>simp[go_sem]
 have HCR:Hd (∀ W,Bl W0 W->W.heap[w.heap.size+1+1]?=some (.cells #[.int .i64 0, .int .i64 0] 54 (0,0))):=fun W hb=>by
  have hz:=HSZ.o;refine (hb.block _ om).trans ?_;rw[hW0];exact hq3 _ _ _ _
 rw[<- hW0];clear hW0;obtain ⟨n0,n1,n2,e0,e1⟩:=HCE.o W0 br;go_upto_region 2 with (go_at_call 76;refine (HTH.o _ HB0.o).mono ?_;rintro e w1 ⟨rfl,hb1⟩;have HB1:=hD hb1;clear hb1;have HBW:=hD (HB0.o.trans (HB1.o.mono HB0.o.size));clear n0 n1 n2 e0 e1;obtain ⟨n0,n1,n2,e0,e1⟩:=HCE.o w1 HB1.o;cases T)
 ·have HRF:Hd (R=(⟨0,0⟩,false,false)):=HRR.o;have HX:=hD (HCR.o w1 HB1.o);have r0:w1.cell? ⟨w.heap.size+1+1,0,none⟩=some (.int .i64 0):=by have h:=HX.o;simp[World.cell?,h]
  have r1:w1.cell? ⟨w.heap.size+1+1,1,none⟩=some (.int .i64 0):=by have h:=HX.o;simp[World.cell?,h]
  have f0:w1.frozen? ⟨w.heap.size+1+1,0,none⟩=false:=by have h:=HX.o;simp[World.frozen?,h]
  have f1:w1.frozen? ⟨w.heap.size+1+1,1,none⟩=false:=by have h:=HX.o;simp[World.frozen?,h]
  go_wp2_with fail;have hg:=set_lo (.int .i64 0) (set_hi (.int .i64 0) HX.o);have hb7:=(HBW.o.setCell (p:=⟨w.heap.size+1+1,0,none⟩) (by show w.heap.size<=w.heap.size+1+1;omega) (.int .i64 0)).setCell (p:=⟨w.heap.size+1+1,1,none⟩) (by show w.heap.size<=w.heap.size+1+1;omega) (.int .i64 0);generalize (w1.setCell ⟨w.heap.size+1+1,0,none⟩ (.int .i64 0)).setCell ⟨w.heap.size+1+1,1,none⟩ (.int .i64 0)=W7 at*;clear r0 r1 f0 f1;have m0:W7.cell? ⟨w.heap.size+1+1,0,none⟩=some (.int .i64 0):=by simp[World.cell?,hg]
  have m1:W7.cell? ⟨w.heap.size+1+1,1,none⟩=some (.int .i64 0):=by simp[World.cell?,hg]
  clear hg;refine bodyPost_ret (v:= .tuple #[.agg #[.int .i64 0, .int .i64 0], .bool false, .bool false]) ?_ rfl ⟨by rw[HRF.o],hb7⟩;exact gY4
 clear n0 n1 n2 e0 e1;go_loopw [8,17] (fun u i wr=>∃k:Nat,k<=s.ln/\i= .int .i64 (k:Int)/\Hd (LK=linkP ⟨sw,port⟩ (n.links.drop k))/\Hd (Bl w1 wr)) (fun _ i _=>s.ln-(intOf i).toNat)
 case atStart=>exact ⟨0,zl,rfl,HLK.o,Below.refl _ _⟩
 case round=>
  obtain ⟨k,hk,rfl,HE,HB⟩:=hrel;have HWW:=hD (HB1.o.trans (HB.o.mono HB1.o.size));have HWL:=hD (HBW.o.trans (HB.o.mono HBW.o.size));by_cases hlt:k<s.ln
  ·have hki:(k:Int)<(s.ln:Int):=om;obtain ⟨x,hx⟩:∃x,n.links[k]?=some x:=⟨_,gE_ (by have:=HN.o;omega)⟩;obtain ⟨b,o,hps,hb,c0,c1,c2,c3⟩:=LRow.el (HL.o.below keepL HWL.o) hx;have HDR:Hd (linkP ⟨sw,port⟩ (n.links.drop k)=if x.a=⟨sw,port⟩ then some x.b else if x.b=⟨sw,port⟩ then some x.a else linkP ⟨sw,port⟩ (n.links.drop (k+1))):=by
    exact gN4
   obtain ⟨⟨xs,xp⟩,⟨ys,yp⟩⟩:=x;dsimp only at c0 c1 c2 c3 HDR;clear hx;generalize s.lp=slp at*;subst hps;go_upto_region 6 with fail;obtain ⟨W5,hW5⟩:=nm (wr.alloc (.cells #[.int .i64 xs, .int .i64 xp, .int .i64 ys, .int .i64 yp] 151));have HB5:Hd (Bl wr W5):=by show Below _ _ _;rw[hW5];exact br.alloc lr _
   have HL5:Hd (W5.heap[wr.heap.size]?=some (.cells #[.int .i64 xs, .int .i64 xp, .int .i64 ys, .int .i64 yp] 151 (0,0))):=by show _=_;rw[hW5];exact heap_new _ _
   rw[<- hW5];clear hW5 c0 c1 c2 c3;have HW5:=hD (HWL.o.trans (HB5.o.mono HWL.o.size));have HW0:=hD (HWW.o.trans (HB5.o.mono HWW.o.size));have l0:W5.cell? ⟨wr.heap.size,0,none⟩=some (.int .i64 xs):=by have h:=HL5.o;simp[World.cell?,h]
   have l1:W5.cell? ⟨wr.heap.size,1,none⟩=some (.int .i64 xp):=by have h:=HL5.o;simp[World.cell?,h]
   have l2:W5.cell? ⟨wr.heap.size,2,none⟩=some (.int .i64 ys):=by have h:=HL5.o;simp[World.cell?,h]
   have l3:W5.cell? ⟨wr.heap.size,3,none⟩=some (.int .i64 yp):=by have h:=HL5.o;simp[World.cell?,h]
   obtain ⟨n0,n1,n2,e0,e1⟩:=HCE.o W5 HW0.o;have HX:=hD (HCR.o W5 HW0.o);have r0:W5.cell? ⟨w.heap.size+1+1,0,none⟩=some (.int .i64 0):=by have h:=HX.o;simp[World.cell?,h]
   have r1:W5.cell? ⟨w.heap.size+1+1,1,none⟩=some (.int .i64 0):=by have h:=HX.o;simp[World.cell?,h]
   have f0:W5.frozen? ⟨w.heap.size+1+1,0,none⟩=false:=by have h:=HX.o;simp[World.frozen?,h]
   have f1:W5.frozen? ⟨w.heap.size+1+1,1,none⟩=false:=by have h:=HX.o;simp[World.frozen?,h]
   by_cases h1:xs=sw/\xp=port
   ·have HRF:Hd (R=(⟨ys,yp⟩,true,true)):=by
     exact gR4
    have k1:∀W:World,(Go.binOp .eql 54 (.agg #[.int .i64 sw, .int .i64 port]) (.agg #[.int .i64 xs, .int .i64 xp])).run Tryz.prog W= .ok (.bool true) W:=fun W=>by rw[eqlE];simp[h1]
    clear h1;go_wp2_with fail;have hg:=set_lo (.int .i64 yp) (set_hi (.int .i64 ys) HX.o);have hb7:=(HW5.o.setCell (p:=⟨w.heap.size+1+1,0,none⟩) (by show w.heap.size<=w.heap.size+1+1;omega) (.int .i64 ys)).setCell (p:=⟨w.heap.size+1+1,1,none⟩) (by show w.heap.size<=w.heap.size+1+1;omega) (.int .i64 yp);generalize (W5.setCell ⟨w.heap.size+1+1,0,none⟩ (.int .i64 ys)).setCell ⟨w.heap.size+1+1,1,none⟩ (.int .i64 yp)=W7 at*;clear r0 r1 f0 f1;have m0:W7.cell? ⟨w.heap.size+1+1,0,none⟩=some (.int .i64 ys):=by simp[World.cell?,hg]
    have m1:W7.cell? ⟨w.heap.size+1+1,1,none⟩=some (.int .i64 yp):=by simp[World.cell?,hg]
    clear hg;refine bodyPost_ret (v:= .tuple #[.agg #[.int .i64 ys, .int .i64 yp], .bool true, .bool true]) ?_ rfl ⟨by rw[HRF.o],hb7⟩;exact gY4
   have HDA:Hd (¬ (⟨xs,xp⟩:Ed)=⟨sw,port⟩):=fun e=>h1 (by cases e;exact ⟨rfl,rfl⟩)
   have k1:∀W:World,(Go.binOp .eql 54 (.agg #[.int .i64 sw, .int .i64 port]) (.agg #[.int .i64 xs, .int .i64 xp])).run Tryz.prog W= .ok (.bool false) W:=fun W=>by rw[eqlE];congr 2;simp only[decide_eq_false_iff_not];exact fun e=>h1 ⟨e.1.symm,e.2.symm⟩
   clear h1;by_cases h2:ys=sw/\yp=port
   ·have HRF:Hd (R=(⟨xs,xp⟩,true,true)):=by
     exact gM3
    have k2:∀W:World,(Go.binOp .eql 54 (.agg #[.int .i64 sw, .int .i64 port]) (.agg #[.int .i64 ys, .int .i64 yp])).run Tryz.prog W= .ok (.bool true) W:=fun W=>by rw[eqlE];simp[h2]
    clear h2;go_wp2_with fail;have hg:=set_lo (.int .i64 xp) (set_hi (.int .i64 xs) HX.o);have hb7:=(HW5.o.setCell (p:=⟨w.heap.size+1+1,0,none⟩) (by show w.heap.size<=w.heap.size+1+1;omega) (.int .i64 xs)).setCell (p:=⟨w.heap.size+1+1,1,none⟩) (by show w.heap.size<=w.heap.size+1+1;omega) (.int .i64 xp);generalize (W5.setCell ⟨w.heap.size+1+1,0,none⟩ (.int .i64 xs)).setCell ⟨w.heap.size+1+1,1,none⟩ (.int .i64 xp)=W7 at*;clear r0 r1 f0 f1;have m0:W7.cell? ⟨w.heap.size+1+1,0,none⟩=some (.int .i64 xs):=by simp[World.cell?,hg]
    have m1:W7.cell? ⟨w.heap.size+1+1,1,none⟩=some (.int .i64 xp):=by simp[World.cell?,hg]
    clear hg;refine bodyPost_ret (v:= .tuple #[.agg #[.int .i64 xs, .int .i64 xp], .bool true, .bool true]) ?_ rfl ⟨by rw[HRF.o],hb7⟩;exact gY4
   have HDB:Hd (¬ (⟨ys,yp⟩:Ed)=⟨sw,port⟩):=fun e=>h2 (by cases e;exact ⟨rfl,rfl⟩)
   have k2:∀W:World,(Go.binOp .eql 54 (.agg #[.int .i64 sw, .int .i64 port]) (.agg #[.int .i64 ys, .int .i64 yp])).run Tryz.prog W= .ok (.bool false) W:=fun W=>by rw[eqlE];congr 2;simp only[decide_eq_false_iff_not];exact fun e=>h2 ⟨e.1.symm,e.2.symm⟩
   clear h2;go_wp2_with fail;go_roundw
   case rel=>exact ⟨k+1,om,by go_num,by show _=_;rw[HE.o,HDR.o];exact (if_neg HDA.o).trans (if_neg HDB.o),HB.o.trans (HB5.o.mono HB.o.size)⟩
   case measure=>exact mz
  obtain rfl:k=s.ln:=om;have hki:¬(s.ln:Int)<(s.ln:Int):=om;have HRF:Hd (R=(⟨0,0⟩,true,false)):=by
   exact gT4
  have HW5:=HWL;obtain ⟨n0,n1,n2,e0,e1⟩:=HCE.o wr HWW.o;have HX:=hD (HCR.o wr HWW.o);have r0:wr.cell? ⟨w.heap.size+1+1,0,none⟩=some (.int .i64 0):=by have h:=HX.o;simp[World.cell?,h]
  have r1:wr.cell? ⟨w.heap.size+1+1,1,none⟩=some (.int .i64 0):=by have h:=HX.o;simp[World.cell?,h]
  have f0:wr.frozen? ⟨w.heap.size+1+1,0,none⟩=false:=by have h:=HX.o;simp[World.frozen?,h]
  have f1:wr.frozen? ⟨w.heap.size+1+1,1,none⟩=false:=by have h:=HX.o;simp[World.frozen?,h]
  go_wp2_with fail;have hg:=set_lo (.int .i64 0) (set_hi (.int .i64 0) HX.o);have hb7:=(HW5.o.setCell (p:=⟨w.heap.size+1+1,0,none⟩) (by show w.heap.size<=w.heap.size+1+1;omega) (.int .i64 0)).setCell (p:=⟨w.heap.size+1+1,1,none⟩) (by show w.heap.size<=w.heap.size+1+1;omega) (.int .i64 0);generalize (wr.setCell ⟨w.heap.size+1+1,0,none⟩ (.int .i64 0)).setCell ⟨w.heap.size+1+1,1,none⟩ (.int .i64 0)=W7 at*;clear r0 r1 f0 f1;have m0:W7.cell? ⟨w.heap.size+1+1,0,none⟩=some (.int .i64 0):=by simp[World.cell?,hg]
  have m1:W7.cell? ⟨w.heap.size+1+1,1,none⟩=some (.int .i64 0):=by simp[World.cell?,hg]
  clear hg;refine bodyPost_ret (v:= .tuple #[.agg #[.int .i64 0, .int .i64 0], .bool true, .bool false]) ?_ rfl ⟨by rw[HRF.o],hb7⟩;exact gY4
open Go.RowKit
theorem below_dN (h:Below n w W) (q:Nat):Below n w (W.drewN q):=⟨h.os,h.tape,h.output,h.size,h.block⟩
theorem next13_any (s:NtS) (n:Net) (e:Ed) (w:World) (h:NtOk w s n):
 Calls Tryz.prog 32 #[ntV s,EdV e] w fun r w'=>r= .returned (.tuple #[EdV (nextT n e).1, .bool (nextT n e).2.1, .bool (nextT n e).2.2])/\Bl w w':=by
 have HN:Hd (s.ln=n.links.length):=h.links.ln.1;have hmx:s.ln<=9223372036854775807:=by obtain ⟨h1,h2,h3,-⟩:=h.links.ln;unfold maxLen at h3;omega
 have HL:=hD h.links;have HTH:Hd (∀ W,Bl w W->Calls Tryz.prog 74 #[ntV s,EdV e] W fun r w'=>r= .returned (.bool (ntThere n e))/\Bl W w'):=fun W hb=>there13_any s n e W (h.below hb)
 obtain ⟨R,hR⟩:=nm (nextT n e);have HRR:Hd (R=if ntThere n e then (match linkP e n.links with|some x=>(x,true,true)|none=>(⟨0,0⟩,true,false)) else (⟨0,0⟩,false,false)):=hR;rw[<- hR];clear hR h;generalize ntThere n e=T at*;obtain ⟨LK,hLK⟩:=nm (linkP e n.links);rw[<- hLK] at HRR;have HLK:=hD hLK;clear hLK;obtain ⟨sw,port⟩:=e;unfold ntV EdV at HTH⊢;dsimp only at HTH⊢;go_enter Tryz.func32,Tryz.ntmps32;go_upto_region 1 with fail;obtain ⟨W0,hW0⟩:=nm (((w.alloc (.cells #[.slice s.sp s.sn s.sc, .slice s.pp s.pn s.pc, .slice s.lp s.ln s.lc] 52)).alloc (.cells #[.int .i64 sw, .int .i64 port] 54)).alloc (.cells #[.int .i64 0, .int .i64 0] 54));have HB0:Hd (Bl w W0):=by show Below _ _ _;rw[hW0];exact bL
 have HSZ:Hd (W0.heap.size=w.heap.size+1+1+1):=by show _=_;rw[hW0];simp
 have HCE:Hd (∀ W,Bl W0 W->(Cl W w.heap.size 0 (.slice s.sp s.sn s.sc)/\Cl W w.heap.size 1 (.slice s.pp s.pn s.pc)/\Cl W w.heap.size 2 (.slice s.lp s.ln s.lc)/\Cl W (w.heap.size+1) 0 (.int .i64 sw)/\Cl W (w.heap.size+1) 1 (.int .i64 port))):=fun W hb=>by
  have hz:=HSZ.o;refine ⟨(hb.cell (p:=⟨w.heap.size,0,none⟩) (by show w.heap.size<_;omega)).trans ?_,(hb.cell (p:=⟨w.heap.size,1,none⟩) (by show w.heap.size<_;omega)).trans ?_,(hb.cell (p:=⟨w.heap.size,2,none⟩) (by show w.heap.size<_;omega)).trans ?_,(hb.cell (p:=⟨w.heap.size+1,0,none⟩) (by show w.heap.size+1<_;omega)).trans ?_,(hb.cell (p:=⟨w.heap.size+1,1,none⟩) (by show w.heap.size+1<_;omega)).trans ?_⟩<;>rw[hW0]<;>simp[go_sem]
 have HCR:Hd (∀ W,Bl W0 W->W.heap[w.heap.size+1+1]?=some (.cells #[.int .i64 0, .int .i64 0] 54 (0,0))):=fun W hb=>by
  have hz:=HSZ.o;refine (hb.block _ om).trans ?_;rw[hW0];exact hq3 _ _ _ _
 rw[<- hW0];clear hW0;obtain ⟨n0,n1,n2,e0,e1⟩:=HCE.o W0 br;go_upto_region 2 with (go_at_call 74;refine (HTH.o _ HB0.o).mono ?_;rintro e w1 ⟨rfl,hb1⟩;have HB1:=hD hb1;clear hb1;have HBW:=hD (HB0.o.trans (HB1.o.mono HB0.o.size));clear n0 n1 n2 e0 e1;obtain ⟨n0,n1,n2,e0,e1⟩:=HCE.o w1 HB1.o;cases T)
 ·have HRF:Hd (R=(⟨0,0⟩,false,false)):=HRR.o;have HX:=hD (HCR.o w1 HB1.o);have r0:w1.cell? ⟨w.heap.size+1+1,0,none⟩=some (.int .i64 0):=by have h:=HX.o;simp[World.cell?,h]
  have r1:w1.cell? ⟨w.heap.size+1+1,1,none⟩=some (.int .i64 0):=by have h:=HX.o;simp[World.cell?,h]
  have f0:w1.frozen? ⟨w.heap.size+1+1,0,none⟩=false:=by have h:=HX.o;simp[World.frozen?,h]
  have f1:w1.frozen? ⟨w.heap.size+1+1,1,none⟩=false:=by have h:=HX.o;simp[World.frozen?,h]
  go_wp2_with (go_quiet (fail));have hg:=set_lo (.int .i64 0) (set_hi (.int .i64 0) HX.o);have hb7:=(HBW.o.setCell (p:=⟨w.heap.size+1+1,0,none⟩) (by show w.heap.size<=w.heap.size+1+1;omega) (.int .i64 0)).setCell (p:=⟨w.heap.size+1+1,1,none⟩) (by show w.heap.size<=w.heap.size+1+1;omega) (.int .i64 0);generalize (w1.setCell ⟨w.heap.size+1+1,0,none⟩ (.int .i64 0)).setCell ⟨w.heap.size+1+1,1,none⟩ (.int .i64 0)=W7 at*;clear r0 r1 f0 f1;have m0:W7.cell? ⟨w.heap.size+1+1,0,none⟩=some (.int .i64 0):=by simp[World.cell?,hg]
  have m1:W7.cell? ⟨w.heap.size+1+1,1,none⟩=some (.int .i64 0):=by simp[World.cell?,hg]
  clear hg;refine bodyPost_ret (v:= .tuple #[.agg #[.int .i64 0, .int .i64 0], .bool false, .bool false]) ?_ rfl ⟨by rw[HRF.o],hb7⟩;simp[results,Tryz.results32,go_sem,m0,m1]
 clear n0 n1 n2 e0 e1;go_loopw [7] (fun i wr=>∃k:Nat,k<=s.ln/\i= .int .i64 (k:Int)/\Hd (LK=linkP ⟨sw,port⟩ (n.links.drop k))/\Hd (Bl w1 wr)) (fun i _=>s.ln-(intOf i).toNat)
 case atStart=>exact ⟨0,zl,rfl,HLK.o,Below.refl _ _⟩
 case round=>
  obtain ⟨k,hk,rfl,HE,HB⟩:=hrel;have HWW:=hD (HB1.o.trans (HB.o.mono HB1.o.size));have HWL:=hD (HBW.o.trans (HB.o.mono HBW.o.size));by_cases hlt:k<s.ln
  ·have hki:(k:Int)<(s.ln:Int):=om;obtain ⟨x,hx⟩:∃x,n.links[k]?=some x:=⟨_,gE_ (by have:=HN.o;omega)⟩;obtain ⟨b,o,hps,hb,c0,c1,c2,c3⟩:=LRow.el (HL.o.below keepL HWL.o) hx;have HDR:Hd (linkP ⟨sw,port⟩ (n.links.drop k)=if x.a=⟨sw,port⟩ then some x.b else if x.b=⟨sw,port⟩ then some x.a else linkP ⟨sw,port⟩ (n.links.drop (k+1))):=by
    exact gN4
   obtain ⟨⟨xs,xp⟩,⟨ys,yp⟩⟩:=x;dsimp only at c0 c1 c2 c3 HDR;clear hx;generalize s.lp=slp at*;subst hps;have CC:Hd (∀ W,Bl wr W->(Cl W b (o+k*4) (.int .i64 xs)/\Cl W b (o+k*4+1) (.int .i64 xp)/\Cl W b (o+k*4+2) (.int .i64 ys)/\Cl W b (o+k*4+3) (.int .i64 yp))):=fun W h=>⟨(h.cell (p:=⟨b,o+k*4,none⟩) hb).trans c0,(h.cell (p:=⟨b,o+k*4+1,none⟩) hb).trans c1,(h.cell (p:=⟨b,o+k*4+2,none⟩) hb).trans c2,(h.cell (p:=⟨b,o+k*4+3,none⟩) hb).trans c3⟩
   obtain ⟨W5,hW5⟩:=nm wr;have HB5:Hd (Bl wr W5):=by show Below _ _ _;rw[hW5];exact br
   obtain ⟨l0,l1,l2,l3⟩:=CC.o wr br;rw[<- hW5] at l0 l1 l2 l3;have HW5:=hD (HWL.o.trans (HB5.o.mono HWL.o.size));have HW0:=hD (HWW.o.trans (HB5.o.mono HWW.o.size));obtain ⟨n0,n1,n2,e0,e1⟩:=HCE.o W5 HW0.o;have HX:=hD (HCR.o W5 HW0.o);have r0:W5.cell? ⟨w.heap.size+1+1,0,none⟩=some (.int .i64 0):=by have h:=HX.o;simp[World.cell?,h]
   have r1:W5.cell? ⟨w.heap.size+1+1,1,none⟩=some (.int .i64 0):=by have h:=HX.o;simp[World.cell?,h]
   have f0:W5.frozen? ⟨w.heap.size+1+1,0,none⟩=false:=by have h:=HX.o;simp[World.frozen?,h]
   have f1:W5.frozen? ⟨w.heap.size+1+1,1,none⟩=false:=by have h:=HX.o;simp[World.frozen?,h]
   clear c0 c1 c2 c3;rw[<- hW5];clear hW5;by_cases h1:xs=sw/\xp=port
   ·have HRF:Hd (R=(⟨ys,yp⟩,true,true)):=by
     exact gR4
    have k1:∀W:World,(Go.binOp .eql 54 (.agg #[.int .i64 xs, .int .i64 xp]) (.agg #[.int .i64 sw, .int .i64 port])).run Tryz.prog W= .ok (.bool true) W:=fun W=>by rw[eqlE];simp[h1]
    clear h1;go_wp2_with (go_quiet (fail));refine bodyPost_ret (v:= .tuple #[.agg #[.int .i64 ys, .int .i64 yp], .bool true, .bool true]) ?_ rfl ⟨by rw[HRF.o],?_⟩
    ·simp[results,Tryz.results32,go_sem,r0,r1]
    exact gH3
   have HDA:Hd (¬ (⟨xs,xp⟩:Ed)=⟨sw,port⟩):=fun e=>h1 (by cases e;exact ⟨rfl,rfl⟩)
   have k1:∀W:World,(Go.binOp .eql 54 (.agg #[.int .i64 xs, .int .i64 xp]) (.agg #[.int .i64 sw, .int .i64 port])).run Tryz.prog W= .ok (.bool false) W:=fun W=>by rw[eqlE];congr 2;simp only[decide_eq_false_iff_not];exact fun e=>h1 ⟨e.1,e.2⟩
   clear h1;by_cases h2:ys=sw/\yp=port
   ·have HRF:Hd (R=(⟨xs,xp⟩,true,true)):=by
     exact gM3
    have k2:∀W:World,(Go.binOp .eql 54 (.agg #[.int .i64 ys, .int .i64 yp]) (.agg #[.int .i64 sw, .int .i64 port])).run Tryz.prog W= .ok (.bool true) W:=fun W=>by rw[eqlE];simp[h2]
    clear h2;go_wp2_with (go_quiet (fail));refine bodyPost_ret (v:= .tuple #[.agg #[.int .i64 xs, .int .i64 xp], .bool true, .bool true]) ?_ rfl ⟨by rw[HRF.o],?_⟩
    ·simp[results,Tryz.results32,go_sem,r0,r1]
    exact gH3
   have HDB:Hd (¬ (⟨ys,yp⟩:Ed)=⟨sw,port⟩):=fun e=>h2 (by cases e;exact ⟨rfl,rfl⟩)
   have k2:∀W:World,(Go.binOp .eql 54 (.agg #[.int .i64 ys, .int .i64 yp]) (.agg #[.int .i64 sw, .int .i64 port])).run Tryz.prog W= .ok (.bool false) W:=fun W=>by rw[eqlE];congr 2;simp only[decide_eq_false_iff_not];exact fun e=>h2 ⟨e.1,e.2⟩
   clear h2;go_wp2_with (go_quiet (fail));go_roundw
   case rel=>exact ⟨k+1,om,by go_num,by show _=_;rw[HE.o,HDR.o];exact (if_neg HDA.o).trans (if_neg HDB.o),below_dN (HB.o.trans (HB5.o.mono HB.o.size)) _⟩
   case measure=>exact mz
  obtain rfl:k=s.ln:=om;have hki:¬(s.ln:Int)<(s.ln:Int):=om;have HRF:Hd (R=(⟨0,0⟩,true,false)):=by
   exact gT4
  have HW5:=HWL;obtain ⟨n0,n1,n2,e0,e1⟩:=HCE.o wr HWW.o;have HX:=hD (HCR.o wr HWW.o);have r0:wr.cell? ⟨w.heap.size+1+1,0,none⟩=some (.int .i64 0):=by have h:=HX.o;simp[World.cell?,h]
  have r1:wr.cell? ⟨w.heap.size+1+1,1,none⟩=some (.int .i64 0):=by have h:=HX.o;simp[World.cell?,h]
  have f0:wr.frozen? ⟨w.heap.size+1+1,0,none⟩=false:=by have h:=HX.o;simp[World.frozen?,h]
  have f1:wr.frozen? ⟨w.heap.size+1+1,1,none⟩=false:=by have h:=HX.o;simp[World.frozen?,h]
  go_wp2_with (go_quiet (fail));have hg:=set_lo (.int .i64 0) (set_hi (.int .i64 0) HX.o);have hb7:=(HW5.o.setCell (p:=⟨w.heap.size+1+1,0,none⟩) (by show w.heap.size<=w.heap.size+1+1;omega) (.int .i64 0)).setCell (p:=⟨w.heap.size+1+1,1,none⟩) (by show w.heap.size<=w.heap.size+1+1;omega) (.int .i64 0);generalize (wr.setCell ⟨w.heap.size+1+1,0,none⟩ (.int .i64 0)).setCell ⟨w.heap.size+1+1,1,none⟩ (.int .i64 0)=W7 at*;clear r0 r1 f0 f1;have m0:W7.cell? ⟨w.heap.size+1+1,0,none⟩=some (.int .i64 0):=by simp[World.cell?,hg]
  have m1:W7.cell? ⟨w.heap.size+1+1,1,none⟩=some (.int .i64 0):=by simp[World.cell?,hg]
  clear hg;refine bodyPost_ret (v:= .tuple #[.agg #[.int .i64 0, .int .i64 0], .bool true, .bool false]) ?_ rfl ⟨by rw[HRF.o],hb7⟩;simp[results,Tryz.results32,go_sem,m0,m1]
open Go.RowKit
def EAt2 (w:World) (b o:Nat) (e:Ed):Prop:=w.cell? ⟨b,o,none⟩=some (.int .i64 e.sw)/\w.cell? ⟨b,o+1,none⟩=some (.int .i64 e.port)
theorem keepEd:KeepAt EAt2:=fun _w _w' b o _n hb hlt ⟨h1,h2⟩=>⟨(hb.cell (p:=⟨b,o,none⟩) hlt).trans h1,(hb.cell (p:=⟨b,o+1,none⟩) hlt).trans h2⟩
abbrev EdRow:=RowAt 2 EAt2
def TBx (W:World) (g:Nat) (hv bv:Value) (how:Int) (at_:Ed) (acc:Bool):Prop:=W.heap[g]?=some (.cells #[hv, .int .u8 how, .int .i64 at_.sw, .int .i64 at_.port,bv, .bool acc] 59 (0,0))
theorem TBx.cells (h:TBx W g hv bv how at_ acc):W.cell? ⟨g,0,none⟩=some hv/\W.cell? ⟨g,1,none⟩=some (.int .u8 how)/\W.cell? ⟨g,2,none⟩=some (.int .i64 at_.sw)/\W.cell? ⟨g,3,none⟩=some (.int .i64 at_.port)/\W.cell? ⟨g,4,none⟩=some bv/\W.cell? ⟨g,5,none⟩=some (.bool acc):=by
 unfold TBx at h;exact gG3
theorem TBx.below (h:TBx W g hv bv how at_ acc) (hb:Bl W W'):TBx W' g hv bv how at_ acc:=(hb.block _ (gA_ h).1).trans h
section
variable {g:Nat} {hv bv:Value} {how:Int} {at_:Ed} {acc:Bool} {w:World}
end
open Go.RowKit
theorem uconv {v:Value} (h:URow w v xs):(convert 35 9 v).run Tryz.prog w= .ok (.string (strOfNums xs)) w:=by
 obtain ⟨pa,cap,rfl,h1,h2,-,h3⟩:=h;by_cases h0:0<xs.length
 ·obtain ⟨b,o,rfl,hb,hc⟩:=h3 h0;refine run_convert_bytes_arg w _ 5 Tryz.underlying35 Tryz.underlying5 b o xs.length cap xs rfl (fun i hi=>?_) _ Tryz.underlying9;have:=hc i xs[i] (gE_ hi);unfold UAt at this;rw[Nat.mul_one] at this;rw[this,List.getD_eq_getElem?_getD,gE_ hi];rfl
 obtain rfl:xs=[]:=List.eq_nil_of_length_eq_zero om;cases pa with
 |none=>exact run_convert_bytes_nil w _ 5 Tryz.underlying35 Tryz.underlying5 0 cap _ Tryz.underlying9
 |some a=>
  rw[run_convert_bytes_string w _ _ 5 _ _ _ Tryz.underlying35 Tryz.underlying5 Tryz.underlying9];exact run_bytesToString w a 0 cap [] rfl
open Go.RowKit
theorem is23_any (s:NtS) (n:Net) (e:Ed) (w:World) (h:NtOk w s n):
 Calls Tryz.prog 12 #[ntV s,EdV e] w fun r w'=>r= .returned (.bool (nextT n e).2.1)/\Bl w w':=by
 have HN:Hd (∀ W,Bl w W->Calls Tryz.prog 32 #[ntV s,EdV e] W fun r w'=>r= .returned (.tuple #[EdV (nextT n e).1, .bool (nextT n e).2.1, .bool (nextT n e).2.2])/\Bl W w'):=fun W hb=>next13_any s n e W (h.below hb)
 clear h;generalize nextT n e=R at*;obtain ⟨⟨rs,rp⟩,r1,r2⟩:=R;obtain ⟨sw,port⟩:=e;unfold ntV EdV at HN⊢;dsimp only at HN⊢;go_enter Tryz.func12,Tryz.ntmps12;go_upto_region 1 with fail;obtain ⟨W0,hW0⟩:=nm ((w.alloc (.cells #[.slice s.sp s.sn s.sc, .slice s.pp s.pn s.pc, .slice s.lp s.ln s.lc] 52)).alloc (.cells #[.int .i64 sw, .int .i64 port] 54));have HB0:Hd (Bl w W0):=by show Below _ _ _;rw[hW0];exact bL
 have n0:W0.cell? ⟨w.heap.size,0,none⟩=some (.slice s.sp s.sn s.sc):=by rw[hW0];simp[go_sem]
 have n1:W0.cell? ⟨w.heap.size,1,none⟩=some (.slice s.pp s.pn s.pc):=by rw[hW0];simp[go_sem]
 have n2:W0.cell? ⟨w.heap.size,2,none⟩=some (.slice s.lp s.ln s.lc):=by rw[hW0];simp[go_sem]
 have e0:W0.cell? ⟨w.heap.size+1,0,none⟩=some (.int .i64 sw):=by rw[hW0];simp[go_sem]
 have e1:W0.cell? ⟨w.heap.size+1,1,none⟩=some (.int .i64 port):=by rw[hW0];simp[go_sem]
 rw[<- hW0];clear hW0;go_wp2_with (go_at_call 32;refine (HN.o _ HB0.o).mono ?_;rintro e w1 ⟨rfl,hb⟩;have HB1:=hD (HB0.o.trans (hb.mono HB0.o.size));clear hb);go_ret;exact ⟨rfl,(HB1.o.alloc HB1.o.size _)⟩
open Go.RowKit
structure Hp where
 e:Ed
 b:List Int
def HpAt (w:World) (b o:Nat) (h:Hp):Prop:=w.cell? ⟨b,o,none⟩=some (.int .i64 h.e.sw)/\w.cell? ⟨b,o+1,none⟩=some (.int .i64 h.e.port)/\SlAt URow w b (o+2) h.b
theorem keepHp:KeepAt HpAt:=fun w w' b o _n hb hlt ⟨h1,h2,h3⟩=>⟨(hb.cell (p:=⟨b,o,none⟩) hlt).trans h1,(hb.cell (p:=⟨b,o+1,none⟩) hlt).trans h2,SlAt.keep (RowAt.keep keepU) w w' b _ _ hb hlt h3⟩
abbrev HpRow:=RowAt 3 HpAt
open Go.RowKit
structure Trc where
 hops:List Hp
 how:Int
 at_:Ed
 b:List Int
 acc:Bool
structure TrS where
 hp:Option Addr
 hn:Nat
 hc:Nat
 bp:Option Addr
 bn:Nat
 bc:Nat
def trV (s:TrS) (t:Trc):Value:= .agg #[.slice s.hp s.hn s.hc, .int .u8 t.how, .int .i64 t.at_.sw, .int .i64 t.at_.port, .slice s.bp s.bn s.bc, .bool t.acc]
structure TrOk (w:World) (s:TrS) (t:Trc):Prop where
 h:HpRow w (.slice s.hp s.hn s.hc) t.hops
 b:URow w (.slice s.bp s.bn s.bc) t.b
theorem TrOk.below {s:TrS} {t:Trc} (h:TrOk w s t) (hb:Bl w w'):TrOk w' s t:=⟨h.h.below keepHp hb,h.b.below keepU hb⟩
open Go.RowKit
def walkF (p:Prg) (ls:List (List Ent)) (n:Net):Nat->Ed->List Int->List Hp->Bool->Trc
 |0,_,_,hs,acc=>⟨hs,2,⟨0,0⟩,[],acc⟩
 |k+1,e,xs,hs,acc=>
  let g:=passP p (ls.getD e.sw.toNat []) e.port xs
  let nx:=nextT n ⟨e.sw,g.port⟩
  if g.o=false\/nx.2.1=false then ⟨hs++[⟨e,xs⟩],2,⟨0,0⟩,[],acc||g.access⟩
  else if nx.2.2=false then ⟨hs++[⟨e,xs⟩],1,⟨e.sw,g.port⟩,g.b,acc||g.access⟩
  else if k=0\/nx.1.sw<0\/(ls.length:Int)<=nx.1.sw then ⟨hs++[⟨e,xs⟩],3,nx.1,g.b,acc||g.access⟩
  else walkF p ls n k nx.1 g.b (hs++[⟨e,xs⟩]) (acc||g.access)
structure NtSm (n:Net):Prop where
 ports:∀l∈n.ports,∀x∈l,0<=x/\x<=511
 links:∀l∈n.links,(0<=l.a.port/\l.a.port<=511)/\(0<=l.b.port/\l.b.port<=511)
theorem there_port {n:Net} (h:NtSm n) (ht:ntThere n e=true):0<=e.port/\e.port<=511:=by
 unfold ntThere at ht;rw[Bool.and_eq_true,decide_eq_true_eq] at ht;obtain ⟨⟨h1,h2⟩,h3⟩:=ht;have hlt:e.sw.toNat<n.ports.length:=om;rw[List.getD_eq_getElem?_getD,gE_ hlt,Option.getD_some] at h3;exact h.ports _ (List.getElem_mem hlt) _ (by simpa using h3)
theorem link_port {n:Net} (h:NtSm n) {x:Ed}:∀l:List Lnk,(∀ q∈l,q∈n.links)->linkP e l=some x->0<=x.port/\x.port<=511
 |[],_,hx=>by cases hx
 |q::l,hq,hx=>by
  unfold linkP at hx;have hm:=h.links q (hq q (List.mem_cons_self ..));split at hx
  ·cases hx;exact hm.2
  ·split at hx
   ·cases hx;exact hm.1
   ·exact link_port h l (fun r hr=>hq r (List.mem_cons_of_mem _ hr)) hx
theorem next_port {n:Net} (h:NtSm n) (hl:(nextT n e).2.2=true):0<=(nextT n e).1.port/\(nextT n e).1.port<=511:=by
 unfold nextT at hl⊢;split
 ·rename_i ht;rw[if_pos ht] at hl;split
  ·rename_i x hx;exact link_port h n.links (fun q hq=>hq) hx
  rename_i hx;rw[hx] at hl;cases hl
 rename_i ht;rw[if_neg ht] at hl;cases hl
open Go.RowKit Stab
theorem listsP_in {b:Int}:∀(l s:List Int),listsP b s l=true->∀x∈l,0<=x/\x<b
 |[],_,_,_,hx=>by cases hx
 |y::l,s,h,x,hx=>by
  unfold listsP at h;rw[Bool.and_eq_true,Bool.and_eq_true] at h;rcases List.mem_cons.1 hx with rfl|hx
  ·exact of_decide_eq_true h.1.1
  ·exact listsP_in l _ h.2 x hx
theorem emit_in {p:Prg} (h:mayP p=true):∀x∈p.emit,0<=x/\x<(p.heads.length:Int):=by
 have hst:listsP (p.heads.length:Int) [] p.emit=true:=by
  unfold mayP at h;simp only[Bool.and_eq_true] at h;obtain ⟨⟨⟨⟨⟨⟨⟨⟨⟨⟨h1,h2⟩,h3⟩,h4⟩,h5⟩,h6⟩,h7⟩,h8⟩,h9⟩,h10⟩,h11⟩:=h;first|exact h1|exact h2|exact h3|exact h4|exact h5|exact h6|exact h7|exact h8|exact h9|exact h10|exact h11
 exact listsP_in _ _ hst
open Go.RowKit Stab
theorem row_one {α:Type} {At:World->Nat->Nat->α->Prop} {x:α} (hlt:g<w.heap.size) (h:At w g 0 x):RowAt sz At w (.slice (some ⟨g,0,none⟩) 1 1) [x]:=by
 refine ⟨_,1,rfl,Nat.le_refl _,by decide,(fun e=>by cases e),fun _=>⟨g,0,rfl,hlt,fun j y hj=>?_⟩⟩;match j,hj with
 |0,hj=>cases hj;simpa using h
theorem chain4 (w:World) (o0 o1 o2 o3:Obj):((((w.alloc o0).alloc o1).alloc o2).alloc o3).heap[w.heap.size]?=some o0/\((((w.alloc o0).alloc o1).alloc o2).alloc o3).heap[w.heap.size+1]?=some o1/\((((w.alloc o0).alloc o1).alloc o2).alloc o3).heap[w.heap.size+1+1]?=some o2/\((((w.alloc o0).alloc o1).alloc o2).alloc o3).heap[w.heap.size+1+1+1]?=some o3:=by
 have h1:=heap_new (w.alloc o0) o1;have h2:=heap_new ((w.alloc o0).alloc o1) o2;have h3:=heap_new (((w.alloc o0).alloc o1).alloc o2) o3;simp only[World.size_alloc] at h1 h2 h3;refine ⟨?_,?_,?_,h3⟩
 ·rw[Below.heap_alloc _ _ _ (by simp;omega),Below.heap_alloc _ _ _ (by simp;omega),Below.heap_alloc _ _ _ sm];exact heap_new _ _
 ·rw[Below.heap_alloc _ _ _ sm,Below.heap_alloc _ _ _ sm];exact h1
 rw[Below.heap_alloc _ _ _ sm];exact h2
open Go.RowKit Stab
theorem own_ty {E E':Nat} {v:Value} {xs:List Value} {c:Array Value} (h:W.ownsRow b E sz v n xs) (he:W.heap[k]?=some (.cells c E' (0,0))) (hne:E≠E'):v.ownBlock≠some k:=fun hz=>by
 obtain ⟨-,⟨q1,-⟩|⟨g,cap,cur,q1,-,q3,-⟩⟩:=h
 ·rw[q1] at hz;cases hz
 ·rw[q1] at hz;cases hz;rw[he] at q3;simp only[Option.some.injEq,Obj.cells.injEq] at q3;exact hne q3.2.1.symm
theorem By.below {v:Value} (h:By b W v xs) (hb:Bl W W'):By b W' v xs:=own_far h fun z hz=>hb.block z (own_size h hz).2
def G0:Obj:= .cells #[.bool false, .bool false, .bool false, .bool false, .int .i64 0, .slice none 0 0] 39 (0,0)
def G1 (g:Gn) (bv:Value):Obj:= .cells #[.bool g.acc, .bool g.o, .bool g.long, .bool g.access, .int .i64 g.port,bv] 39 (0,0)
def GDone (b:Nat) (g:Gn) (W:World) (k:Nat):Prop:=∃bv,W.heap[k]?=some (G1 g bv)/\By b W bv g.b
structure GR (b:Nat) (g:Gn) (W W':World):Prop where
 low:Below b W W'
 ko:∀k:Nat,b<=k->(W.heap[k]?=some G0\/GDone b g W k)->(W'.heap[k]?=some G0\/GDone b g W' k)
 k1:∀k:Nat,b<=k->GDone b g W k->GDone b g W' k
 row:∀bv,By b W bv g.b->By b W' bv g.b
section
variable {b:Nat} {g:Gn} {W W':World}
theorem GR.refl (b:Nat) (g:Gn) (W:World):GR b g W W:=⟨Below.refl _ _,fun _ _=>id,fun _ _=>id,fun _=>id⟩
theorem GDone.below (h:Bl W W') (e:GDone b g W k):GDone b g W' k:=by
 obtain ⟨bv,h1,h2⟩:=e;exact ⟨bv,(h.block k (lt_some h1)).trans h1,h2.below h⟩
theorem GR.of_below (hb:b<=W.heap.size) (h:Bl W W'):GR b g W W':=
 ⟨h.mono hb,fun k _ e=>e.imp (fun e=>(h.block k (lt_some e)).trans e) (GDone.below h),fun _k _ e=>GDone.below h e,fun _ e=>e.below h⟩
theorem GR.store (hk:b<=k) (h:W.heap[k]?=some G0\/GDone b g W k) (hb:By b W bv g.b):GR b g W (set6 W k (.bool g.acc) (.bool g.o) (.bool g.long) (.bool g.access) (.int .i64 g.port) bv)/\GDone b g (set6 W k (.bool g.acc) (.bool g.o) (.bool g.long) (.bool g.access) (.int .i64 g.port) bv) k:=by
 have ho:∀j,j≠k->(set6 W k (.bool g.acc) (.bool g.o) (.bool g.long) (.bool g.access) (.int .i64 g.port) bv).heap[j]?=W.heap[j]?:=fun j hj=>set6_other W _ _ _ _ _ _ hj
 have hl:Below b W (set6 W k (.bool g.acc) (.bool g.o) (.bool g.long) (.bool g.access) (.int .i64 g.port) bv):=set6_below _ _ _ _ _ _ br hk;have hp:(set6 W k (.bool g.acc) (.bool g.o) (.bool g.long) (.bool g.access) (.int .i64 g.port) bv).heap[k]?=some (G1 g bv):=by
  rcases h with h|⟨b0,h,-⟩
  ·exact set6_heap _ _ _ _ _ _ h
  exact set6_heap _ _ _ _ _ _ h
 have hn:∀v,By b W v g.b->v.ownBlock≠some k:=fun v e=>by
  rcases h with h|⟨b0,h,-⟩
  ·exact own_ty e h dq
  ·exact own_ty e h dq
 generalize set6 W k (.bool g.acc) (.bool g.o) (.bool g.long) (.bool g.access) (.int .i64 g.port) bv=W' at*;have hr:∀v,By b W v g.b->By b W' v g.b:=fun v e=>own_far e fun j hj=>ho j fun q=>hn v e (by rw[hj,q])
 have hd:∀j,GDone b g W j->GDone b g W' j:=fun j e=>by
  by_cases q:j=k
  ·subst q;exact ⟨bv,hp,hr _ hb⟩
  ·obtain ⟨v,e1,e2⟩:=e;exact ⟨v,(ho j q).trans e1,hr _ e2⟩
 refine ⟨⟨hl,fun j _ e=>?_,fun j _ e=>hd j e,hr⟩,⟨bv,hp,hr _ hb⟩⟩;by_cases q:j=k
 ·subst q;exact .inr ⟨bv,hp,hr _ hb⟩
 rcases e with e|e
 ·exact .inl ((ho j q).trans e)
 exact .inr (hd j e)
end
open Go.RowKit Stab
theorem elemHp:ElemOk 57 65 (.agg #[.int .i64 0, .int .i64 0, .slice none 0 0]) 3 40:=⟨Tryz.underlying57,by kernel_rfl,rfl,by decide⟩
abbrev EsRow:=RowAt 1 (SlAt ERow)
theorem keepEs:KeepAt (SlAt ERow):=SlAt.keep (RowAt.keep keepE)
def EBx (W:World) (g:Nat) (e:Ed):Prop:=W.heap[g]?=some (.cells #[.int .i64 e.sw, .int .i64 e.port] 54 (0,0))
theorem EBx.cells (h:EBx W g e):W.cell? ⟨g,0,none⟩=some (.int .i64 e.sw)/\W.cell? ⟨g,1,none⟩=some (.int .i64 e.port):=by
 unfold EBx at h;simp[World.cell?,h]
theorem EBx.free (h:EBx W g e) (i:Nat):W.frozen? ⟨g,i,none⟩=false:=by
 unfold EBx at h;simp[World.frozen?,h]
def NBx (W:World) (g:Nat) (t:NtS):Prop:=W.heap[g]?=some (.cells #[.slice t.sp t.sn t.sc, .slice t.pp t.pn t.pc, .slice t.lp t.ln t.lc] 52 (0,0))
theorem NBx.cells {t:NtS} (h:NBx W g t):W.cell? ⟨g,0,none⟩=some (.slice t.sp t.sn t.sc)/\W.cell? ⟨g,1,none⟩=some (.slice t.pp t.pn t.pc)/\W.cell? ⟨g,2,none⟩=some (.slice t.lp t.ln t.lc):=by
 unfold NBx at h;simp[World.cell?,h]
theorem TBx.free (h:TBx W g hv bv how at_ acc) (i:Nat):W.frozen? ⟨g,i,none⟩=false:=by
 unfold TBx at h;simp[World.frozen?,h]
theorem g_sixW {G:Gn} (h:W.heap[k]?=some G0\/GDone b G W k):∃d0 d1 d2 d3 d4 d5,Gx W k [d0,d1,d2,d3,d4,d5]:=by
 rcases h with h|⟨bv,h,-⟩
 ·exact ⟨_,_,_,_,_,_,h⟩
 exact ⟨_,_,_,_,_,_,h⟩
structure ER (b:Nat) (e:Ed) (W W':World):Prop where
 low:Below b W W'
 ko:∀k:Nat,b<=k->(EBx W k ⟨0,0⟩\/EBx W k e)->(EBx W' k ⟨0,0⟩\/EBx W' k e)
 k1:∀k:Nat,b<=k->EBx W k e->EBx W' k e
 row:∀v n xs,W.ownsRow b 5 1 v n xs->W'.ownsRow b 5 1 v n xs
section
variable {b:Nat} {e:Ed} {W W':World}
theorem ER.refl (b:Nat) (e:Ed) (W:World):ER b e W W:=⟨Below.refl _ _,fun _ _=>id,fun _ _=>id,fun _ _ _=>id⟩
theorem EBx.below (h:EBx W k e) (hb:Bl W W'):EBx W' k e:=(hb.block k (lt_some h)).trans h
theorem ER.of_below (hb:b<=W.heap.size) (h:Bl W W'):ER b e W W':=
 ⟨h.mono hb,fun _ _ q=>q.imp (fun q=>q.below h) (fun q=>q.below h),fun _ _ q=>q.below h,fun _ _ _ q=>own_far q fun z hz=>h.block z (own_size q hz).2⟩
theorem ER.store (hk:b<=k) (h:EBx W k ⟨0,0⟩\/EBx W k e):ER b e W ((W.setCell ⟨k,0,none⟩ (.int .i64 e.sw)).setCell ⟨k,1,none⟩ (.int .i64 e.port))/\EBx ((W.setCell ⟨k,0,none⟩ (.int .i64 e.sw)).setCell ⟨k,1,none⟩ (.int .i64 e.port)) k e:=by
 have hp:EBx ((W.setCell ⟨k,0,none⟩ (.int .i64 e.sw)).setCell ⟨k,1,none⟩ (.int .i64 e.port)) k e:=by
  have h2:∃a c,W.heap[k]?=some (.cells #[a,c] 54 (0,0)):=by rcases h with h|h<;>exact ⟨_,_,h⟩
  obtain ⟨a,c,h2⟩:=h2;exact heap_setCell_same (W.setCell ⟨k,0,none⟩ (.int .i64 e.sw)) k 1 _ _ _ (heap_setCell_same W k 0 _ _ _ h2)
 have ho:∀j,j≠k->((W.setCell ⟨k,0,none⟩ (.int .i64 e.sw)).setCell ⟨k,1,none⟩ (.int .i64 e.port)).heap[j]?=W.heap[j]?:=fun j hj=>(setCell_heap hj).trans (setCell_heap hj)
 have hl:Below b W ((W.setCell ⟨k,0,none⟩ (.int .i64 e.sw)).setCell ⟨k,1,none⟩ (.int .i64 e.port)):=(br.setCell hk _).setCell hk _;generalize (W.setCell ⟨k,0,none⟩ (.int .i64 e.sw)).setCell ⟨k,1,none⟩ (.int .i64 e.port)=W' at*;refine ⟨⟨hl,fun j _ q=>?_,fun j _ q=>?_,fun v n xs q=>own_far q fun z hz=>ho z ?_⟩,hp⟩
 ·by_cases hj:j=k
  ·subst hj;exact .inr hp
  exact q.imp (fun q=>(ho j hj).trans q) (fun q=>(ho j hj).trans q)
 ·by_cases hj:j=k
  ·subst hj;exact hp
  exact (ho j hj).trans q
 rintro rfl;rcases h with h|h
 ·exact own_ty q h dq hz
 exact own_ty q h dq hz
end
def hpC (q:Hp×Value):List Value:=[.int .i64 q.1.e.sw, .int .i64 q.1.e.port,q.2]
structure JSt (B:Nat) (w:World) (T A:Nat) (hv nv:Value) (hq:List (Hp×Value)) (acc:Bool) (e:Ed) (xs:List Int):Prop where
 t:TBx w T hv (.slice none 0 0) 2 ⟨0,0⟩ acc
 a:EBx w A e
 own:w.ownsRow B 65 3 hv hq.length (hq.flatMap hpC)
 rows:∀q∈hq,By B w q.2 q.1.b
 now:By B w nv xs
 lo:B<=T/\B<=A
theorem By.notT {B:Nat} {v:Value} (h:By B w v xs) (ht:TBx w T hv bv how e acc):∀z,v.ownBlock=some z->z≠T:=fun z hz q=>own_ty h ht dq (by rw[hz,q])
theorem By.notE {B:Nat} {v:Value} (h:By B w v xs) (ht:EBx w A e):∀z,v.ownBlock=some z->z≠A:=fun z hz q=>own_ty h ht dq (by rw[hz,q])
theorem own_notT {B:Nat} {v:Value} {xs:List Value} (h:w.ownsRow B 65 3 v n xs) (ht:TBx w T hv bv how e acc):∀z,v.ownBlock=some z->z≠T:=fun z hz q=>own_ty h ht dq (by rw[hz,q])
theorem own_notE {B:Nat} {v:Value} {xs:List Value} (h:w.ownsRow B 65 3 v n xs) (ht:EBx w A e):∀z,v.ownBlock=some z->z≠A:=fun z hz q=>own_ty h ht dq (by rw[hz,q])
theorem By.notH {B:Nat} {v:Value} {ys:List Value} (h:By B w v xs) (h2:w.ownsRow B 65 3 hv n ys):∀z,v.ownBlock=some z->hv.ownBlock≠some z:=fun z hz=>by
 obtain ⟨-,⟨q1,-⟩|⟨g,cap,cur,q1,-,q3,-⟩⟩:=h
 ·rw[q1] at hz;cases hz
 ·rw[q1] at hz;cases hz;exact own_ty h2 q3 dq
section
variable {B:Nat} {w w':World} {T A:Nat} {hv nv:Value} {hq:List (Hp×Value)} {acc:Bool} {e:Ed} {xs:List Int}
theorem JSt.ta (h:JSt B w T A hv nv hq acc e xs):T≠A:=fun q=>by
 have h1:=h.t;have h2:=h.a;unfold TBx at h1;unfold EBx at h2;rw[q,h2] at h1;simp at h1
theorem JSt.below (h:JSt B w T A hv nv hq acc e xs) (hb:Bl w w'):JSt B w' T A hv nv hq acc e xs:=
 ⟨h.t.below hb,h.a.below hb,own_far h.own fun z hz=>hb.block z (own_size h.own hz).2,fun q hq=>(h.rows q hq).below hb,h.now.below hb,h.lo⟩
theorem JSt.tlt (h:JSt B w T A hv nv hq acc e xs):T<w.heap.size:=lt_some h.t
theorem JSt.alt (h:JSt B w T A hv nv hq acc e xs):A<w.heap.size:=lt_some h.a
theorem JSt.acq (h:JSt B w T A hv nv hq acc e xs) (a:Bool):JSt B (w.setCell ⟨T,5,none⟩ (.bool a)) T A hv nv hq a e xs:=
 ⟨heap_setCell_same w T 5 _ _ _ h.t,(setCell_heap (Ne.symm h.ta)).trans h.a,own_far h.own fun z hz=>setCell_heap (own_notT h.own h.t z hz),fun q hq=>own_far (h.rows q hq) fun z hz=>setCell_heap ((h.rows q hq).notT h.t z hz),own_far h.now fun z hz=>setCell_heap (h.now.notT h.t z hz),h.lo⟩
theorem JSt.move {e2:Ed} {nv2:Value} {ys:List Int} (h:JSt B w T A hv nv hq acc e xs) (hn:By B w nv2 ys):JSt B ((w.setCell ⟨A,0,none⟩ (.int .i64 e2.sw)).setCell ⟨A,1,none⟩ (.int .i64 e2.port)).drew T A hv nv2 hq acc e2 ys:=by
 have k:∀z,z≠A->((w.setCell ⟨A,0,none⟩ (.int .i64 e2.sw)).setCell ⟨A,1,none⟩ (.int .i64 e2.port)).heap[z]?=w.heap[z]?:=fun z hz=>(setCell_heap hz).trans (setCell_heap hz)
 have h1:JSt B ((w.setCell ⟨A,0,none⟩ (.int .i64 e2.sw)).setCell ⟨A,1,none⟩ (.int .i64 e2.port)) T A hv nv2 hq acc e2 ys:=
  ⟨(k _ h.ta).trans h.t,heap_setCell_same (w.setCell ⟨A,0,none⟩ (.int .i64 e2.sw)) A 1 _ _ _ (heap_setCell_same w A 0 _ _ _ h.a),
   own_far h.own fun z hz=>k z (own_notE h.own h.a z hz),fun q hq=>own_far (h.rows q hq) fun z hz=>k z ((h.rows q hq).notE h.a z hz),own_far hn fun z hz=>k z (hn.notE h.a z hz),h.lo⟩
 exact h1.below (Below.drew br)
theorem JSt.push (h:JSt B w T A hv nv hq acc e xs) {o:Obj} {w3:World} {y:Value} (_hB:B<=w.heap.size)
 (ho:w3.ownsRow B 65 3 y (hq.length+1) (hq.flatMap hpC++[.int .i64 e.sw, .int .i64 e.port,nv])) (hg:GrwG (w.alloc o) w3 hv y):JSt B (w3.setCell ⟨T,0,none⟩ y) T A y nv (hq++[(⟨e,xs⟩,nv)]) acc e xs:=by
 have hk:∀z,z<w.heap.size->hv.ownBlock≠some z->w3.heap[z]?=w.heap[z]?:=fun z h1 h2=>(hg.grown.block z (by simp;omega) (fun e=>h2 e.symm)).trans (Below.heap_alloc _ _ _ h1)
 have ht3:w3.heap[T]?=w.heap[T]?:=hk T h.tlt fun q=>own_notT h.own h.t T q rfl
 have ha3:w3.heap[A]?=w.heap[A]?:=hk A h.alt fun q=>own_notE h.own h.a A q rfl
 have hby:∀v xs,By B w v xs->By B (w3.setCell ⟨T,0,none⟩ y) v xs:=fun v xs hv=>own_far hv fun z hz=>(setCell_heap (hv.notT h.t z hz)).trans (hk z (own_size hv hz).2 (hv.notH h.own z hz))
 refine ⟨heap_setCell_same w3 T 0 _ _ _ (ht3.trans h.t),(setCell_heap (Ne.symm h.ta)).trans (ha3.trans h.a),?_,fun q hq=>?_,hby _ _ h.now,h.lo⟩
 ·rw[List.length_append,List.length_singleton,List.flatMap_append,List.flatMap_cons,List.flatMap_nil,List.append_nil];exact own_far ho fun z hz=>setCell_heap (own_notT ho (ht3.trans h.t:TBx w3 T _ _ _ _ _) z hz)
 rcases List.mem_append.1 hq with q1|q1
 ·exact hby _ _ (h.rows q q1)
 rw[List.mem_singleton] at q1;subst q1;exact hby _ _ h.now
end
structure TrO (B:Nat) (w:World) (s:TrS) (t:Trc):Prop where
 h:∃hq:List (Hp×Value),hq.map Prod.fst=t.hops/\w.ownsRow B 65 3 (.slice s.hp s.hn s.hc) hq.length (hq.flatMap hpC)/\∀q∈hq,By B w q.2 q.1.b
 b:By B w (.slice s.bp s.bn s.bc) t.b
theorem TrO.ok {B:Nat} {s:TrS} {t:Trc} (h:TrO B w s t):TrOk w s t:=by
 obtain ⟨⟨hq,e,ho,hr⟩,hb⟩:=h;refine ⟨?_,hb.row⟩;rw[<- e];refine rowAt_of_owns (ls:=hq.map hpC) (by rw[List.length_map]) (by rw[List.length_map,List.length_map]) (by rw[<- List.flatMap_def];exact ho) (fun c hc=>?_) fun j l c hl hc b o hb hcs=>?_
 ·obtain ⟨q,-,rfl⟩:=List.mem_map.1 hc;rfl
 rw[List.getElem?_map] at hl hc;cases hu:hq[j]? with
 |none=>rw[hu] at hl;cases hl
 |some q=>
  rw[hu] at hl hc;cases hl;cases hc;have hq1:=(hr q (gM_ hu)).row;obtain ⟨p,cp,he,-⟩:=hq1.shape;refine ⟨hcs 0 _ rfl,hcs 1 _ rfl,p,_,cp,?_,he ▸ hq1⟩;rw[<- he];exact hcs 2 _ rfl
theorem TrO.far {B:Nat} {s:TrS} {t:Trc} (h:TrO B w s t) (hk:∀z c,B<=z->(w.heap[z]?=some (.cells c 65 (0,0))\/w.heap[z]?=some (.cells c 5 (0,0)))->w'.heap[z]?=w.heap[z]?):TrO B w' s t:=by
 have hb:∀v xs,By B w v xs->By B w' v xs:=fun v xs q=>own_far q fun z hz=>by
  have q2:=q;obtain ⟨-,⟨q1,-⟩|⟨g,cap,cur,q1,q0,q3,-⟩⟩:=q2
  ·rw[q1] at hz;cases hz
  ·rw[q1] at hz;cases hz;exact hk _ _ q0 (.inr q3)
 obtain ⟨⟨hq,e,ho,hr⟩,hbb⟩:=h;refine ⟨⟨hq,e,own_far ho fun z hz=>?_,fun q m=>hb _ _ (hr q m)⟩,hb _ _ hbb⟩;have q2:=ho;obtain ⟨-,⟨q1,-⟩|⟨g,cap,cur,q1,q0,q3,-⟩⟩:=q2
 ·rw[q1] at hz;cases hz
 rw[q1] at hz;cases hz;exact hk _ _ q0 (.inl q3)
theorem TrO.lower {B:Nat} {s:TrS} {t:Trc} (h:TrO B w s t) (hb:b<=B):TrO b w s t:=by
 obtain ⟨⟨hq,e,ho,hr⟩,hbb⟩:=h;exact ⟨⟨hq,e,own_base ho hb,fun q m=>own_base (hr q m) hb⟩,own_base hbb hb⟩
theorem JSt.ends {B:Nat} {p:Option Addr} {nv:Value} {hq:List (Hp×Value)} {ac2:Bool} {b:List Int} {q:Option Addr} {m d:Nat} (h:JSt B w T A (.slice p n c) nv hq acc e xs) (hb:By B w (.slice q m d) b) (hk:∀z,B<=z->z≠T->w'.heap[z]?=w.heap[z]?):TrO B w' ⟨p,n,c,q,m,d⟩ ⟨hq.map Prod.fst,how,at_,b,ac2⟩:=
 ⟨⟨hq,rfl,own_far h.own fun z hz=>hk z (own_size h.own hz).1 (own_notT h.own h.t z hz),fun x hx=>own_far (h.rows x hx) fun z hz=>hk z (own_size (h.rows x hx) hz).1 ((h.rows x hx).notT h.t z hz)⟩,own_far hb fun z hz=>hk z (own_size hb hz).1 (hb.notT h.t z hz)⟩
end Go.Proofs.YtikilcbpogfgkaaGreat
