/-
  Closing scripts that stand more than once, as default arguments.
-/
import Derived.Test.YtjfhfaodbjecdaaGreatRows
import Derived.BigQuiet
import Derived.Deep.AppendLies
import Derived.Deep.DeepCutAuto
import Derived.Deep.RegionHeld3
import Derived.Deep.RegionLaw
import Derived.Deep.Slices
import Derived.Laws.AppendOwnNone
import Derived.Lib.Hide
import Derived.OpenShut
import Derived.ProofKit
import Derived.StillTailTactics
import Derived.WalkLawsBesides
import Derived.WalkSpells
set_option maxRecDepth 100000
namespace Go.Proofs.YtjfhfaodbjecdaaGreat
variable {P:Prop}
theorem gA (h:P:=by
 obtain ⟨W8,hWn⟩:=nm ((w2.setCell ⟨w.heap.size+1+1+1+1,0,none⟩ (.int .u64 b0)).setCell ⟨w.heap.size+1+1+1+1,1,none⟩ (.int .u64 b1));have HX8:Hd (Bx W8 (w.heap.size) (kL q po dr se eg ac)):=by show Bx W8 (w.heap.size) (kL q po dr se eg ac);rw[hWn];exact (HX2.o.other om _).other om _
 have HR8:Hd (NB W8 (w.heap.size+1) (.int .u64 0) (.int .u64 0)):=by show NB W8 (w.heap.size+1) (.int .u64 0) (.int .u64 0);rw[hWn];exact (HR2.o.other om _).other om _
 have HZ8:Hd (Bx W8 (w.heap.size+1+1) zL):=by show Bx W8 (w.heap.size+1+1) zL;rw[hWn];exact (HZ2.o.other om _).other om _
 have HD8:Hd (NBox W8 (w.heap.size+1+1+1) op k na nb v0 v1):=by show NBox W8 (w.heap.size+1+1+1) op k na nb v0 v1;rw[hWn];exact (HD2.o.other om _).other om _
 have HA8:Hd (NB W8 (w.heap.size+1+1+1+1) (.int .u64 b0) (.int .u64 b1)):=by show NB W8 (w.heap.size+1+1+1+1) (.int .u64 b0) (.int .u64 b1);rw[hWn];exact HA2.o.put _ _
 have HC8:Hd (NB W8 (w.heap.size+1+1+1+1+1) (.int .u64 0) (.int .u64 0)):=by show NB W8 (w.heap.size+1+1+1+1+1) (.int .u64 0) (.int .u64 0);rw[hWn];exact (HC2.o.other om _).other om _
 have HB8:Hd (Bl w W8):=by show Below _ _ _;rw[hWn];exact (HB2.o.setCell (by show w.heap.size<=w.heap.size+1+1+1+1;omega) _).setCell (by show w.heap.size<=w.heap.size+1+1+1+1;omega) _
 rw[<- hWn];clear hWn;rw[<- bw];obtain ⟨W3,hW9,hX9,hO9,hB9,-⟩:=ni HX8.o (kL q po dr se eg ab) rfl;rw[hW9];clear hW9;have hB9:=hB9 _ _ HB8.o lr;have HX3:Hd (Bx W3 (w.heap.size) (kL q po dr se eg ab)):=hX9;have HR3:Hd (NB W3 (w.heap.size+1) (.int .u64 0) (.int .u64 0)):=(hO9 _ om).trans HR8.o;have HZ3:Hd (Bx W3 (w.heap.size+1+1) zL):=(hO9 _ om).trans HZ8.o;have HD3:Hd (NBox W3 (w.heap.size+1+1+1) op k na nb v0 v1):=(hO9 _ om).trans HD8.o;have HA3:Hd (NB W3 (w.heap.size+1+1+1+1) (.int .u64 b0) (.int .u64 b1)):=(hO9 _ om).trans HA8.o;have HC3:Hd (NB W3 (w.heap.size+1+1+1+1+1) (.int .u64 0) (.int .u64 0)):=(hO9 _ om).trans HC8.o;have HB3:=hD hB9;clear hX9 hO9 hB9;clear x0 x1 x2 x3 s0 s1 s2 s3 d0 d1 d2 d3 d4 d5 e0 f0 e1 f1 e2 f2 e3 f3 e4 f4 e5 f5 e6 f6 e7 f7 e8 f8;have x0:=HA3.o.c0;have x1:=HA3.o.c1;have x2:=HA3.o.free 0;have x3:=HA3.o.free 1;have s0:=HC3.o.c0;have s1:=HC3.o.c1;have s2:=HC3.o.free 0;have s3:=HC3.o.free 1;obtain ⟨d0,d1,d2,d3,d4,d5⟩:=HD3.o.cells;obtain ⟨e0,e1,e2,e3,e4,e5,e6,e7,e8⟩:=HX3.o.c9;obtain ⟨f0,f1,f2,f3,f4,f5,f6,f7,f8⟩:=HX3.o.f9;go_upto_region 8 with (go_at_call 50;(with_reducible refine (HIB.o _ HB3.o).mono ?_);rintro e w4 ⟨he,hb4⟩;unfold fW at he;subst he;have HX4:=hD (HX3.o.below hb4);have HR4:=hD (HR3.o.below hb4);have HZ4:=hD (HZ3.o.below hb4);have HD4:=hD (HD3.o.below hb4);have HA4:=hD (HA3.o.below hb4);have HC4:=hD (HC3.o.below hb4);have HB4:=hD (HB3.o.trans (hb4.mono HB3.o.size));have x0:=HA4.o.c0;have x1:=HA4.o.c1;have x2:=HA4.o.free 0;have x3:=HA4.o.free 1;have s0:=HC4.o.c0;have s1:=HC4.o.c1;have s2:=HC4.o.free 0;have s3:=HC4.o.free 1;obtain ⟨d0,d1,d2,d3,d4,d5⟩:=HD4.o.cells;obtain ⟨e0,e1,e2,e3,e4,e5,e6,e7,e8⟩:=HX4.o.c9;obtain ⟨f0,f1,f2,f3,f4,f5,f6,f7,f8⟩:=HX4.o.f9;clear hb4);obtain ⟨W5,hWn⟩:=nm ((w4.setCell ⟨w.heap.size+1+1+1+1+1,0,none⟩ (.int .u64 g0)).setCell ⟨w.heap.size+1+1+1+1+1,1,none⟩ (.int .u64 g1));have HX5:Hd (Bx W5 (w.heap.size) (kL q po dr se eg ab)):=by show Bx W5 (w.heap.size) (kL q po dr se eg ab);rw[hWn];exact (HX4.o.other om _).other om _
 have HR5:Hd (NB W5 (w.heap.size+1) (.int .u64 0) (.int .u64 0)):=by show NB W5 (w.heap.size+1) (.int .u64 0) (.int .u64 0);rw[hWn];exact (HR4.o.other om _).other om _
 have HZ5:Hd (Bx W5 (w.heap.size+1+1) zL):=by show Bx W5 (w.heap.size+1+1) zL;rw[hWn];exact (HZ4.o.other om _).other om _
 have HD5:Hd (NBox W5 (w.heap.size+1+1+1) op k na nb v0 v1):=by show NBox W5 (w.heap.size+1+1+1) op k na nb v0 v1;rw[hWn];exact (HD4.o.other om _).other om _
 have HA5:Hd (NB W5 (w.heap.size+1+1+1+1) (.int .u64 b0) (.int .u64 b1)):=by show NB W5 (w.heap.size+1+1+1+1) (.int .u64 b0) (.int .u64 b1);rw[hWn];exact (HA4.o.other om _).other om _
 have HC5:Hd (NB W5 (w.heap.size+1+1+1+1+1) (.int .u64 g0) (.int .u64 g1)):=by show NB W5 (w.heap.size+1+1+1+1+1) (.int .u64 g0) (.int .u64 g1);rw[hWn];exact HC4.o.put _ _
 have HB5:Hd (Bl w W5):=by show Below _ _ _;rw[hWn];exact (HB4.o.setCell (by show w.heap.size<=w.heap.size+1+1+1+1+1;omega) _).setCell (by show w.heap.size<=w.heap.size+1+1+1+1+1;omega) _
 rw[<- hWn];clear hWn;clear x0 x1 x2 x3 s0 s1 s2 s3 d0 d1 d2 d3 d4 d5 e0 f0 e1 f1 e2 f2 e3 f3 e4 f4 e5 f5 e6 f6 e7 f7 e8 f8;rw[<- bw];obtain ⟨W6,hW9,hX9,hO9,hB9,-⟩:=ni HX5.o (kL q po dr se eg ab2) rfl;rw[hW9];clear hW9;have hB9:=hB9 _ _ HB5.o lr;have HX6:Hd (Bx W6 (w.heap.size) (kL q po dr se eg ab2)):=hX9;have HR6:Hd (NB W6 (w.heap.size+1) (.int .u64 0) (.int .u64 0)):=(hO9 _ om).trans HR5.o;have HZ6:Hd (Bx W6 (w.heap.size+1+1) zL):=(hO9 _ om).trans HZ5.o;have HD6:Hd (NBox W6 (w.heap.size+1+1+1) op k na nb v0 v1):=(hO9 _ om).trans HD5.o;have HA6:Hd (NB W6 (w.heap.size+1+1+1+1) (.int .u64 b0) (.int .u64 b1)):=(hO9 _ om).trans HA5.o;have HC6:Hd (NB W6 (w.heap.size+1+1+1+1+1) (.int .u64 g0) (.int .u64 g1)):=(hO9 _ om).trans HC5.o;have HB6:=hD hB9;clear hX9 hO9 hB9;have x0:=HA6.o.c0;have x1:=HA6.o.c1;have x2:=HA6.o.free 0;have x3:=HA6.o.free 1;have s0:=HC6.o.c0;have s1:=HC6.o.c1;have s2:=HC6.o.free 0;have s3:=HC6.o.free 1;obtain ⟨d0,d1,d2,d3,d4,d5⟩:=HD6.o.cells;go_upto_region 34 with (first|(go_at_call 73;(with_reducible refine (HAS.o _).mono ?_);rintro e w1 ⟨rfl,hw⟩;obtain rfl:=hw.symm)|(go_at_call 81;(with_reducible refine (HTW.o _).mono ?_);rintro e w7 ⟨rfl,hb7⟩;have HX7:=hD (HX6.o.below hb7);have HR7:=hD (HR6.o.below hb7);have HZ7:=hD (HZ6.o.below hb7);have HD7:=hD (HD6.o.below hb7);have HA7:=hD (HA6.o.below hb7);have HC7:=hD (HC6.o.below hb7);have HB7:=hD (HB6.o.trans (hb7.mono HB6.o.size));have x0:=HA7.o.c0;have x1:=HA7.o.c1;have x2:=HA7.o.free 0;have x3:=HA7.o.free 1;have s0:=HC7.o.c0;have s1:=HC7.o.c1;have s2:=HC7.o.free 0;have s3:=HC7.o.free 1;obtain ⟨d0,d1,d2,d3,d4,d5⟩:=HD7.o.cells;clear hb7));obtain ⟨W9,hWn⟩:=nm ((w7.setCell ⟨w.heap.size+1+1+1+1,0,none⟩ (.int .u64 a0)).setCell ⟨w.heap.size+1+1+1+1,1,none⟩ (.int .u64 a1));have HX1:Hd (Bx W9 (w.heap.size) (kL q po dr se eg ab2)):=by show Bx W9 (w.heap.size) (kL q po dr se eg ab2);rw[hWn];exact (HX7.o.other om _).other om _
 have HR1:Hd (NB W9 (w.heap.size+1) (.int .u64 0) (.int .u64 0)):=by show NB W9 (w.heap.size+1) (.int .u64 0) (.int .u64 0);rw[hWn];exact (HR7.o.other om _).other om _
 have HZ1:Hd (Bx W9 (w.heap.size+1+1) zL):=by show Bx W9 (w.heap.size+1+1) zL;rw[hWn];exact (HZ7.o.other om _).other om _
 have HD1:Hd (NBox W9 (w.heap.size+1+1+1) op k na nb v0 v1):=by show NBox W9 (w.heap.size+1+1+1) op k na nb v0 v1;rw[hWn];exact (HD7.o.other om _).other om _
 have HA1:Hd (NB W9 (w.heap.size+1+1+1+1) (.int .u64 a0) (.int .u64 a1)):=by show NB W9 (w.heap.size+1+1+1+1) (.int .u64 a0) (.int .u64 a1);rw[hWn];exact HA7.o.put _ _
 have HC1:Hd (NB W9 (w.heap.size+1+1+1+1+1) (.int .u64 g0) (.int .u64 g1)):=by show NB W9 (w.heap.size+1+1+1+1+1) (.int .u64 g0) (.int .u64 g1);rw[hWn];exact (HC7.o.other om _).other om _
 have HB1:Hd (Bl w W9):=by show Below _ _ _;rw[hWn];exact (HB7.o.setCell (by show w.heap.size<=w.heap.size+1+1+1+1;omega) _).setCell (by show w.heap.size<=w.heap.size+1+1+1+1;omega) _
 rw[<- hWn];clear hWn;clear x0 x1 x2 x3 s0 s1 s2 s3 d0 d1 d2 d3 d4 d5;go_upto_region 34 with fail;refine aR (RR (w.heap.size) (w.heap.size+1) (w.heap.size+1+1) (.int .u64 c0) (.int .u64 c1) (kL q po dr se eg ab2)) (RR.refl _ _ _ _ _ _) kq (fun W=>RS (w.heap.size) (w.heap.size+1) (w.heap.size+1+1) W9 W) (fun _ _ h hr=>h.step hr) kq (RS.start HR1.o rfl HZ1.o) ?_;refine sq (fun aa ww ll hh=>by have:=hh.oL 11;have HI:=hh.inv;have X4:Bx ww (w.heap.size) (kL q po dr se eg ab2):=(HI.oth _ HX1.o.lt om om).trans HX1.o;have X10:NBox ww (w.heap.size+1+1+1) op k na nb v0 v1:=(HI.oth _ (bV HD1.o).1 om om).trans HD1.o;have X11:NB ww (w.heap.size+1+1+1+1) (.int .u64 a0) (.int .u64 a1):=(HI.oth _ HA1.o.lt om om).trans HA1.o;obtain ⟨s0,s1,s2,s3,s4,s5,s6,s7,s8⟩:=X4.c9;obtain ⟨d0,d1,d2,d3,d4,d5⟩:=X10.cells;have x0:=X11.c0;have x1:=X11.c1;clear HI X4 X10 X11;exact ov gX) ?_;refine sq (fun aa ww ll hh=>by have:=hh.oL 10;exact ov gX) ?_;refine sq (fun aa ww ll hh=>by have:=hh.gt 1 0;have HI:=hh.inv;have X4:Bx ww (w.heap.size) (kL q po dr se eg ab2):=(HI.oth _ HX1.o.lt om om).trans HX1.o;have X10:NBox ww (w.heap.size+1+1+1) op k na nb v0 v1:=(HI.oth _ (bV HD1.o).1 om om).trans HD1.o;have X11:NB ww (w.heap.size+1+1+1+1) (.int .u64 a0) (.int .u64 a1):=(HI.oth _ HA1.o.lt om om).trans HA1.o;obtain ⟨s0,s1,s2,s3,s4,s5,s6,s7,s8⟩:=X4.c9;obtain ⟨d0,d1,d2,d3,d4,d5⟩:=X10.cells;have x0:=X11.c0;have x1:=X11.c1;clear HI X4 X10 X11;exact ov gX) ?_;refine ⟨.eq (.agg #[.int .u64 c0, .int .u64 c1]),trivial,rfl,fun aa ww ll hh=>?_,?_⟩
 ·exact gP
 refine sq (fun aa ww ll hh=>by have:=hh.oL 4;have HI:=hh.inv;have X4:Bx ww (w.heap.size) (kL q po dr se eg ab2):=(HI.oth _ HX1.o.lt om om).trans HX1.o;have X10:NBox ww (w.heap.size+1+1+1) op k na nb v0 v1:=(HI.oth _ (bV HD1.o).1 om om).trans HD1.o;have X11:NB ww (w.heap.size+1+1+1+1) (.int .u64 a0) (.int .u64 a1):=(HI.oth _ HA1.o.lt om om).trans HA1.o;obtain ⟨s0,s1,s2,s3,s4,s5,s6,s7,s8⟩:=X4.c9;obtain ⟨d0,d1,d2,d3,d4,d5⟩:=X10.cells;have x0:=X11.c0;have x1:=X11.c1;clear HI X4 X10 X11;exact ov gX) ?_;refine ⟨.rel (fun W _=>NB W (w.heap.size+1) (.int .u64 c0) (.int .u64 c1)),(fun W W' _ h hr=>hr.ka h),rfl,fun aa ww ll hh=>?_,?_⟩
 ·exact Cp
 refine ⟨.rel (fun W _=>Bx W (w.heap.size+1+1) (kL q po dr se eg ab2)),(fun W W' _ h hr=>hr.kd h),rfl,fun aa ww ll hh=>?_,?_⟩
 ·have e9:=hh.oL 9;have e153:=hh.gt 4 1;obtain ⟨cc9,hlen,hk⟩:=hh.inv.od;obtain ⟨j0,j1,j2,j3,j4,j5,j6,j7,j8,rfl⟩:=sd hlen;obtain ⟨u0,u1,u2,u3,u4,u5,u6,u7,u8⟩:=hk.c9;obtain ⟨r0,r1,r2,r3,r4,r5,r6,r7,r8⟩:=hk.f9;refine bk (aj rfl) (w':=bw ww (w.heap.size+1+1) (.int .i64 po) (.slice q.rp q.rn q.rc) (.slice q.vp q.vn q.vc) (.slice q.fp q.fn q.fc) (.slice q.mp q.mn q.mc) (.bool dr) (.bool se) (.int .i64 eg) (.bool ab2)) ?_ (RR.putD rfl hk om om) (bU (.int .i64 po) (.slice q.rp q.rn q.rc) (.slice q.vp q.vn q.vc) (.slice q.fp q.fn q.fc) (.slice q.mp q.mn q.mc) (.bool dr) (.bool se) (.int .i64 eg) (.bool ab2) hk);try clear hk;exact gX
 intro ll w9 hS9 hok;have p5:=hok 5 _ rfl;have p6:=hok 6 _ rfl;clear hok;simp only[ly];have HB9:Hd (Bl w w9):=HB1.o.trans hS9.low;clear hS9;go_wp2_with fail;obtain ⟨m0,m1,m2,m3,m4,m5,m6,m7,m8⟩:=Bx.c9 p6;have b0:=p5.c0;have b1:=p5.c1;refine bodyPost_ret (v:= .tuple #[.agg #[.int .u64 c0, .int .u64 c1], .agg (kA q po dr se eg ab2)]) ?_ rfl ⟨?_,HB9.o⟩
 ·exact CB
 exact AnsV.of HE.o.1 HE.o.2 rfl):P:=h
theorem gB (h:P:=by
 skip;go_upto_region 4 with fail;obtain ⟨W2,hW2⟩:=nm (w1.setCell ⟨w.heap.size,8,none⟩ (.bool true));have hX2:Bx W2 w.heap.size (kL q po dr se eg true):=by rw[hW2];exact HX1.o.put 8 _
 have hN2:W2.heap[w.heap.size+1]?=some (.cells #[.int .u64 0, .int .u64 0] 60 (0,0)):=by rw[hW2];exact (heap_setCell_other w1 _ (w.heap.size+1) _ (by show w.heap.size+1≠w.heap.size;omega)).trans HN1.o
 have hZ2:Bx W2 (w.heap.size+1+1) zL:=by rw[hW2];exact HZ1.o.other om _
 have hB2:Bl w W2:=by rw[hW2];exact HB1.o.setCell lr _
 rw[<- hW2];have HB2:=hD hB2;have HN2:=hD hN2;have HZ2:=hD hZ2;obtain ⟨y0,y1,y2,y3⟩:=HY.o W2 hB2;clear hW2 a2 a8 f8 hB2;obtain ⟨a0,a1,a2,a3,a4,a5,a6,a7,a8⟩:=Bx.c9 hX2;rw[HPS.o.1] at a3;obtain ⟨e0,e1,e2,e3,e4,e5,e6,e7,e8⟩:=Bx.c9 hZ2;have l0:=Bx.free hZ2 0;have l1:=Bx.free hZ2 1;have l2:=Bx.free hZ2 2;have l3:=Bx.free hZ2 3;have l4:=Bx.free hZ2 4;have l5:=Bx.free hZ2 5;have l6:=Bx.free hZ2 6;have l7:=Bx.free hZ2 7;have l8:=Bx.free hZ2 8;have b0:W2.cell? ⟨w.heap.size+1,0,none⟩=some (.int .u64 0):=by simp[World.cell?,hN2]
 have b1:W2.cell? ⟨w.heap.size+1,1,none⟩=some (.int .u64 0):=by simp[World.cell?,hN2]
 have g0:W2.frozen? ⟨w.heap.size+1,0,none⟩=false:=by simp[World.frozen?,hN2]
 have g1:W2.frozen? ⟨w.heap.size+1,1,none⟩=false:=by simp[World.frozen?,hN2]
 clear hX2 hN2 hZ2;go_region;obtain ⟨W3,hW3⟩:=nm ((W2.setCell ⟨w.heap.size+1,0,none⟩ (.int .u64 n0)).setCell ⟨w.heap.size+1,1,none⟩ (.int .u64 n2));have hN3:W3.heap[w.heap.size+1]?=some (.cells #[.int .u64 n0, .int .u64 n2] 60 (0,0)):=by
  exact Dh
 have hZ3:W3.heap[w.heap.size+1+1]?=some (.cells zA 40 (0,0)):=by
  rw[hW3];exact (HZ2.o.other om _).other om _
 have hB3:Bl w W3:=by rw[hW3];exact (HB2.o.setCell (by show w.heap.size<=w.heap.size+1;omega) _).setCell (by show w.heap.size<=w.heap.size+1;omega) _
 rw[<- hW3];clear hW3 a0 a1 a2 a3 a4 a5 a6 a7 a8 e0 e1 e2 e3 e4 e5 e6 e7 e8 l0 l1 l2 l3 l4 l5 l6 l7 l8 b0 b1 g0 g1 y0 y1 y2 y3;have hb4:=bU (.int .i64 po) (.slice q.rp q.rn q.rc) (.slice q.vp q.vn q.vc) (.slice (some ⟨b,o,none⟩) q.fn q.fc) (.slice q.mp q.mn q.mc) (.bool dr) (.bool se) (.int .i64 eg) (.bool true) hZ3;have hn4:=(cC W3 (g:=w.heap.size+1+1) (k:=w.heap.size+1) (.int .i64 po) (.slice q.rp q.rn q.rc) (.slice q.vp q.vn q.vc) (.slice (some ⟨b,o,none⟩) q.fn q.fc) (.slice q.mp q.mn q.mc) (.bool dr) (.bool se) (.int .i64 eg) (.bool true) om).trans hN3;have hB4:=cM (g:=w.heap.size+1+1) (.int .i64 po) (.slice q.rp q.rn q.rc) (.slice q.vp q.vn q.vc) (.slice (some ⟨b,o,none⟩) q.fn q.fc) (.slice q.mp q.mn q.mc) (.bool dr) (.bool se) (.int .i64 eg) (.bool true) hB3 om;rw[<- bw];generalize bw W3 (w.heap.size+1+1) (.int .i64 po) (.slice q.rp q.rn q.rc) (.slice q.vp q.vn q.vc) (.slice (some ⟨b,o,none⟩) q.fn q.fc) (.slice q.mp q.mn q.mc) (.bool dr) (.bool se) (.int .i64 eg) (.bool true)=W4 at hb4 hn4 hB4⊢;have hb5:Bx W4.drew (w.heap.size+1+1) [.int .i64 po, .slice q.rp q.rn q.rc, .slice q.vp q.vn q.vc, .slice (some ⟨b,o,none⟩) q.fn q.fc, .slice q.mp q.mn q.mc, .bool dr, .bool se, .int .i64 eg, .bool true]:=hb4;have hn5:W4.drew.heap[w.heap.size+1]?=some (.cells #[.int .u64 n0, .int .u64 n2] 60 (0,0)):=hn4;have HB5:Hd (Bl w W4.drew):=hB4.trans (Below.drew br);generalize W4.drew=W5 at*;clear hZ3 hB3 hN3 hb4 hn4 hB4;go_wp2_with fail;obtain ⟨m0,m1,m2,m3,m4,m5,m6,m7,m8⟩:=Bx.c9 hb5;have b0:W5.cell? ⟨w.heap.size+1,0,none⟩=some (.int .u64 n0):=by simp[World.cell?,hn5]
 have b1:W5.cell? ⟨w.heap.size+1,1,none⟩=some (.int .u64 n2):=by simp[World.cell?,hn5]
 refine bodyPost_ret (v:= .tuple #[.agg #[.int .u64 n0, .int .u64 n2], .agg #[.int .i64 po, .slice q.rp q.rn q.rc, .slice q.vp q.vn q.vc, .slice (some ⟨b,o,none⟩) q.fn q.fc, .slice q.mp q.mn q.mc, .bool dr, .bool se, .int .i64 eg, .bool true]]) ?_ rfl ⟨?_,HB5.o⟩
 ·simp[results,Tryz.results75,go_sem,m0,m1,m2,m3,m4,m5,m6,m7,m8,b0,b1]
 show Ending.returned _=_;rw[HPS.o.1];rfl):P:=h
theorem gC (h:P:=by
 rintro L a' w' i hL hi hnd hdep ⟨v5,v6,v8,v9,v10,v11,rfl,hI⟩;have hL8:L.size=8:=hL;have HI:=hD hI;have d0:w'.cell? ⟨w.heap.size,0,none⟩=some (.int .u64 (h1:Int)):=(hI.below.cell (p:=⟨w.heap.size,0,none⟩) z0).trans c0;have d1:w'.cell? ⟨w.heap.size,1,none⟩=some (.int .u64 (l1:Int)):=(hI.below.cell (p:=⟨w.heap.size,1,none⟩) z0).trans c1;have d2:w'.cell? ⟨w.heap.size+1,0,none⟩=some (.int .u64 (h2:Int)):=(hI.below.cell (p:=⟨w.heap.size+1,0,none⟩) z1).trans c2;have d3:w'.cell? ⟨w.heap.size+1,1,none⟩=some (.int .u64 (l2:Int)):=(hI.below.cell (p:=⟨w.heap.size+1,1,none⟩) z1).trans c3;have hZ:Tryz.zeroCells114=aw fun _=>false:=by kernel_rfl
 have HZ:=hD hZ;clear hZ hI;match i,hi with
 |0,_=>
  exact D4
 |1,_=>
  exact Dn
 |2,_=>
  exact D5
 |3,_=>
  exact Do
 |4,_=>
  exact DF
 |5,_=>
  exact DG
 |6,_=>
  have q4:=hdep _ rfl ⟨4, .data⟩ sm kq;have q:=HI.o.h1 (hdep _ rfl ⟨1, .data⟩ sm kq);subst q;obtain ⟨g,e1,-,e3⟩:=HI.o.h4 q4;subst e1;clear hdep hnd;refine wpOp_step rfl (fun K' hK=>?_);refine eR rfl ?_;exact wp_store_row 114 (.tmp 5) (.tmp 9) rfl g (aw fa) rfl rfl 114 _ e3 (by rw[au];exact aS) (by rw[au,au]) (ce _) (hK _ _ ⟨_,_,_,_,_,_,rfl,HI.o.s6 hL8 q4 rfl⟩)
 |7,_=>
  have q5:=hdep _ rfl ⟨5, .data⟩ sm kq;have q:=HI.o.h3 (hdep _ rfl ⟨3, .data⟩ sm kq);subst q;obtain ⟨g,e1,-,e3⟩:=HI.o.h5 q5;subst e1;clear hdep hnd;refine wpOp_step rfl (fun K' hK=>?_);refine eR rfl ?_;exact wp_store_row 114 (.tmp 6) (.tmp 11) rfl g (aw fb) rfl rfl 114 _ e3 (by rw[au];exact aS) (by rw[au,au]) (ce _) (hK _ _ ⟨_,_,_,_,_,_,rfl,HI.o.s7 hL8 q5 rfl⟩)):P:=h
theorem gD (h:P:=by
 refine ⟨.rel (fun W _=>NB W (w.heap.size+1) (.int .u64 c0) (.int .u64 c1)),(fun W W' _ h hr=>hr.ka h),rfl,fun aa ww ll hh=>?_,?_⟩
 ·exact Cp
 refine ⟨.rel (fun W _=>Bx W (w.heap.size+1+1) (kL q po dr se eg ac)),(fun W W' _ h hr=>hr.kd h),rfl,fun aa ww ll hh=>?_,?_⟩
 ·have e9:=hh.oL 9;have e153:=hh.gt 4 1;obtain ⟨cc9,hlen,hk⟩:=hh.inv.od;obtain ⟨j0,j1,j2,j3,j4,j5,j6,j7,j8,rfl⟩:=sd hlen;obtain ⟨u0,u1,u2,u3,u4,u5,u6,u7,u8⟩:=hk.c9;obtain ⟨r0,r1,r2,r3,r4,r5,r6,r7,r8⟩:=hk.f9;refine bk (aj rfl) (w':=bw ww (w.heap.size+1+1) (.int .i64 po) (.slice q.rp q.rn q.rc) (.slice q.vp q.vn q.vc) (.slice q.fp q.fn q.fc) (.slice q.mp q.mn q.mc) (.bool dr) (.bool se) (.int .i64 eg) (.bool ac)) ?_ (RR.putD rfl hk om om) (bU (.int .i64 po) (.slice q.rp q.rn q.rc) (.slice q.vp q.vn q.vc) (.slice q.fp q.fn q.fc) (.slice q.mp q.mn q.mc) (.bool dr) (.bool se) (.int .i64 eg) (.bool ac) hk);try clear hk;exact gX
 intro ll w9 hS9 hok;have p5:=hok 5 _ rfl;have p6:=hok 6 _ rfl;clear hok;simp only[ly];have HB9:Hd (Bl w w9):=HB1.o.trans hS9.low;clear hS9;go_wp2_with fail;obtain ⟨m0,m1,m2,m3,m4,m5,m6,m7,m8⟩:=Bx.c9 p6;have b0:=p5.c0;have b1:=p5.c1;refine bodyPost_ret (v:= .tuple #[.agg #[.int .u64 c0, .int .u64 c1], .agg (kA q po dr se eg ac)]) ?_ rfl ⟨?_,HB9.o⟩
 ·exact CB
 exact AnsV.of HE.o.1 HE.o.2 rfl):P:=h
theorem gE (h:P:=by
 rw[<- hW5] at hpb4;have hHO5:=hpb4.toO.raise fun z hz e he=>(HO3.o.blk z hz e he).1
 have hX5:Bx W5 (w.heap.size) (kL kk po dr se eg ac):=hpb4.st;have hZ5:Bx W5 (w.heap.size+1) zL:=by rw[hW5];exact HZ3.o.other (by have:=HLOW.o;omega) _
 have hB5:Bl w W5:=by rw[hW5];exact HB3.o.setCell (by show w.heap.size<=vg;have:=HLOW.o;omega) _
 rw[<- hW5];clear hW5 a2 hvy hvf;obtain ⟨fg,fcap,u,hfp,hfcap,hfc,hfu,-⟩:=hpb4.getRow HL.o;have hfgl:fg<W5.heap.size:=by
  have hfp2:=hpb4.hf;rw[hfp] at hfp2;exact (aB hfp2 rfl).2
 obtain ⟨pu,cu,hu⟩:=jb (hHO5.hfs h u l hfu HL.o).1;subst hu;have HX5:=hD hX5;have HB5:=hD hB5;have HZ5:=hD hZ5;have HPB4:=hD hpb4;have HO5:=hD hHO5;have HFP:Hd (Value.slice kk.fp kk.fn kk.fc= .slice (some ⟨fg,0,none⟩) x.fields.length fcap):=hfp;have HFC:Hd (Cl W5 fg h (.slice pu l.length cu)):=hfc;have hhf:(h:Int)<(x.fields.length:Int):=by have:=(bO HL.o).1;omega
 obtain ⟨xf,hxf⟩:=nm x.fields.length;obtain ⟨lz,hlz⟩:=nm l.length;have hfcap2:(x.fields.length:Int)<=(fcap:Int):=hfcap;have hlz6:lz<=1000000:=by rw[hlz];exact HSM.o.fl l (cX HL.o)
 have HXF:=hD (And.intro hxf hlz);rw[<- hxf] at HFP hhf hfcap2;rw[<- hlz] at HFC;clear hX5 hB5 hZ5 hpb4 hHO5 hfp hfc hfu hxf hlz hfcap hvgl hvx hvc hvgw hvi;refine eD kq (fun Wk=>Bl W5 Wk) (fun w1 w2 h1 h2=>h1.trans (h2.mono h1.size)) kq kq (Below.drew br) ?_;refine bC ?_ (fun aa ww ll hh=>?_) ?_;rotate_left
 ·have e3:=hh.oL 3;exact ov gX
 refine bC ?_ (fun aa ww ll hh=>?_) ?_;rotate_left
 ·have e33:=hh.gt 0 0;exact B8
 refine bC ?_ (fun aa ww ll hh=>?_) ?_;rotate_left
 ·have e1:=hh.oL 1;refine ov ?_;rw[bg e1]
 refine bC ?_ (fun aa ww ll hh=>?_) ?_;rotate_left
 ·have e3:=hh.oL 3;exact ov gX
 refine bC ?_ (fun aa ww ll hh=>?_) ?_;rotate_left
 ·have e36:=hh.gt 3 0;exact B8
 refine bC ?_ (fun aa ww ll hh=>?_) ?_;rotate_left
 ·have e1:=hh.oL 1;refine ov ?_;rw[bg e1]
 refine bC ?_ (fun aa ww ll hh=>?_) ?_;rotate_left
 ·have e37:=hh.gt 4 1;have e38:=hh.gt 5 0;exact ov gX
 refine bC ?_ (fun aa ww ll hh=>?_) ?_;rotate_left
 ·have e39:=hh.gt 6 0;exact B8
 refine bC ?_ (fun aa ww ll hh=>?_) ?_;rotate_left
 ·have e40:=hh.gt 7 0;exact B8
 refine ⟨.rel (fun W v=>∃z:Nat,v= .slice (some ⟨z,0,none⟩) lz lz/\W5.heap.size<=z/\NOwn W5.heap.size W (.slice (some ⟨z,0,none⟩) lz lz) (List.replicate lz 0)),(fun W W' v ⟨z,h1,h2,h3⟩ hr=>⟨z,h1,h2,h3.far fun k hk=>hr.block k (aB h3.1 hk).2⟩),rfl,fun aa ww ll hh=>?_,?_⟩
 ·have e41:=hh.gt 8 0;obtain ⟨w8,hrun,r1,r2⟩:=ti ww lz hlz6;have hsz:=hh.inv.size;refine dR (aj rfl) (w':=w8) (v:= .slice (some ⟨ww.heap.size,0,none⟩) lz lz) ?_ r2 ⟨ww.heap.size,rfl,hsz,⟨cg r1.1 hsz,r1.2⟩⟩;clear hh r1 r2;generalize aa.eval=ev at e41⊢;simp[execOp,e41,hrun,Result.andThen]
 refine bC ?_ (fun aa ww ll hh=>?_) ?_;rotate_left
 ·have e34:=hh.gt 1 8;have e35:=hh.gt 2 7;exact ov gX
 intro ll w6 hS6 hok;have p9:=hok 9 _ rfl;clear hok;simp only[ly];refine ⟨(by first|trivial|rfl),?_⟩;obtain ⟨zg,hzg,hzl,hzo⟩:=p9;rw[hzg];have hpb6:=HPB4.o.below hS6;obtain ⟨fg2,fcap2,hf2,-,hfg2,hfx2,-,hff,⟨fy,hfy⟩,hpb7⟩:=hpb6.setRow (i:=h) (bO HL.o).1 (show NOwn (w.heap.size) w6 (.slice (some ⟨zg,0,none⟩) lz lz) (List.replicate lz 0) from ⟨cg hzo.1 HB5.o.size,hzo.2⟩) (fun z hz k hk e=>by
  have hk2:=(HO5.o.blk z hz k hk).2;simp only[Value.ownBlock,Option.some.injEq] at e;omega) (fun e=>by
  have:=HX5.o.lt;simp only[Value.ownBlock,Option.some.injEq] at e;omega)
 have hfe:=hf2;rw[HFP.o] at hfe;simp only[Value.slice.injEq,Option.some.injEq,Addr.mk.injEq,and_true,true_and] at hfe;obtain ⟨rfl,-,rfl⟩:=hfe;have gf:=hff h;have HB6:=hD (HB5.o.trans (hS6.mono HB5.o.size));have HZ6:=hD (HZ5.o.below hS6);have HO6:=hD (HO5.o.below hS6);have HZG:Hd (W0.heap.size<=zg/\W0.heap.size<=fg):=⟨by have:=HB5.o.size;have h1:=HO5.o.blk _ (by simp:(Value.slice kk.fp kk.fn kk.fc)∈_) fg (by rw[HFP.o];rfl);omega,(HO5.o.blk (Value.slice kk.fp kk.fn kk.fc) sm fg (by rw[HFP.o];rfl)).1⟩;clear hf2 hpb6 hS6 hzg hff;unfold Oper.wp;go_simp;rename_i hK;refine hK _ _ ?_;clear hK;obtain ⟨W7,hW7⟩:=nm (w6.setCell ⟨fg,h,none⟩ (.slice (some ⟨zg,0,none⟩) lz lz));rw[<- hW7] at hpb7;have hO7:=hpb7.toO.raise (b':=W0.heap.size) fun z hz e he=>by
  rcases List.mem_append.1 hz with hz|hz
  ·exact (HO5.o.blk z (List.mem_append_left _ hz) e he).1
  ·rcases List.mem_or_eq_of_mem_set hz with hz|rfl
   ·exact (HO5.o.blk z (List.mem_append_right _ hz) e he).1
   ·simp only[Value.ownBlock,Option.some.injEq] at he;have:=HZG.o.1;omega
 have hX7:Bx W7 (w.heap.size) (kL kk po dr se eg ac):=hpb7.st;have hZ7:Bx W7 (w.heap.size+1) zL:=by rw[hW7];exact HZ6.o.other (by have:=HZG.o;have:=HLOW.o;omega) _
 have hB7:Bl w W7:=by rw[hW7];exact HB6.o.setCell (by show w.heap.size<=fg;have:=HZG.o;have:=HLOW.o;omega) _
 rw[<- hW7];clear hW7 hfy gf;have HO7:=hD hO7;have HZ7:=hD hZ7;have HB7:=hD hB7;obtain ⟨d0,d1,d2,d3,d4,d5,d6,d7,d8⟩:=Bx.c9 hX7;obtain ⟨e0,e1,e2,e3,e4,e5,e6,e7,e8⟩:=Bx.c9 hZ7;have r0:=Bx.free hZ7 0;have r1:=Bx.free hZ7 1;have r2:=Bx.free hZ7 2;have r3:=Bx.free hZ7 3;have r4:=Bx.free hZ7 4;have r5:=Bx.free hZ7 5;have r6:=Bx.free hZ7 6;have r7:=Bx.free hZ7 7;have r8:=Bx.free hZ7 8;clear hpb7 hO7 hX7 hZ7 hB7;go_wp2_with fail;rw[<- bw];obtain ⟨w9,hW9,p6,hO9,hB9,-⟩:=ni HZ7.o (kL kk po dr se eg ac) rfl;rw[hW9];clear hW9;have hB9:=hB9 _ _ HB7.o om;obtain ⟨m0,m1,m2,m3,m4,m5,m6,m7,m8⟩:=Bx.c9 p6;refine bodyPost_ret (v:= .agg (kA kk po dr se eg ac)) ?_ rfl ⟨⟨kk,?_,?_,fun g hgw _=>?_⟩,hB9⟩
 ·simp[results,Tryz.results26,go_sem,m0,m1,m2,m3,m4,m5,m6,m7,m8]
 ·unfold kV;rfl
 ·obtain ⟨k2,e1,e2,e3,e4,hk2⟩:=(HO7.o.far (w':=w9) fun z h1 h2=>hO9 z (by have:=HLOW.o;omega)).ks;have ek:k2=kk:=by
   cases k2;cases kk;simp only[Value.slice.injEq] at e1 e2 e3 e4;simp[e1,e2,e3,e4]
  rw[ek] at hk2;rw[HYV.o,if_pos sm, <-HXF.o.2];exact ⟨hk2.r,hk2.v,hk2.f,hk2.m⟩
 ·rw[HYV.o,if_pos sm, <-HXF.o.2];exact (HO7.o.far (w':=w9) fun z h1 h2=>hO9 z (by have:=HLOW.o;omega)).apart (fun b hb=>by have:=hgw b hb;have:=HLOW.o;omega) rfl rfl rfl rfl):P:=h
theorem gF (h:P:=by
 skip;refine dZ wr ?_;refine sq (fun aa ww ll hh=>by have:=hh.oL 2;exact ov gX) ?_;refine sq (fun aa ww ll hh=>by have:=hh.gt 0 0;exact ov (fC (HCE.o ww hh.inv))) ?_;refine sq (fun aa ww ll hh=>by exact ov (bg (hh.oL 6))) ?_;refine sq (fun aa ww ll hh=>by have:=hh.gt 1 1;have:=hh.gt 2 0;exact ov gX) ?_;refine sq (fun aa ww ll hh=>by have:=hh.gt 3 0;exact ov (fC (HCE.o ww hh.inv))) ?_;refine sq (fun aa ww ll hh=>by have:=hh.oL 3;exact ov gX) ?_;refine sq (fun aa ww ll hh=>by have:=hh.gt 5 0;exact ov (fC (HCE.o ww hh.inv))) ?_;refine sq (fun aa ww ll hh=>by exact ov (bg (hh.oL 6))) ?_;refine sq (fun aa ww ll hh=>by have:=hh.gt 6 1;have:=hh.gt 7 0;exact ov gX) ?_;refine sq (fun aa ww ll hh=>by have:=hh.gt 8 0;exact ov (fC (HCE.o ww hh.inv))) ?_;refine sq (fun aa ww ll hh=>by have:=hh.gt 4 5;have:=hh.gt 9 0;exact ov gX) ?_;refine cV 10 0 ?_;refine sq (fun aa ww ll hh=>by have:=hh.oL 2;exact hh.og 0 gX) ?_;refine sq (fun aa ww ll hh=>by have:=hh.gt 12 0;exact hh.og 1 (fC (HCE.o ww hh.inv))) ?_;refine sq (fun aa ww ll hh=>by exact hh.og 2 (bg (hh.oL 6))) ?_;refine sq (fun aa ww ll hh=>by have:=hh.gt 13 1;have:=hh.gt 14 0;exact hh.og 3 gX) ?_;refine sq (fun aa ww ll hh=>by have:=hh.gt 15 0;exact hh.og 4 (fC (HCE.o ww hh.inv))) ?_;refine sq (fun aa ww ll hh=>by have:=hh.gt 16 0;exact hh.og 5 (fC (HCE.o ww hh.inv))) ?_;refine sq (fun aa ww ll hh=>by have:=hh.oL 3;exact hh.og 6 gX) ?_;refine sq (fun aa ww ll hh=>by have:=hh.gt 18 0;exact hh.og 7 (fC (HCE.o ww hh.inv))) ?_;refine sq (fun aa ww ll hh=>by exact hh.og 8 (bg (hh.oL 6))) ?_;refine sq (fun aa ww ll hh=>by have:=hh.gt 19 1;have:=hh.gt 20 0;exact hh.og 9 gX) ?_;refine sq (fun aa ww ll hh=>by have:=hh.gt 21 0;exact hh.og 10 (fC (HCE.o ww hh.inv))) ?_;refine sq (fun aa ww ll hh=>by have:=hh.gt 22 0;exact hh.og 11 (fC (HCE.o ww hh.inv))) ?_;refine sq (fun aa ww ll hh=>by have:=hh.gt 17 6;have:=hh.gt 23 0;exact hh.og 12 gX) ?_;refine sq (fun aa ww ll hh=>by have:=hh.gt 11 13;have:=hh.gt 24 0;have ec:=cW aa;exact ov gX) ?_;intro ll w2 hS hok;clear hok;simp only[ly];have HB2:=hD hS;clear hS;obtain ⟨⟨a2,a3,b2,b3⟩,y0,y1,y2,y3⟩:=HCE.o w2 HB2.o;go_wp2_with fail;clear a2 a3 b2 b3 y0 y1 y2 y3;go_loopw [7] (fun u wq=>∃j:Nat,j<=l1'/\u= .int .i64 j/\Hd (Bl wr wq)) (fun u _=>l1'-(intOf u).toNat)
 case atStart=>exact ⟨0,zl,rfl,HB2.o⟩
 case round=>
  obtain ⟨j,hj,rfl,HQ⟩:=hrel;obtain ⟨⟨a2,a3,b2,b3⟩,y0,y1,y2,y3⟩:=HCE.o _ HQ.o;by_cases hjl:j<l1'
  ·have hji:(j:Int)<(l1':Int):=om;obtain ⟨n,hn⟩:∃n,l[j]?=some n:=⟨_,bS (by have:=HLN.o;omega)⟩;obtain ⟨d,r,hqs,-,-,c0,c1⟩:=(HY0.o.below aM HQ.o).get hn;obtain ⟨d',r',hqs',-,-,c2,c3⟩:=(HY1.o.below aM HQ.o).get hn;rw[hqs] at y0;rw[hqs'] at y1;generalize ((n/B:Nat):Int)=n0 at*;generalize ((n%B:Nat):Int)=n1 at*;clear hn hqs hqs';go_upto_region 16 with fail;exact DE
  obtain rfl:j=l1':=om;have hji:¬(j:Int)<(j:Int):=om;have HW3:=hD (HW.o.trans (HQ.o.mono HW.o.size));go_wp2_with fail;go_roundw
  case rel=>exact ⟨z+1,om,by go_num,HW3.o⟩
  case measure=>exact mz):P:=h
theorem gG (h:P:=by
 subst hta;obtain ⟨va,vc,rfl⟩:=HR2.o.s.shape;obtain ⟨sl,hsl⟩:=nm S2.length;have hsl2:sl<=6000:=by have:=HB2.o.len;have:=HN.o;have:=HSL.o;omega
 rw[<- hsl] at HR2⊢;have HVT:=hD hv;have HTT:=hD (And.intro ht htl);have HS2:=hD (And.intro hsl hsl2);clear hv ht htl hsl hsl2;by_cases e1:t=I
 ·subst e1;have e2:(t==t)=true:=by simp
  have hr:R=true:=by
   have h1:=HVT.o;rw[if_pos rfl] at h1;rw[HR.o];exact HC.o.found HNE.o (HV.o.symm.trans h1)
  have hbw:=HB0.o.trans (HW2.o.mono HB0.o.size);exact Ce
 have e2:(t==I)=false:=by rw[beq_eq_false_iff_ne];exact e1
 have hv2:=HVT.o;rw[if_neg e1] at hv2;by_cases e3:t<0
 ·have e4:¬0<=t:=om;rw[if_neg (fun h=>e4 h.1)] at hv2;have HV2:=hD hv2;clear hv2;go_wp2_with fail;go_roundw
  case rel=>exact ⟨q+1,_,_,om,by go_num,HV2.o,HB2.o,HR2.o,HW2.o⟩
  case measure=>exact mz
 have e4:0<=t:=om;obtain ⟨r,hr⟩:=nm (S2.contains t);have HIN:Hd (CR 58 #[.slice va sl vc, .int .i64 t] wr (.bool r)):=by rw[hr];exact lE S2 _ _ _ t wr HR2.o.s.row (by have:=HS2.o;omega)
 cases r
 ·have hv3:¬t∈S2:=fun h=>by rw[<- List.contains_iff_mem] at h;rw[h] at hr;cases hr
  rw[if_pos ⟨e4,hv3⟩] at hv2;have HV2:=hD hv2;have HBP:=hD (HB2.o.push hv3 e4 HTT.o.2);clear hv2 hv3 hr;go_upto_region 23 with (first
   |(go_at_call 58;refine HIN.o.mono ?_;rintro e w7 ⟨rfl,hb7⟩;have HR7:=hD (HR2.o.below hb7);have HW7:=hD (HW2.o.trans (hb7.mono HW2.o.size));clear hb7;obtain ⟨_,_,hta7,hc7⟩:=HR7.o.tcell HTT.o.1;cases hta7)
   |(refine kO rfl (.tmp 83) (.tmp 88) rfl W0.heap.size (.slice va sl vc) _ rfl (HR7.o.alloc _).s w7.heap.size t rfl (by simp[go_sem]) (by have:=HS2.o;omega) (by have:=HW7.o.size;simp only[World.size_alloc];omega) ?_;intro v8 w8 h1 h2;have HR8:=hD ((HR7.o.alloc _).appS h1 h2);have HW8:Hd (Bl W0 w8):=h2.below (HR7.o.alloc _).s (HW7.o.alloc HW7.o.size _) lr (by have:=HW7.o.size;simp only[World.size_alloc];omega);clear h1 h2;obtain ⟨_,_,hta8,hc8⟩:=HR8.o.tcell HTT.o.1;cases hta8))
  go_wp2_with ((refine kO rfl (.tmp 90) (.tmp 95) rfl W0.heap.size u7 _ rfl (HR8.o.alloc _).x w8.heap.size t rfl (by simp[go_sem]) (by have:=HS2.o;have:=HB2.o.xl;omega) (by have:=HW8.o.size;simp only[World.size_alloc];omega) ?_;intro v9 w9 h1 h2;have HR9:=hD ((HR8.o.alloc _).appX h1 h2);have HW9:Hd (Bl W0 w9):=h2.below (HR8.o.alloc _).x (HW8.o.alloc HW8.o.size _) lr (by have:=HW8.o.size;simp only[World.size_alloc];omega);clear h1 h2));go_roundw
  case rel=>exact ⟨q+1,_,_,om,by go_num,HV2.o,HBP.o,HR9.o,HW9.o⟩
  case measure=>exact mz
 ·have hv3:t∈S2:=by rw[<- List.contains_iff_mem];exact hr.symm
  rw[if_neg (fun h=>h.2 hv3)] at hv2;have HV2:=hD hv2;clear hv2 hv3 hr;go_wp2_with (go_at_call 58;refine HIN.o.mono ?_;rintro e w7 ⟨rfl,hb7⟩;have HR7:=hD (HR2.o.below hb7);have HW7:=hD (HW2.o.trans (hb7.mono HW2.o.size));clear hb7);go_roundw
  case rel=>exact ⟨q+1,_,_,om,by go_num,HV2.o,HB2.o,HR7.o,HW7.o⟩
  case measure=>exact mz):P:=h
theorem gH (h:P:=by
 go_wp2_with fail;all_goals
  go_ret;refine ⟨?_,by first|exact HB0.o|exact HB0.o.trans (HB1.o.mono HB0.o.size)|exact (HB0.o.trans (HB1.o.mono HB0.o.size)).trans (HB2.o.mono (Nat.le_trans HB0.o.size HB1.o.size))⟩;show Ending.returned (.int .i64 _)=_;congr 2;rw[HR.o];obtain ⟨g1,g2,g3⟩:=HRR.o;obtain ⟨d1,d2,d3⟩:=HL.o;clear HB0 HPB HNB HZB HP HS;simp only[bne_iff_ne,ne_eq,beq_iff_eq,beq_eq_false_iff_ne,bne_eq_false_iff_eq,Int.not_lt] at*
  first|(simp_all[bs];done)|(simp_all[bs];omega)):P:=h
theorem gI (h:P:=by
 have X4:=HX4.o.below hh.inv;have s4:=X4.cell (i:=4) rfl;rw[HMP.o] at s4;have x0:=(HA4.o.below hh.inv).c0;have x1:=(HA4.o.below hh.inv).c1;have q1:=(HP4.o.below hh.inv).cells.2.1;rw[HMPS.o] at q1;have y2:=HMC.o ww (HLW.o.trans (hh.inv.mono HLW.o.size));obtain ⟨i0,i1,i2,i3,i4⟩:=(show IBox ww wr.heap.size 2 (jj:Int) ib ep en ec it from HI4.o.below hh.inv).cells;clear X4;exact ov gX):P:=h
theorem gJ (h:P:=by
 go_enter Tryz.func100,Tryz.ntmps100;go_wp2_with (go_at_call 130;go_in);rw[HE.o];refine (dh _ _ _ HC.o).mono ?_;rintro e w1 ⟨rfl,hb⟩;obtain ⟨hc,hf⟩:=bT hb;have hz:=hb.size;simp at hz;have L1:w.heap.size+1<w1.heap.size:=om;obtain ⟨u,v,hm,-,-⟩:=ae (n*2 ^ sh _%(B*B)%2 ^ sh j);have HM:=hD hm;rw[hm];clear hm;go_wp2_with fail;exact bodyPost_ret (v:= .agg #[.int .u64 (u:Int), .int .u64 (v:Int)]) (by simp[results,Tryz.results100,go_sem,hc,hf]) rfl ⟨by rw[<- HM.o],bL⟩):P:=h
theorem gK (h:P:=by
 have hS1:=HS6.o.below hh.inv;obtain ⟨p0,p1,p2,p3,p4,p5,p6,p7,p8,p9,p10,p11⟩:=hS1.prog.cells;have q3:=p3;rw[HAPS.o] at q3;clear p3;have y0:=HAC.o ww (HS6.o.low.trans (hh.inv.mono HS6.o.low.size));have X5:=HX6.o.below hh.inv;obtain ⟨s0,s1,s2,s3,s4,s5,s6,s7,s8⟩:=X5.c9;obtain ⟨u0,u1,-,-⟩:=iw ((hh.inv.block _ (cB HR6.o)).trans HR6.o);clear X5 hS1;exact ov gX):P:=h
theorem gL (h:P:=by
 have hp:=HR1.o.put (.int .u64 c0) (.int .u64 c1);have m0:=hp.c0;have m1:=hp.c1;exact bodyPost_ret (v:= .agg #[.int .u64 c0, .int .u64 c1]) (by simp[results,Tryz.results81,go_sem,m0,m1]) rfl ⟨rfl,(HB1.o.setCell (by show w.heap.size<=w.heap.size+1+1+1;omega) _).setCell (by show w.heap.size<=w.heap.size+1+1+1;omega) _⟩):P:=h
theorem gM (h:P:=by
 have X4:=HX3.o.below hh.inv;obtain ⟨s0,s1,s2,s3,s4,s5,s6,s7,s8⟩:=X4.c9;have x0:=(HN3.o.below hh.inv).c0;have x1:=(HN3.o.below hh.inv).c1;have q0:=(HP3.o.below hh.inv).cells.1;rw[HPS.o] at q0;rw[HFP.o] at s3;obtain ⟨y0,y1⟩:=HYH.o ww (HB3.o.trans (hh.inv.mono HB3.o.size));have y2:=(hh.inv.cell (p:=⟨fg,h,none⟩) hfgl).trans HFC.o;clear X4;exact ov gX):P:=h
theorem gN (h:P:=by
 intro i o ho e he;match i,ho with
 |0,ho=>cases ho;simp at he
 |1,ho=>cases ho;simp at he;subst he;show (0:Nat)<1;omega
 |2,ho=>cases ho;simp at he
 |3,ho=>cases ho;simp at he;rcases he with rfl|rfl<;>(simp<;>omega)
 |4,ho=>cases ho;simp at he
 |5,ho=>cases ho;simp at he
 |6,ho=>cases ho;simp at he;rcases he with rfl|rfl|rfl|rfl|rfl|rfl|rfl|rfl|rfl<;>(simp<;>omega)
 |7,ho=>cases ho;simp at he;rcases he with rfl|rfl|rfl|rfl|rfl|rfl|rfl|rfl|rfl|rfl<;>(simp<;>omega)):P:=h
theorem gO (h:P:=by
 clear hM3;obtain ⟨-,r1,⟨x0,x1,r3⟩,r4⟩:=HK.o;have e:aw ((fun k i=>decide (L+i<k)&&f (L+i)) k)=aw g:=aO fun i hi=>(HG.o i hi).symm
 rw[e] at r1;clear e;have HNUM:Hd (∀ W,Calls Tryz.prog 53 #[.agg (aw g)] W (ai W (dW n hi (L:Int)))):=fun W=>by rw[<- HE.o];exact bE _ W
 have HB4:=hD r4;have H3:=hD r3;clear r3 r4 HE HK H0 HG;have hRR:(aw g).size=128:=au _;generalize aw g=RR at r1 HNUM hRR;go_wp2_with (first
  |(refine wpList_load_row rfl 114 (.tmp 8) rfl (w1.heap.size+1) rfl 114 RR (0,0) _ r1 Tryz.underlying114 rfl (by rw[hRR];exact aS) ?_))
 clear r1;obtain ⟨h3,l3,e3,-,-⟩:=ae (dW n hi (L:Int));have HE3:=hD e3;have HNUM2:Hd (∀ W,CR 53 #[.agg RR] W (.agg #[.int .u64 (h3:Int), .int .u64 (l3:Int)])):=fun W=>by rw[<- HE3.o];exact HNUM.o W
 clear HNUM e3;refine (HNUM2.o _).mono ?_;rintro e w3 ⟨rfl,hb1⟩;have hr:=(hb1.block (w.heap.size+1) (aI H3.o)).trans H3.o;have q0:w3.cell? ⟨w.heap.size+1,0,none⟩=some x0:=by simp[World.cell?,hr]
 have q1:w3.cell? ⟨w.heap.size+1,1,none⟩=some x1:=by simp[World.cell?,hr]
 have qz:∀j,w3.frozen? ⟨w.heap.size+1,j,none⟩=false:=fun j=>by simp[World.frozen?,hr]
 have HR:=hD hr;have HB5:=hD (HB4.o.trans (hb1.mono HB4.o.size));clear hr hb1;go_wp2_with fail;have hg:=bP (.int .u64 (l3:Int)) (bQ (.int .u64 (h3:Int)) HR.o);exact bodyPost_ret (v:= .agg #[.int .u64 (h3:Int), .int .u64 (l3:Int)]) (results_cell_row Tryz.results78 _ _ (w.heap.size+1) _ _ _ _ (by simp[go_sem]) hg Tryz.underlying60 rfl kq) rfl ⟨by rw[HE3.o],(HB5.o.setCell (by show w.heap.size<=w.heap.size+1;omega) _).setCell (by show w.heap.size<=w.heap.size+1;omega) _⟩):P:=h
theorem gP (h:P:=by
 have e149:=hh.gt 0 2;have e151:=hh.gt 2 0;have ef:=fQ aa;have HI:=hh.inv;have l1:=HI.ltA;have l2:=HI.ltD;refine aE (aj rfl) ?_ ((HCut.o ww).mono fun e w1 h=>⟨h.1,RR.of_below om l1 l2 h.2⟩);try clear HI;exact gX):P:=h
theorem gQ (h:P:=by
 have hr:R=false:=HNO.o (by
  unfold bK;dsimp only;rw[if_neg sm,if_neg sm,if_neg sm,if_neg sm,if_pos sm,if_neg ha])
 rcases (show ¬a=0\/(a=0/\¬b=0) by omega) with ha1|⟨ha1,ha2⟩
 all_goals
  try have hb8:(b !=0)=true:=bne_iff_ne.2 om
  try have hb9:(b !=1)=true:=bne_iff_ne.2 om
  try have ha8:(a !=0)=true:=bne_iff_ne.2 om
  go_wp2_with fail
  all_goals
   go_ret;exact ⟨by first|rfl|(rw[hr];rfl),HB0.o⟩):P:=h
theorem gR (h:P:=by
 have HE4:=hD e4;have HCUT2:Hd (∀ W,CR 24 #[.agg #[.int .u64 (h3:Int), .int .u64 (l3:Int)], .int .i64 c] W (.agg #[.int .u64 (h4:Int), .int .u64 (l4:Int)])):=fun W=>by rw[<- HE4.o];exact hcut W
 clear HNUM e3 hcut e4 HE3;refine (HNUM2.o _).mono ?_;rintro e w3 ⟨rfl,hb1⟩;have HB6:=hD (HB4.o.trans (hb1.mono HB4.o.size));have H6:=hD ((hb1.block (w.heap.size+1) (aI H3.o)).trans H3.o);clear hb1 H3 HB4;go_wp2_with fail;refine (HCUT2.o _).mono ?_;rintro e w4 ⟨rfl,hb1⟩;have hr:=(hb1.block (w.heap.size+1) (aI H6.o)).trans H6.o;have q0:w4.cell? ⟨w.heap.size+1,0,none⟩=some x0:=by simp[World.cell?,hr]
 have q1:w4.cell? ⟨w.heap.size+1,1,none⟩=some x1:=by simp[World.cell?,hr]
 have qz:∀j,w4.frozen? ⟨w.heap.size+1,j,none⟩=false:=fun j=>by simp[World.frozen?,hr]
 have HR:=hD hr;have HB5:=hD (HB6.o.trans (hb1.mono HB6.o.size));clear hr hb1;go_wp2_with fail;have hg:=bP (.int .u64 (l4:Int)) (bQ (.int .u64 (h4:Int)) HR.o);exact bodyPost_ret (v:= .agg #[.int .u64 (h4:Int), .int .u64 (l4:Int)]) (results_cell_row Tryz.results79 _ _ (w.heap.size+1) _ _ _ _ (by simp[go_sem]) hg Tryz.underlying60 rfl kq) rfl ⟨by rw[HE4.o],(HB5.o.setCell (by show w.heap.size<=w.heap.size+1;omega) _).setCell (by show w.heap.size<=w.heap.size+1;omega) _⟩):P:=h
theorem gS (h:P:=by
 refine ⟨?_,hal.trans (by rw[hez]),⟨.int .u64 0, .int .u64 0,?_⟩,?_⟩
 ·rw[Below.heap_alloc _ _ _ sm,hset]
 ·rw[Below.heap_alloc _ _ _ (by simp;omega),setRow_other _ _ _ _ om,Below.heap_alloc _ _ _ om];exact cr1
 exact (cK (HB1.o.alloc om _) om _).alloc (by simp;omega) _):P:=h
theorem gT (h:P:=by
 refine dZ w5 ?_;refine sq (fun aa ww ll hh=>by have:=hh.oL 5;exact ov gX) ?_;refine sq (fun aa ww ll hh=>by have:=hh.gt 0 0;exact ov (fC (HCM.o ww hh.inv))) ?_;refine sq (fun aa ww ll hh=>by exact ov (bg (hh.oL 7))) ?_;refine sq (fun aa ww ll hh=>by have:=hh.gt 1 1;have:=hh.gt 2 0;exact ov gX) ?_;refine sq (fun aa ww ll hh=>by have:=hh.gt 3 0;exact ov (fC (HCM.o ww hh.inv))) ?_;refine sq (fun aa ww ll hh=>by have:=hh.gt 4 0;have ec:=cW aa;exact ov gX) ?_;refine cV 5 0 ?_;refine aV 0 ?_;refine aV 1 ?_;refine aV 2 ?_;refine aV 3 ?_;refine aV 4 ?_;refine aV 5 ?_;refine aV 6 ?_;refine aV 7 ?_;refine aV 8 ?_;exact C5):P:=h
theorem gU (h:P:=by
 generalize gq a b=cm at*;have hcm:=HCM.o;go_enter Tryz.func81,Tryz.ntmps81;go_upto_region 1 with fail;rw[<- HW.o];clear HW;go_wp2_with (first|(go_at_call 29;(with_reducible refine (HC.o _).mono ?_);rintro e w1 ⟨rfl,hb1⟩;have HR1:=hD (HR0.o.below hb1);have HB1:=hD (HB0.o.trans (hb1.mono HB0.o.size));have r0:=HR1.o.c0;have r1:=HR1.o.c1;have r2:=HR1.o.free 0;have r3:=HR1.o.free 1;clear hb1)|(go_at_call 27;(with_reducible refine (HT.o _).mono ?_);rintro e w2 ⟨rfl,hb2⟩;have HR2:=hD (HR1.o.below hb2);have HB2:=hD (HB1.o.trans (hb2.mono HB1.o.size));have r0:=HR2.o.c0;have r1:=HR2.o.c1;have r2:=HR2.o.free 0;have r3:=HR2.o.free 1;clear hb2));have hp:=HR2.o.put (.int .u64 c0) (.int .u64 c1);have m0:=hp.c0;have m1:=hp.c1;exact bodyPost_ret (v:= .agg #[.int .u64 c0, .int .u64 c1]) (by simp[results,Tryz.results81,go_sem,m0,m1]) rfl ⟨rfl,(HB2.o.setCell (by show w.heap.size<=w.heap.size+1+1+1;omega) _).setCell (by show w.heap.size<=w.heap.size+1+1+1;omega) _⟩):P:=h
theorem gV (h:P:=by
 go_region_with (first|(go_at_call 90;refine (HAM.o _ HB0.o.drew).mono ?_;rintro e w3 ⟨rfl,hb3⟩;try rw[HE3.o];have HB3:Hd (Bl W0 w3):=Below.trans (Below.drew br) hb3;have HF3:Hd (Fr (·=X) w w3):=(Fr.of_below HB0.o).trans (Fr.of_below HB3.o);have HP3:Hd (PktB base w3 X (x.acc false) r v f mm fs):=(HP.o.below (HB0.o.trans (HB3.o.mono HB0.o.size))).acc0;have hX3:Bx2 w3 (w.heap.size+1) 0 0:=(hb3.block _ (di HX0.o)).trans HX0.o;clear b0 b1 g0 g1;obtain ⟨b0,b1,g0,g1⟩:=hX3.cells;clear hX3));all_goals
  go_wp2_with fail;refine bodyPost_ret (v:= .tuple #[.agg #[.int .u64 (y3:Int), .int .u64 (z3:Int)], .bool true]) ?_ rfl ⟨by rw[HR3.o],?_,?_⟩
  ·simp[results,Tryz.results66,go_sem,b0,b1,g0,g1]
  ·exact HP3.o.kept fun k hk=>bj w3 (w.heap.size+1) 0 1 _ _ (by have:=(HP.o.blk hk).2;omega)
  ·exact (HF3.o.set (.inr om) _).set (.inr om) _):P:=h
theorem gW (h:P:=by
 have hjli:(j:Int)<(kn:Int):=om;have hk6:kn<=1048576:=by have:=HLK.o;omega
 obtain ⟨c,hc⟩:∃c,x.keys[j]?=some c:=⟨_,bS (by have:=HLK.o.1;omega)⟩;obtain ⟨kb,ko,cp,cn,cc,hkp,hkb,y6,hy6⟩:=CsRow.elG (HKR.o.below eh (HB0.o.trans (HWQ.o.mono HB0.o.size))) hc;obtain ⟨zz,hzz⟩:=nm (z1+bf (fun c=>1+c.length) (x.keys.take j));have HY:Hd (zz+1+cn=z1+bf (fun c=>1+c.length) (x.keys.take (j+1))):=by show _=_;rw[hzz,er hc,hy6.ln.1];omega
 have HYB:Hd (zz+1+cn<=5000000000000000000):=by
  show _<=_;rw[HY.o];have h1:=HZB.o;have h2:=de (f:=fun c:List Nod=>1+c.length) (l:=x.keys) (k:=j+1);have h3:=HZK.o;unfold fL at h3;omega
 rw[<- hzz];rw[hkp] at q4;clear hc hy6 hzz hkp;go_wp2_with fail;go_roundw
 case rel=>exact ⟨j+1,om,by go_num,by rw[<- HY.o];exact congrArg _ (zy (a:=zz+1) om rfl HYB.o),HWQ.o⟩
 case measure=>exact mz):P:=h
theorem gY (h:P:=by
 skip;go_upto_region 2 with fail;clear a2 y3;obtain ⟨d0,d1,d2,d3,d4,d5,d6,d7,d8⟩:=Bx.c9 HX0.o;obtain ⟨e0,e1,e2,e3,e4,e5,e6,e7,e8⟩:=Bx.c9 HZ0.o;have r0:=Bx.free HZ0.o 0;have r1:=Bx.free HZ0.o 1;have r2:=Bx.free HZ0.o 2;have r3:=Bx.free HZ0.o 3;have r4:=Bx.free HZ0.o 4;have r5:=Bx.free HZ0.o 5;have r6:=Bx.free HZ0.o 6;have r7:=Bx.free HZ0.o 7;have r8:=Bx.free HZ0.o 8;go_wp2_with fail;rw[<- bw];obtain ⟨w9,hW9,p6,-,hB9,-⟩:=ni HZ0.o (kL q po dr se eg ac) rfl;rw[hW9];clear hW9;have hB9:=hB9 _ _ HB0.o om;obtain ⟨m0,m1,m2,m3,m4,m5,m6,m7,m8⟩:=Bx.c9 p6;refine bodyPost_ret (v:= .agg (kA q po dr se eg ac)) ?_ rfl ⟨⟨q,?_,?_,fun g _ hga=>?_⟩,hB9⟩
 ·simp[results,Tryz.results26,go_sem,m0,m1,m2,m3,m4,m5,m6,m7,m8]
 ·unfold kV;rfl
 ·rw[HYV.o,if_neg sm];exact HQ.o.below hB9
 rw[HYV.o,if_neg sm];exact hga.below hB9):P:=h
theorem gZ (h:P:=by
 clear q0 q1 q2 q3;obtain ⟨q,hq,rfl,HQ⟩:=hrel;obtain ⟨q0,q1,q2,q3⟩:=(HPB.o.below HQ.o).cells;by_cases hql:(q:Int)<k
 ·obtain ⟨z,hz⟩:=HM.o (k-1-(q:Int));have HZ:=hD hz;clear hz;cases z
  ·go_wp2_with (go_at_call 88;(with_reducible refine (HZ.o _).mono ?_);rintro e w2 ⟨rfl,hb⟩;have HQ2:=hD (HQ.o.trans (hb.mono HQ.o.size));clear hb);go_roundw
   case rel=>exact ⟨q+1,om,by go_num,HQ2.o⟩
   case measure=>exact mz
  ·go_wp2_with (go_at_call 88;(with_reducible refine (HZ.o _).mono ?_);rintro e w2 ⟨rfl,hb⟩;have HQ2:=hD (HQ.o.trans (hb.mono HQ.o.size));clear hb);go_ret2;exact ⟨⟨_,_,rfl⟩,HB0.o.trans (HQ2.o.mono HB0.o.size)⟩
 go_wp2_with fail;go_ret2;exact ⟨⟨_,_,rfl⟩,HB0.o.trans (HQ.o.mono HB0.o.size)⟩):P:=h
theorem CX (h:P:=by
 rw[<- hyt] at hb1;have HSP:=hD hbp;rw[hbp] at x2;clear hy hyt hbp hbb hb0 hbr hbk;go_wp2_with (refine kO rfl (.tmp 48) (.tmp 55) rfl W0.heap.size u10 _ rfl (HRK.o.alloc _).t wr.heap.size yt rfl (by simp[go_sem]) HTL.o (by have:=HBK.o.size;simp only[World.size_alloc];omega) ?_;intro v6 w6 h1 h2;have HR6:=hD ((HRK.o.alloc _).appT h1 h2);have HB6:Hd (Bl W0 w6):=h2.below (HRK.o.alloc _).t (HBK.o.alloc HBK.o.size _) lr (by have:=HBK.o.size;simp only[World.size_alloc];omega);have HS6:=hD ((HSK.o.below (br.alloc lr _)).grw h2 (HRK.o.alloc _).t);clear h1 h2);go_roundw
 case rel=>exact ⟨k+1,om,by go_num,by have:=HR6.o;rw[HTK.o] at this;exact this,HB6.o,HS6.o⟩
 case measure=>exact mz):P:=h
theorem CY (h:P:=by
 have HZ:=hD hz;clear hz;refine dZ W3 ?_;refine sq (fun aa ww ll hh=>by have:=hh.oL 13;have x0:=(HA3.o.below hh.inv).c0;have x1:=(HA3.o.below hh.inv).c1;exact ov gX) ?_;refine ⟨.eq (.agg #[.int .u64 0, .int .u64 0]),trivial,rfl,fun aa ww ll hh=>?_,?_⟩
 ·exact D8
 refine sq (fun aa ww ll hh=>by have:=hh.gt 0 1;have:=hh.gt 1 0;exact ov gX) ?_;intro ll w5 hS5 hok;clear hok;simp only[ly];have HS5:=hD (HS3.o.below hS5);clear hS5;have HRS2:=HRS.o;rw[if_neg (by rw[<- HNB.o.2.2.2.1];exact HZ.o)] at HRS2;have HR2:=hD HRS2;clear HRS2;go_wp2_with fail;go_roundw
 case rel=>exact ⟨a+1,_,k,om,by go_num,HR2.o,HS5.o⟩
 case measure=>exact mz):P:=h
theorem CZ (h:P:=by
 have HN:=hD hnd;have q0:=(HI.o.got 0 (hdep _ rfl ⟨0, .data⟩ sm kq) rfl).symm;subst q0;have q1:=(HI.o.got 1 (hdep _ rfl ⟨1, .data⟩ sm kq) rfl).symm;subst q1;have HJ:Hd (∀ j∈([]:List Nat),aZ L j=true):=fun j hj=>by cases hj
 obtain ⟨B7,-,g7,e7,-,h7⟩:=HI.o.made 7 (hdep _ rfl ⟨7, .data⟩ sm kq) rfl;have e7:u7= .slice (some ⟨g7,0,none⟩) 3 3:=e7;subst e7;have H7:=hD h7;clear h7;clear hdep hnd;refine wpOp_step rfl (fun K' hK=>?_);go_simp;refine (HV.o _ _ H7.o).mono ?_;rintro e w1 ⟨rfl,hbK⟩;exact hK _ _ ⟨_,_,_,_,_,_,_,_,_,_,rfl,hsz _,HI.o.quiet 8 _ hF HN.o om (by show 8<11;omega) rfl HJ.o hbK (fun hg=>HGQ.o 8 _ _ _ _ _ HN.o om (by show 8<11;omega) hbK hg dq) rfl⟩):P:=h
theorem C0 (h:P:=by
 intro i o ho e he hb;match i,ho with
 |0,ho=>cases ho;simp at he
 |1,ho=>cases ho;simp at he
 |2,ho=>cases ho;simp at he
 |3,ho=>cases ho;simp at he;subst he;first|(simp;done)|(exact absurd hb dq)
 |4,ho=>cases ho;simp at he
 |5,ho=>cases ho;simp at he;rcases he with rfl|rfl<;>first|(simp;done)|(exact absurd hb dq)
 |6,ho=>cases ho;simp at he
 |7,ho=>cases ho;simp at he;rcases he with rfl|rfl|rfl<;>first|(simp;done)|(exact absurd hb dq)
 |8,ho=>cases ho;simp at he;rcases he with rfl|rfl|rfl|rfl<;>first|(simp;done)|(exact absurd hb dq)
 |9,ho=>cases ho;simp at he
 |10,ho=>cases ho;simp at he;rcases he with rfl|rfl|rfl|rfl|rfl|rfl|rfl|rfl|rfl|rfl|rfl|rfl|rfl<;>first|(simp;done)|(exact absurd hb dq)
 |i+11,ho=>simp at ho):P:=h
theorem C1 (h:P:=by
 by_cases ha:a=0/\b=0
 ·obtain ⟨rfl,rfl⟩:=ha;have HR:=hD (HSO.o 0 (by simp[bK]));cases o;all_goals
   go_wp2_with (go_at_call 60;refine (HWI.o _ HB0.o).mono ?_;rintro e w5 ⟨rfl,hb5⟩;unfold iX;have HB5:=hD hb5;clear hb5)
   all_goals
    go_ret;refine ⟨?_,by first|exact HB0.o|exact (HB0.o).trans (HB5.o.mono (HB0.o).size)⟩;show Ending.returned (.bool _)=_;congr 2;rw[HR.o];clear HB0 HPB HIB HP HS HNO HSO HR
    try simp only[bne_iff_ne,ne_eq,beq_iff_eq,beq_eq_false_iff_ne,bne_eq_false_iff_eq,Int.not_lt] at*
    unfold iQ
    first|(simp_all;done)|(simp_all;omega)|(simp_all;rw[Bool.eq_iff_iff,beq_iff_eq,decide_eq_true_eq];try first|exact Iff.rfl|omega)
 exact gQ):P:=h
theorem C2 (h:P:=by
 obtain ⟨vp,vn,vc,rfl⟩:∃p n c,r= .slice p n c:=by
  obtain ⟨-,q|⟨g,cap,cur,e,-⟩⟩:=h.hr
  ·exact ⟨_,_,_,q.1⟩
  exact ⟨_,_,_,e⟩
 obtain ⟨vp2,vn2,vc2,rfl⟩:∃p n c,v= .slice p n c:=by
  obtain ⟨-,q|⟨g,cap,cur,e,-⟩⟩:=h.hv
  ·exact ⟨_,_,_,q.1⟩
  exact ⟨_,_,_,e⟩
 obtain ⟨vp3,vn3,vc3,rfl⟩:∃p n c,f= .slice p n c:=by
  obtain ⟨-,q|⟨g,cap,cur,e,-⟩⟩:=h.hf
  ·exact ⟨_,_,_,q.1⟩
  exact ⟨_,_,_,e⟩
 obtain ⟨vp4,vn4,vc4,rfl⟩:∃p n c,m= .slice p n c:=by
  obtain ⟨-,q|⟨g,cap,cur,e,-⟩⟩:=h.hm.1
  ·exact ⟨_,_,_,q.1⟩
  exact ⟨_,_,_,e⟩
 unfold World.cell?;rw[h.st];unfold cA;match i with
 |0|1|2|3|4|5|6|7|8=>simp
 |i+9=>simp):P:=h
theorem Cp (h:P:=by
 have e8:=hh.oL 8;have e152:=hh.gt 3 1;obtain ⟨xx,yy,hk⟩:=hh.inv.oa;have u0:=hk.c0;have u1:=hk.c1;have u2:=hk.free 0;have u3:=hk.free 1;refine bk (aj rfl) (w':=(ww.setCell ⟨w.heap.size+1,0,none⟩ (.int .u64 c0)).setCell ⟨w.heap.size+1,1,none⟩ (.int .u64 c1)) ?_ (RR.putA hk om om) (hk.put _ _);try clear hk;exact gX):P:=h
theorem AX (h:P:=by
 exact ⟨_,_,_,_,_,_,rfl,TwoI.init (by funext i;unfold aZ;match i with|0=>rfl|1=>rfl|2=>rfl|3=>rfl|4=>rfl|5=>rfl|6=>rfl|7=>rfl|i+8=>rfl) (below_drewN br 1)⟩):P:=h
theorem C3 (h:P:=by
 refine ⟨hI.inv,fun t ht=>xT (hI.fr.old t fun j _ e=>?_),fun j hj d hjd=>tI (hI.fr.new j d (hd' j (by simpa using hj)) hjd),fun j hj kj hkj=>hI.ok j (hd' j (by simpa using hj)) kj hkj,fun g b hg=>?_⟩
 ·unfold jM at ht;rw[List.any_eq_false] at ht;unfold cF at e;cases q:ops[j]? with
  |none=>rw[q] at e;cases e
  |some o'=>
   rw[q] at e;have:=ht o' (by rw[Array.mem_toList_iff];exact Array.mem_of_getElem? q);rw[beq_iff_eq] at this;exact this e
 obtain ⟨h1,d,h2⟩:=ci.guard g b hg;have:=hI.fr.new g d (hd' g h1) h2;unfold yielded;have e2:(ops[g]?).bind (·.dst)=some d:=h2;rw[e2];simp only[Option.bind_some,this];cases l g<;>rfl):P:=h
theorem Cq (h:P:=by
 obtain ⟨r1,r2,r3⟩:=HK.o.cells hlt;cases hf1:fa k<;>cases hf2:fb k
 all_goals
  rw[hf1] at r1;rw[hf2] at r2;have HF1:=hD hf1;have HF2:=hD hf2;clear hf1 hf2;go_wp2_with fail;go_roundw
  case rel=>exact ⟨k+1,om,by go_num,HK.o.step hlt HGN.o om (by rw[HF1.o,HF2.o];rfl)⟩
  case measure=>exact mz):P:=h
theorem AT (h:P:=by
 refine aE (aj rfl) ?_ (HC.o ww hh.inv);exact gX):P:=h
theorem j9 (h:P:=by
 show _=_;exact zo):P:=h
theorem C4 (h:P:=by
 refine sq (fun aa ww ll hh=>by have:=hh.gt 5 6;have:=hh.gt 11 0;have ec:=cW aa;exact ov gX) ?_;refine cV 12 0 ?_;refine aV 0 ?_;refine aV 1 ?_;refine aV 2 ?_;refine aV 3 ?_;refine aV 4 ?_;refine aV 5 ?_;refine aV 6 ?_;refine aV 7 ?_;refine sq (fun aa ww ll hh=>by have:=hh.gt 13 8;have:=hh.gt 21 0;have ec:=cW aa;exact ov gX) ?_;intro ll w3 hS hok;clear hok;simp only[ly];go_wp2_with fail;go_ret;refine ⟨?_,HB.o.trans (hS.mono HB.o.size)⟩;have e:dF below [] l=false:=by rw[HST.o,decide_eq_false om];rfl
 rw[e];rfl):P:=h
theorem C5 (h:P:=by
 refine sq (fun aa ww ll hh=>by have:=hh.gt 6 9;have:=hh.gt 15 0;have ec:=cW aa;exact ov gX) ?_;intro ll w6 hS hok;clear hok;simp only[ly];have HZ6:Hd (Bl w w6/\Bl W1 w6):=⟨HZ5.o.1.trans (hS.mono HZ5.o.1.size),HZ5.o.2.trans (hS.mono HZ5.o.2.size)⟩;obtain ⟨⟨c2,c3,c4⟩,d0,d1,d2,d3,d4,d5⟩:=HCM.o w6 hS;clear hS;go_wp2_with fail;all_goals first
  |(go_ret;exact ⟨⟨_,rfl,fun h=>by cases h⟩,HZ6.o.1⟩)
  |(
   go_roundw
   case rel=>exact ⟨k+1,_,om,by go_num,rfl,HZ6.o.2⟩
   case measure=>simp[intOf];omega)):P:=h
theorem B8 (h:P:=by
 have X4:=HX5.o.below hh.inv;obtain ⟨s0,s1,s2,s3,s4,s5,s6,s7,s8⟩:=X4.c9;rw[HFP.o] at s3;have y2:=(hh.inv.cell (p:=⟨fg,h,none⟩) hfgl).trans HFC.o;clear X4;exact ov gX):P:=h
theorem C6 (h:P:=by
 have HN:=hD hnd;have HJ:Hd (∀ j∈([]:List Nat),aZ L j=true):=fun j hj=>by cases hj
 clear hdep hnd;refine wpOp_step rfl (fun K' hK=>?_);go_simp;have hbK:Bl w' (w'.alloc (.cells #[.int .u64 0, .int .u64 0] 60)):=br.alloc lr _;exact hK _ _ ⟨_,_,_,_,_,_,_,_,_,_,rfl,hsz _,HI.o.quiet 9 _ hF HN.o om (by show 9<11;omega) rfl HJ.o hbK (fun hg=>HGQ.o 9 _ _ _ _ _ HN.o om (by show 9<11;omega) hbK hg dq) ⟨w'.heap.size,rfl,⟨Nat.le_refl _,by simp⟩,_,_,ag w' _⟩⟩):P:=h
theorem C7 (h:P:=by
 refine sq (fun aa ww ll hh=>by have:=hh.gt 4 4;have:=hh.gt 8 0;have ec:=cW aa;exact ov gX) ?_;refine cV 9 0 ?_;refine aV 0 ?_;refine aV 1 ?_;refine aV 2 ?_;refine aV 3 ?_;refine aV 4 ?_;refine aV 5 ?_;refine aV 6 ?_;refine aV 7 ?_;refine sq (fun aa ww ll hh=>by have:=hh.gt 10 8;have:=hh.gt 18 0;have ec:=cW aa;exact ov gX) ?_;refine cV 19 0 ?_;exact DX):P:=h
theorem Cr (h:P:=by
 go_wp2_with (refine wpList_store_row rfl 114 (.tmp 5) (.tmp 7) rfl w1.heap.size (aw f) rfl rfl 114 _ HNW.o (by rw[au];exact aS) (by rw[au];exact HZS.o) (ce _) ?_);go_ret;exact ⟨by rw[HE.o];rfl,HB2.o⟩):P:=h
theorem Ca (h:P:=by
 have h1:=HEN.o;rcases HCO.o with ⟨h2,-⟩|⟨-,h2⟩
 ·exact absurd h2 hwz
 obtain ⟨t,ht,-⟩:=kK h2;have:=t.flat_ne;rw[ht] at h1;omega):P:=h
theorem Cs (h:P:=by
 go_wp2_with fail;go_roundw
 case rel=>exact ⟨k+1,om,by go_num,HK.o.step om om om (fun i _=>by unfold put;by_cases e:i=k<;>simp[e]<;>(try omega)<;>(by_cases e2:i<k<;>simp[e2]<;>omega))⟩
 case measure=>exact mz):P:=h
theorem C8 (h:P:=by
 have HN:=hD hnd;have HJ:Hd (∀ j∈([]:List Nat),aZ L j=true):=fun j hj=>by cases hj
 obtain ⟨z0,z1,z2,z3,z4,z5⟩:=HC.o _ HI.o.glob.1;clear hdep hnd;refine wpOp_step rfl (fun K' hK=>?_);go_simp;exact hK _ _ ⟨_,_,_,_,_,_,_,_,_,_,rfl,hsz _,HI.o.val 6 _ hF HN.o om (by show 6<11;omega) rfl br (fun hg=>HGQ.o 6 _ _ _ _ _ HN.o om (by show 6<11;omega) br hg dq)⟩):P:=h
theorem C9 (h:P:=by
 have hsn:=tN (l:=hd) (k:=z) (by have:=HNR.o;omega);obtain ⟨v,hv⟩:=nm (hd.getD z 0);rw[<- hv] at hrc hsn;have HSN:=hD hsn;obtain ⟨S,hSq⟩:=nm (fv (hd.take z));rw[<- hSq];have HSQ:=hD hSq;have hwa:=vF S v;clear hsn hSq hv;go_wp2_with fail;go_roundw
 case rel=>exact ⟨z+1,om,by go_num,by rw[HSN.o, <-HSQ.o];first|rfl|simp[hwa],(by first|trivial|rfl)⟩
 case measure=>exact mz):P:=h
theorem Da (h:P:=by
 refine sq (fun aa ww ll hh=>by have:=hh.gt 6 0;exact ov gX) ?_;intro ll w9 hS hok;clear hok;simp only[ly];go_wp2_with fail;go_roundw
 case rel=>exact ⟨k+1,om,by go_num,HW.o.trans (hS.mono HW.o.size),fun j y hj hy=>by
  rcases Nat.lt_or_ge j k with h|h
  ·exact HQ.o j y h hy
  ·obtain rfl:j=k:=om
   rw[HX.o.1] at hy;cases hy;exact HX.o.2.symm⟩
 case measure=>exact mz):P:=h
theorem Ct (h:P:=by
 congr 2;apply aO;intro i _;simp only[put];by_cases e:i=k
 ·subst e;rw[if_pos rfl,if_pos om,hc]
 rw[if_neg e];by_cases e2:i<k
 ·rw[if_pos e2,if_pos om]
 rw[if_neg e2,if_neg om]):P:=h
theorem Db (h:P:=by
 obtain ⟨hl,h|⟨g',cap',cur,h1,h2,h3,h4,h5,h6,h7⟩⟩:=h
 ·simp at h
 simp only[Value.slice.injEq,Option.some.injEq,Addr.mk.injEq,and_true,true_and] at h1;obtain ⟨rfl,rfl⟩:=h1;rw[<- h7] at hv;have hi:i<n*k:=by
  have:=(bO hv).1;simp at this;omega
 rw[List.getElem?_take_of_lt hi] at hv;simp only[World.cell?,h3];simpa using hv):P:=h
theorem Dc (h:P:=by
 have HN:=hD hnd;have HJ:Hd (∀ j∈([]:List Nat),aZ L j=true):=fun j hj=>by cases hj
 clear hdep hnd;refine wpOp_step rfl (fun K' hK=>?_);go_simp;exact hK _ _ ⟨_,_,_,_,_,_,_,_,_,_,rfl,hsz _,HI.o.val 0 _ hF HN.o om (by show 0<11;omega) rfl br (fun hg=>HGQ.o 0 _ _ _ _ _ HN.o om (by show 0<11;omega) br hg dq)⟩):P:=h
theorem Dd (h:P:=by
 have HN:=hD hnd;have HJ:Hd (∀ j∈([]:List Nat),aZ L j=true):=fun j hj=>by cases hj
 clear hdep hnd;refine wpOp_step rfl (fun K' hK=>?_);go_simp;exact hK _ _ ⟨_,_,_,_,_,_,_,_,_,_,rfl,hsz _,HI.o.val 1 _ hF HN.o om (by show 1<11;omega) rfl br (fun hg=>HGQ.o 1 _ _ _ _ _ HN.o om (by show 1<11;omega) br hg dq)⟩):P:=h
theorem De (h:P:=by
 have HN:=hD hnd;have HJ:Hd (∀ j∈([]:List Nat),aZ L j=true):=fun j hj=>by cases hj
 clear hdep hnd;refine wpOp_step rfl (fun K' hK=>?_);go_simp;exact hK _ _ ⟨_,_,_,_,_,_,_,_,_,_,rfl,hsz _,HI.o.val 2 _ hF HN.o om (by show 2<11;omega) rfl br (fun hg=>HGQ.o 2 _ _ _ _ _ HN.o om (by show 2<11;omega) br hg dq)⟩):P:=h
theorem Df (h:P:=by
 have HN:=hD hnd;have HJ:Hd (∀ j∈([]:List Nat),aZ L j=true):=fun j hj=>by cases hj
 clear hdep hnd;refine wpOp_step rfl (fun K' hK=>?_);go_simp;exact hK _ _ ⟨_,_,_,_,_,_,_,_,_,_,rfl,hsz _,HI.o.val 4 _ hF HN.o om (by show 4<11;omega) rfl br (fun hg=>HGQ.o 4 _ _ _ _ _ HN.o om (by show 4<11;omega) br hg dq)⟩):P:=h
theorem Dg (h:P:=by
 obtain rfl:q=ln:=om;have hql':¬(q:Int)<(q:Int):=om;have hv:=HVQ.o;rw[HLN.o,vH] at hv;have HV3:Hd (V=jI p I (N.drop (j+1)) (S2,X2)):=hv;have HR3':=hD HR2.o.noT;have hn6:nn<=6000:=HNB.o;clear hv;go_wp2_with fail;go_roundw
 case rel=>exact ⟨j+1,_,_,om,by go_num,HV3.o,HB2.o,HR3'.o,HW2.o⟩
 case measure=>exact mz):P:=h
theorem Cu (h:P:=by
 have e20:=hh.gt 12 2;have e22:=hh.gt 14 0;have ef:=fQ aa;refine aE (hh.go 3 rfl kq rfl rfl) ?_ (HIN.o ww (HB0.o.trans (hh.inv.mono HB0.o.size)));exact gX):P:=h
theorem AY (h:P:=by
 have h1:=HEN.o;rcases HCO.o with ⟨-,h2⟩|⟨h2,-⟩
 ·omega
 exact absurd hwz h2):P:=h
theorem Cv (h:P:=by
 clear hok;simp only[ly];go_wp2_with fail;go_ret;exact ⟨by first|rfl|(rw[hr];rfl),hbw.trans (hS.mono hbw.size)⟩):P:=h
theorem Dh (h:P:=by
 rw[hW3];have h1:(W2.setCell ⟨w.heap.size+1,0,none⟩ (.int .u64 n0)).heap[w.heap.size+1]?=some (.cells #[.int .u64 n0, .int .u64 0] 60 (0,0)):=heap_setCell_same W2 (w.heap.size+1) 0 _ _ _ HN2.o;exact heap_setCell_same (W2.setCell ⟨w.heap.size+1,0,none⟩ (.int .u64 n0)) (w.heap.size+1) 1 _ _ _ h1):P:=h
theorem Di (h:P:=by
 refine sq (fun aa ww ll hh=>by have:=hh.gt 6 9;have:=hh.gt 15 0;have ec:=cW aa;exact ov gX) ?_;intro ll w2 hS hok;clear hok;simp only[ly];have HB2:=hD (HB0.o.trans ((HW.o.trans (hS.mono HW.o.size)).mono HB0.o.size));clear hS;go_wp2_with fail;go_ret;exact ⟨⟨_,rfl,trivial⟩,HB2.o⟩):P:=h
theorem Cb (h:P:=by
 obtain ⟨b,o,e,h1,p1,n1,c1,h2,h3⟩:=h.get hj;rw[Nat.mul_one] at h2;exact ⟨b,o,p1,n1,c1,e,h1,h2,h3⟩):P:=h
theorem Dj (h:P:=by
 refine sq (fun aa ww ll hh=>by have:=hh.gt 7 10;have:=hh.gt 17 0;have ec:=cW aa;exact ov gX) ?_;intro ll w3 hS hok;clear hok;simp only[ly];have hr:R=false:=HNO.o (HW.o.trans (if_neg om));go_wp2_with fail;go_ret;exact ⟨by first|rfl|(rw[hr];rfl),HB0.o.trans (hS.mono HB0.o.size)⟩):P:=h
theorem Dk (h:P:=by
 intro ll w3 hS hok;clear hok;simp only[ly];go_wp2_with fail;go_roundw
 case rel=>exact ⟨k+1,om,by go_num,HW.o.trans (hS.mono HW.o.size),fun q hq=>by
  rcases Nat.lt_or_ge q k with h|h
  ·exact HQ.o q h
  ·obtain rfl:q=k:=om
   exact HRF.o.symm⟩
 case measure=>exact mz):P:=h
theorem Dl (h:P:=by
 by_cases h1:ik=1
 ·exact .inl h1
 by_cases h2:ik=2
 ·exact .inr (.inl h2)
 by_cases h3:ik=3
 ·exact .inr (.inr (.inl h3))
 by_cases h6:ik=6
 ·omega
 rcases fq hwk h1 h2 h3 h6 with ⟨h,-⟩|⟨h,-⟩|⟨h,-⟩|⟨h,-⟩<;>dsimp only at h<;>omega):P:=h
theorem Cw (h:P:=by
 go_wp2_with fail;refine bodyPost_ret (results_tmp2 rfl _ _ _) rfl ⟨?_,HB0.o.trans (HW.o.mono HB0.o.size)⟩;rw[HWP.o];rfl):P:=h
theorem Dm (h:P:=by
 exact hK _ _ ⟨_,_,_,_,_,_,_,_,_,_,rfl,hsz _,HI.o.quiet 7 _ hF HN.o om (by show 7<11;omega) rfl HJ.o hbK (fun hg=>HGQ.o 7 _ _ _ _ _ HN.o om (by show 7<11;omega) hbK hg dq) ⟨w'.heap.size,rfl,⟨Nat.le_refl _,by simp⟩,ag w' _⟩⟩):P:=h
theorem AU (h:P:=by
 exact Nat.le_trans (List.length_filter_le _ _) sm):P:=h
theorem Dn (h:P:=by
 have q:=HI.o.h0 (hdep _ rfl ⟨0, .data⟩ sm kq);subst q;clear hdep hnd;refine wpOp_step rfl (fun K' hK=>?_);go_simp;refine (HA.o _).mono ?_;rintro e w1 ⟨rfl,hb1⟩;exact hK _ _ ⟨_,_,_,_,_,_,rfl,(HI.o.below' hb1).s1 hL8⟩):P:=h
theorem Do (h:P:=by
 have q:=HI.o.h2 (hdep _ rfl ⟨2, .data⟩ sm kq);subst q;clear hdep hnd;refine wpOp_step rfl (fun K' hK=>?_);go_simp;refine (HB.o _).mono ?_;rintro e w1 ⟨rfl,hb1⟩;exact hK _ _ ⟨_,_,_,_,_,_,rfl,(HI.o.below' hb1).s3 hL8⟩):P:=h
theorem AV (h:P:=by
 go_wp2_with fail;go_ret;exact ⟨rfl,Below.refl _ _⟩):P:=h
theorem Cc (h:P:=by
 rcases HCO.o with ⟨h2,-⟩|⟨-,h2⟩
 ·exact absurd h2 hwz
 exact ⟨_,h2⟩):P:=h
theorem Cx (h:P:=by
 show Below _ _ _;rw[hW2];exact ((br.alloc lr _).trans (HB1.o.mono sm)).alloc om _):P:=h
theorem Dp (h:P:=by
 have HST:=hD hst;clear hst hv0;rcases hlohi with hlo|⟨hlo,hhi⟩
 all_goals
  go_wp2_with fail;refine bodyPost_ret (results_tmp2 rfl _ _ _) rfl ⟨?_,HBB.o _ br⟩;rw[HNO.o _ (HFK.o.trans HST.o)];rfl):P:=h
theorem Cy (h:P:=by
 have e6:=hh.gt 1 1;have e7:=hh.gt 2 0;have ef:=fQ aa;refine aE (aj rfl) ?_ (HF1.o ww);exact gX):P:=h
theorem Cz (h:P:=by
 show NodeAt _ _ _ _ _ _ _ _;rw[hW2];exact (HNA.o.below HB1.o).below (br.alloc lr _)):P:=h
theorem Dq (h:P:=by
 have e:(if m-i<=k/\k<m-i+(m+j-m) then f (k-(m-i)+m) else if m-i+(m+j-m)<=k/\k<m+j then f (k-(m-i+(m+j-m))+(m-i)) else f k)=f k:=by rw[if_neg om,if_neg om]
 rw[e,if_neg om,if_neg om];unfold nu;rw[if_neg om,if_neg om]):P:=h
theorem Dr (h:P:=by
 rintro e w1 ⟨rfl,hbK⟩;exact hK _ _ ⟨_,_,_,_,_,_,_,_,_,_,rfl,hsz _,HI.o.quiet 3 _ hF HN.o om (by show 3<11;omega) rfl HJ.o hbK (fun hg=>HGQ.o 3 _ _ _ _ _ HN.o om (by show 3<11;omega) hbK hg dq) rfl⟩):P:=h
theorem Ds (h:P:=by
 rintro e w1 ⟨rfl,hbK⟩;exact hK _ _ ⟨_,_,_,_,_,_,_,_,_,_,rfl,hsz _,HI.o.quiet 5 _ hF HN.o om (by show 5<11;omega) rfl HJ.o hbK (fun hg=>HGQ.o 5 _ _ _ _ _ HN.o om (by show 5<11;omega) hbK hg dq) rfl⟩):P:=h
theorem Dt (h:P:=by
 clear hbx2 hX4 hO4 hB4 d0 d1 d2 d3 d4 d5 d6 d7 d8 e0 e1 e2 e3 e4 e5 e6 e7 e8 f0 f1 f2 f3 f4 f5 f6 f7 f8;go_wp2_with fail;go_roundw
 case rel=>exact ⟨a+1,_,k2,om,by go_num,HRS2.o,HS3.o⟩
 case measure=>exact mz):P:=h
theorem Cd (h:P:=by
 have ef:=fQ aa;refine aE (aj rfl) ?_ (HFI.o ww);exact gX):P:=h
theorem Du (h:P:=by
 refine HS1.o.replace HBB.o HAP2.o hB4 hO4 ?_ (km HST.o.fits _ _) (hst.rest.trans HST.o.rest) (hst.port.trans HST.o.port);unfold YB;rw[hst.port,hsc.1,hsc.2.1,hsc.2.2.1,hsc.2.2.2];exact hX4):P:=h
theorem Dv (h:P:=by
 have e18:=hh.gt 3 2;have e19:=hh.gt 4 1;have e20:=hh.gt 5 0;have ef:=fQ aa;refine aE (aj rfl) ?_ (HC.o ww hh.inv);clear hh;generalize aa.eval=ev at e18 e19 e20 ef⊢;go_simp):P:=h
theorem AZ (h:P:=by
 rw[List.getElem?_append_right sm];simpa using h1):P:=h
theorem Dw (h:P:=by
 have:=congrArg List.length e1;rw[fV,t0.flat_kids, <-List.append_assoc, <-List.append_assoc,List.length_append,List.length_singleton,List.length_take,Nat.min_eq_left e3] at this;omega):P:=h
theorem Dx (h:P:=by
 have e:decide (x=z/\y=u)=(decide ((x:Int)=z)&&decide ((y:Int)=u)):=by rw[<- Bool.decide_and,decide_eq_decide];omega
 rw[e];by_cases h1:(x:Int)=z<;>by_cases h2:(y:Int)=u<;>simp[go_sem,h1,h2]):P:=h
theorem Dy (h:P:=by
 obtain ⟨h1,h2,h3,h4⟩:=h;refine ⟨?_,?_,?_⟩
 ·rw[cell_of_row wr _ k _ _ _ h1,eA _ k hk];simp
 ·rw[cell_of_row wr _ k _ _ _ h2,eA _ k hk]
 simp[World.frozen?,h1]):P:=h
theorem Dz (h:P:=by
 intro i o ho e he hb;obtain ⟨k,hk⟩:=hget i o ho;exact (hc i o ho k hk).back e.on (by unfold aX;exact List.mem_map.2 ⟨e,List.mem_filter.2 ⟨by simpa using he,hb⟩,rfl⟩)):P:=h
theorem Ce (h:P:=by
 go_wp2_with fail;go_ret;exact ⟨by first|rfl|(rw[hr];rfl),hbw⟩):P:=h
theorem Cf (h:P:=by
 show _=_;rw[hW0,Below.heap_alloc _ _ _ sm];exact xS _ _ _):P:=h
theorem DA (h:P:=by
 show _<=_;have h1:=HBN.o;have h2:(x.brs.take k).length<=k:=List.length_take_le ..;simp only[List.length_append,List.length_map,List.length_cons,List.length_nil];omega):P:=h
theorem A0 (h:P:=by
 exact cL (Nat.mod_lt _ (Nat.two_pow_pos _))):P:=h
theorem Cg (h:P:=by
 exact ⟨f0,k0,k1,⟨hfr,fun _=> .inr hP,fun _=>hP⟩,hP⟩):P:=h
theorem DB (h:P:=by
 rw[Below.heap_setCell _ _ _ _ (by show k≠N+1;omega),Below.heap_setCell _ _ _ _ (by show k≠N+1;omega),Below.heap_setCell _ _ _ _ (by show k≠N+1+1;omega)]):P:=h
theorem A3 (h:P:=by
 go_wp2;go_ret;exact ⟨by rw[hA.o];rfl,bL⟩):P:=h
theorem xJ (h:P:=by
 rw[hW0];exact D9 _ _ _ _):P:=h
theorem A4 (h:P:=by
 unfold execOp;rw[h];dsimp only;rw[hx];go_simp):P:=h
theorem DC (h:P:=by
 intro u54 u55 u56 u57 u58 u59 u60 u61 u62 u63 u64 u65 u66 u67 u68 u69 w9 h9 hb9;dsimp only;go_wp2_with fail;go_end0;exact ⟨rfl,h9,HBN6.o.trans hb9⟩):P:=h
theorem CA (h:P:=by
 go_wp2_with fail;go_ret;exact ⟨by rw[HE.o];rfl,bL⟩):P:=h
theorem DD (h:P:=by
 rw[hf1] at r1 HEQ;rw[hf2] at r2 HEQ;clear hf1 hf2;go_wp2_with fail;go_round
 case rel=>exact ⟨j,om,rfl,hD (HEQ.o rfl)⟩
 case measure=>simp[intOf]):P:=h
theorem DE (h:P:=by
 go_quiet (fail);have HQ2:=hD (below_drewN HQ.o nq);go_wp2_with fail;go_roundw
 case rel=>exact ⟨j+1,om,by go_num,HQ2.o⟩
 case measure=>exact mz):P:=h
theorem DF (h:P:=by
 have hnd':=hD hnd;clear hdep hnd;refine wpOp_step rfl (fun K' hK=>?_);go_simp;rw[HZ.o];exact hK _ _ ⟨_,_,_,_,_,_,rfl,HI.o.s4 hL8 hnd'.o⟩):P:=h
theorem DG (h:P:=by
 have hnd':=hD hnd;clear hdep hnd;refine wpOp_step rfl (fun K' hK=>?_);go_simp;rw[HZ.o];exact hK _ _ ⟨_,_,_,_,_,_,rfl,HI.o.s5 hL8 hnd'.o⟩):P:=h
theorem DH (h:P:=by
 have hr:R=false:=by rw[HR.o];exact nY fun h=>by have:=HN.o;omega
 go_wp2_with fail;go_ret;exact ⟨by first|rfl|(rw[hr];rfl),HB0.o⟩):P:=h
theorem xK (h:P:=by
 exact hk k this.1 this.2):P:=h
theorem DI (h:P:=by
 go_wp2_with fail;refine bodyPost_ret (results_tmp2 rfl _ _ _) rfl ⟨?_,HBB.o _ br⟩;rw[HNO.o _ (HFK.o.trans HST.o)];rfl):P:=h
theorem DJ (h:P:=by
 rintro L a' w' hall ⟨u0,u1,u2,u3,u4,u5,u6,u7,u8,u9,rfl,hLn,hI⟩;exact HEX.o u0 u1 u2 u3 u4 u5 u6 u7 u8 u9 L w' (fun i hi=>hall i hi) hI):P:=h
theorem A5 (h:P:=by
 have ef:=fQ aa;have ec:=cW aa;exact AT):P:=h
theorem DK (h:P:=by
 obtain ⟨pp,cc,e⟩:=jb HO.o.1;exact ⟨pp,cc,by rw[e,List.length_map,List.length_take,Nat.min_eq_left (by have:=HN.o;omega)]⟩):P:=h
theorem DL (h:P:=by
 exact ⟨⟨a+1,_,om,by go_num,HRS.o,HCX.o.step HF3.o HP2.o HOK.o.1 HOK.o.2,HFR.o.trans HF3.o⟩,by simp[intOf];omega⟩):P:=h
theorem DM (h:P:=by
 have e28:=hh.gt 16 4;have e32:=hh.gt 20 0;have ef:=fQ aa;refine aE (hh.go 7 rfl kq rfl rfl) ?_ (HIN.o ww hh.inv);exact gX):P:=h
theorem DN (h:P:=by
 unfold bB;split
 ·rename_i h1;have:=hc at' _ (i8 h) (by rcases h1 with h1|h1;exact .inr h1;exact .inl h1.1);omega
 omega):P:=h
theorem Ch (h:P:=by
 refine ⟨?_,?_,?_,?_,?_⟩<;>simp[World.cell?,h]):P:=h
theorem DO (h:P:=by
 rw[List.map_congr_left fun x hx=>jk (l:=l) (v:=v) (fun q=>by have:=hd x (ci.js x hx);rw[q,hn] at this;cases this)];exact hv):P:=h
theorem DP (h:P:=by
 exact ⟨_,rfl,h0,by rw[hB.block _ om];exact ag w _,Below.trans (br.alloc lr _) (hB.mono om)⟩):P:=h
theorem CB (h:P:=by
 simp[results,Tryz.results50,go_sem,m0,m1,m2,m3,m4,m5,m6,m7,m8,b0,b1]):P:=h
theorem DQ (h:P:=by
 have e17:=hh.gt 0 8;have e18:=hh.gt 1 7;have e22:=hh.gt 5 3;have e23:=hh.gt 6 2;have e25:=hh.gt 8 0;have ef:=fQ aa;exact AT):P:=h
theorem CC (h:P:=by
 have h:=HS3.o.box;unfold YB at h;rw[HNB.o.2.2.2.2] at h;exact h):P:=h
theorem DR (h:P:=by
 have e11:=hh.gt 6 1;have e12:=hh.gt 7 0;have ef:=fQ aa;refine aE (hh.go 3 rfl kq rfl rfl) ?_ (HF2.o ww);exact gX):P:=h
theorem DS (h:P:=by
 refine sq (fun aa ww ll hh=>by have:=hh.gt 6 9;have:=hh.gt 15 0;have ec:=cW aa;exact ov gX) ?_;intro ll w3 hS hok;exact Cv):P:=h
theorem DT (h:P:=by
 have e40:=hh.gt 4 5;have e45:=hh.gt 9 0;have ef:=fQ aa;refine aE (aj rfl) ?_ (HNU.o ww hh.inv);exact gX):P:=h
theorem DU (h:P:=by
 exfalso;obtain ⟨p,hp,e1,e2⟩:=UMap.keys h1 (cX f2);rw[f3] at e1;exact hx p hp (by simpa using e1.symm)):P:=h
theorem DV (h:P:=by
 by_cases h:i=j
 ·subst h;simp[hi]
 rw[getD_set_ne false h];have:decide (j=i)=false:=by simp;omega
 rw[this,Bool.false_or]):P:=h
theorem DW (h:P:=by
 constructor
 ·rintro rfl;exact ⟨rfl,rfl⟩
 rintro ⟨h1,h2⟩;rw[<- Nat.div_add_mod a B, <-Nat.div_add_mod b B,h1,h2]):P:=h
theorem DX (h:P:=by
 intro ll w3 hS hok;clear hok;simp only[ly];go_wp2_with fail;go_ret;exact ⟨rfl,HB0.o.trans (hS.mono HB0.o.size)⟩):P:=h
theorem DY (h:P:=by
 exact h.same ho hd rfl hg [] rfl (fun j hj=>by cases hj) dq dq dq (sA hop ((h.old (s:=3) rfl dq).trans h.c.t3))):P:=h
theorem DZ (h:P:=by
 have h:=HO2.o.far (w':=W3) (fun z h1 h2=>hO3 z (by have:=HLOW.o;omega));exact ⟨h.hr,h.hv,h.hf,h.hfs,h.hm,h.nd⟩):P:=h
theorem D0 (h:P:=by
 rw[Bool.eq_false_iff];intro h;rw[List.all_eq_true] at h;have:=h x (cX hj);rw[hf] at this;cases this):P:=h
theorem CD (h:P:=by
 go_wp2_with fail;go_ret;exact ⟨⟨_,rfl,trivial⟩,HB0.o⟩):P:=h
theorem D1 (h:P:=by
 rw[hr];clear hr;go_wp2_with fail;go_roundw
 case rel=>exact ⟨k+1,om,by go_num,rfl,HWQ.o⟩
 case measure=>exact mz):P:=h
theorem D2 (h:P:=by
 exact h.same ho hd rfl hg [] rfl (fun j hj=>by cases hj) dq dq dq (yR hop ((h.old (s:=0) rfl dq).trans h.c.t0))):P:=h
theorem CE (h:P:=by
 go_wp2_with fail;go_ret;exact ⟨by rw[HE.o];rfl,HWB.o⟩):P:=h
theorem CF (h:P:=by
 go_wp2_with fail;go_ret;exact ⟨by rw[HR.o];rfl,HB.o⟩):P:=h
theorem D3 (h:P:=by
 go_wp2_with fail;go_roundg 1
 case measure=>omega
 case rel=>exact ⟨f2,HS, .inr ⟨rfl,Nat.le_refl _,HM2⟩⟩):P:=h
theorem D4 (h:P:=by
 clear hdep hnd;refine wpOp_step rfl (fun K' hK=>?_);go_simp;exact hK _ _ ⟨_,_,_,_,_,_,rfl,HI.o.s0 hL8⟩):P:=h
theorem D5 (h:P:=by
 clear hdep hnd;refine wpOp_step rfl (fun K' hK=>?_);go_simp;exact hK _ _ ⟨_,_,_,_,_,_,rfl,HI.o.s2 hL8⟩):P:=h
theorem CG (h:P:=by
 exact ⟨g,e1,e2,(hb.block g (aI e3)).trans e3⟩):P:=h
theorem zo (h:P:=by
 rw[hW0];exact xS _ _ _):P:=h
theorem CH (h:P:=by
 rcases HB.o with ⟨h,-⟩|⟨-,h,-⟩
 ·omega
 omega):P:=h
theorem D6 (h:P:=by
 go_wp2_with fail;refine wp_loop_rounds 1 ?_;rw[rounds_succ];go_wp2_with fail;go_end0;exact ⟨rfl,rfl⟩):P:=h
theorem D7 (h:P:=by
 go_enter Tryz.func82,Tryz.ntmps82;go_wp2_with fail;refine wp_loop_rounds 1 ?_;rw[rounds_succ];exact CA):P:=h
theorem D8 (h:P:=by
 have ef:=fQ aa;have ec:=cW aa;refine aE (aj rfl) ?_ (eG false ww);exact gX):P:=h
end Go.Proofs.YtjfhfaodbjecdaaGreat
