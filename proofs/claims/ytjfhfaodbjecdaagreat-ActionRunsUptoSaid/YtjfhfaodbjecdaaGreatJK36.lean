/- Lemmas. -/
import Derived.Test.YtjfhfaodbjecdaaGreatJK35
set_option maxHeartbeats 25600000
set_option maxRecDepth 100000
namespace Go.Proofs.YtjfhfaodbjecdaaGreat
open Go.RowKit
theorem ky (q:KS) (x:Pkt) (po eg:Int) (dr se ac vb on:Bool) (h:Nat) (l:List Nat) (w:World) (hq:KOk w q x) (hS:PktSm x) (hl:x.fields[h]?=some l) (hv:x.valid[h]?=some vb):
 Calls Tryz.prog 26 #[kV q po dr se eg ac, .int .i64 (h:Int), .bool on] w fun e w'=>qH po eg dr se ac w q x w' (ba x (h:Int) on) e/\Bl w w':=by
 obtain ⟨Y,hY⟩:=nm (ba x (h:Int) on);rw[<- hY];have hvl:=(bO hv).1;have hfl:=(bO hl).1;have hY2:Y=if vb≠on then { x with valid:=x.valid.set h on,fields:=x.fields.set h (List.replicate l.length 0) } else x:=by
  rw[hY];unfold ba;rw[Int.toNat_natCast,getD_some hv,getD_some hl];by_cases e:vb≠on
  ·rw[if_pos ⟨om,om,om,e⟩,if_pos e,List.map_const']
  rw[if_neg (fun hc=>e hc.2.2.2),if_neg e]
 have HYV:=hD hY2;have HQ:=hD hq;have HSM:=hD hS;have HV:=hD hv;have HL:=hD hl;have h5:(h:Int)<(q.vn:Int):=by have:=hq.v.ln.1;omega
 have h6:¬(h:Int)<0:=om;obtain ⟨bb,bo,hpb,hbb,y3⟩:=BRow.el hq.v hv;have HYB:Hd (∀ W,Bl w W->Cl W bb (bo+h) (.bool vb)):=fun W hh=>(hh.cell (p:=⟨bb,bo+h,none⟩) hbb).trans y3
 have HPB:=hD hpb;have HOW:=hD (fun (W:World) (hb:Bl w W)=>iH q x po eg dr se ac W (hq.below hb) hS);clear hY hY2 hq hS hv hl hvl hfl hpb hbb y3;unfold kV at HOW⊢;go_enter Tryz.func26,Tryz.ntmps26;go_upto_region 1 with fail;obtain ⟨W0,hW0⟩:=nm ((w.alloc (.cells (kA q po dr se eg ac) 40)).alloc (.cells zA 40));have HX0:Hd (Bx W0 w.heap.size (kL q po dr se eg ac)):=by show _=_;rw[hW0,Below.heap_alloc _ _ _ sm];exact ag _ _
 have HZ0:Hd (Bx W0 (w.heap.size+1) zL):=by
  exact j9
 have HB0:Hd (Bl w W0):=by show Below _ _ _;rw[hW0];exact bL
 rw[<- hW0];clear hW0;have a2:=HX0.o.cell (i:=2) rfl;rw[HPB.o] at a2;have y3:=HYB.o W0 HB0.o;cases vb
 ·cases on
  ·exact gY
  ·skip;go_upto_region 3 with fail;clear a2 y3;obtain ⟨a0,a1,a2,a3,a4,a5,a6,a7,a8⟩:=Bx.c9 HX0.o;go_upto_region 4 with (go_at_call 7;(with_reducible refine (HOW.o _ HB0.o).mono ?_);rintro e w2 ⟨⟨r,v,f',m,fs,rfl,hO⟩,hb2⟩;obtain ⟨kk,rfl,rfl,rfl,rfl,-⟩:=hO.ks;have HO2:=hD hO;have HX2:=hD (HX0.o.below hb2);have HZ2:=hD (HZ0.o.below hb2);have HB2:=hD (HB0.o.trans (hb2.mono HB0.o.size));clear hb2 hO a0 a1 a2 a3 a4 a5 a6 a7 a8;obtain ⟨a0,a1,a2,a3,a4,a5,a6,a7,a8⟩:=HX2.o.c9;obtain ⟨r0,r1,r2,r3,r4,r5,r6,r7,r8⟩:=HX2.o.f9);rw[<- bw];obtain ⟨W3,hW9,hX3,hO3,hB3,-⟩:=ni HX2.o (kL kk po dr se eg ac) rfl;rw[hW9];clear hW9;have hB3:=hB3 _ _ HB2.o lr;have HB3:=hD hB3;have HZ3:Hd (Bx W3 (w.heap.size+1) zL):=(hO3 _ om).trans HZ2.o;have HLOW:Hd (w.heap.size+1<W0.heap.size):=HZ0.o.lt;have HO3:Hd (PktO W0.heap.size W3 { x with port:=po,dropped:=dr,sent:=se,egress:=eg,access:=ac } (.slice kk.rp kk.rn kk.rc) (.slice kk.vp kk.vn kk.vc) (.slice kk.fp kk.fn kk.fc) (.slice kk.mp kk.mn kk.mc) fs):=by
    exact DZ
   have hpb:PktB (w.heap.size) W3 (w.heap.size) { x with port:=po,dropped:=dr,sent:=se,egress:=eg,access:=ac } (.slice kk.rp kk.rn kk.rc) (.slice kk.vp kk.vn kk.vc) (.slice kk.fp kk.fn kk.fc) (.slice kk.mp kk.mn kk.mc) fs:=
    (HO3.o.lower (by have:=HLOW.o;omega)).boxed hX3 lr fun z hz e=>by have:=HO3.o.blk z hz _ e;have:=HLOW.o;omega
   obtain ⟨vg,vcap,hvp,-,hvgl,hvx,hvc,hvfree,⟨vy,hvy⟩,hpb4⟩:=hpb.valid true (bO HV.o).1;have hvgw:W0.heap.size<=vg:=(aB HO3.o.hv (by rw[hvp];rfl)).1;have HVP:Hd (Value.slice kk.vp kk.vn kk.vc= .slice (some ⟨vg,0,none⟩) x.valid.length vcap):=hvp;have hvi:(h:Int)<(x.valid.length:Int):=by have:=(bO HV.o).1;omega
   have hvf:=hvfree h;have HX3:=hD hX3;obtain ⟨xv,hxv⟩:=nm x.valid.length;have HXV:=hD hxv;rw[<- hxv] at HVP hvi hvc;clear hX3 hO3 hB3 hpb hvp hvfree hxv a0 a1 a2 a3 a4 a5 a6 a7 a8 r0 r1 r2 r3 r4 r5 r6 r7 r8;have a2:=HX3.o.cell (i:=2) rfl;rw[HVP.o] at a2;go_upto_region 5 with fail;obtain ⟨W5,hW5⟩:=nm (W3.setCell ⟨vg,h,none⟩ (.bool true));exact gE
 ·cases on
  ·skip;go_upto_region 3 with fail;clear a2 y3;obtain ⟨a0,a1,a2,a3,a4,a5,a6,a7,a8⟩:=Bx.c9 HX0.o;go_upto_region 4 with (go_at_call 7;(with_reducible refine (HOW.o _ HB0.o).mono ?_);rintro e w2 ⟨⟨r,v,f',m,fs,rfl,hO⟩,hb2⟩;obtain ⟨kk,rfl,rfl,rfl,rfl,-⟩:=hO.ks;have HO2:=hD hO;have HX2:=hD (HX0.o.below hb2);have HZ2:=hD (HZ0.o.below hb2);have HB2:=hD (HB0.o.trans (hb2.mono HB0.o.size));clear hb2 hO a0 a1 a2 a3 a4 a5 a6 a7 a8;obtain ⟨a0,a1,a2,a3,a4,a5,a6,a7,a8⟩:=HX2.o.c9;obtain ⟨r0,r1,r2,r3,r4,r5,r6,r7,r8⟩:=HX2.o.f9);rw[<- bw];obtain ⟨W3,hW9,hX3,hO3,hB3,-⟩:=ni HX2.o (kL kk po dr se eg ac) rfl;rw[hW9];clear hW9;have hB3:=hB3 _ _ HB2.o lr;have HB3:=hD hB3;have HZ3:Hd (Bx W3 (w.heap.size+1) zL):=(hO3 _ om).trans HZ2.o;have HLOW:Hd (w.heap.size+1<W0.heap.size):=HZ0.o.lt;have HO3:Hd (PktO W0.heap.size W3 { x with port:=po,dropped:=dr,sent:=se,egress:=eg,access:=ac } (.slice kk.rp kk.rn kk.rc) (.slice kk.vp kk.vn kk.vc) (.slice kk.fp kk.fn kk.fc) (.slice kk.mp kk.mn kk.mc) fs):=by
    exact DZ
   have hpb:PktB (w.heap.size) W3 (w.heap.size) { x with port:=po,dropped:=dr,sent:=se,egress:=eg,access:=ac } (.slice kk.rp kk.rn kk.rc) (.slice kk.vp kk.vn kk.vc) (.slice kk.fp kk.fn kk.fc) (.slice kk.mp kk.mn kk.mc) fs:=
    (HO3.o.lower (by have:=HLOW.o;omega)).boxed hX3 lr fun z hz e=>by have:=HO3.o.blk z hz _ e;have:=HLOW.o;omega
   obtain ⟨vg,vcap,hvp,-,hvgl,hvx,hvc,hvfree,⟨vy,hvy⟩,hpb4⟩:=hpb.valid false (bO HV.o).1;have hvgw:W0.heap.size<=vg:=(aB HO3.o.hv (by rw[hvp];rfl)).1;have HVP:Hd (Value.slice kk.vp kk.vn kk.vc= .slice (some ⟨vg,0,none⟩) x.valid.length vcap):=hvp;have hvi:(h:Int)<(x.valid.length:Int):=by have:=(bO HV.o).1;omega
   have hvf:=hvfree h;have HX3:=hD hX3;obtain ⟨xv,hxv⟩:=nm x.valid.length;have HXV:=hD hxv;rw[<- hxv] at HVP hvi hvc;clear hX3 hO3 hB3 hpb hvp hvfree hxv a0 a1 a2 a3 a4 a5 a6 a7 a8 r0 r1 r2 r3 r4 r5 r6 r7 r8;have a2:=HX3.o.cell (i:=2) rfl;rw[HVP.o] at a2;go_upto_region 5 with fail;obtain ⟨W5,hW5⟩:=nm (W3.setCell ⟨vg,h,none⟩ (.bool false));exact gE
  ·exact gY
end Go.Proofs.YtjfhfaodbjecdaaGreat
