/- Lemmas. -/
import Derived.Test.YtjfhfaodbjecdaaGreatJK33
set_option maxHeartbeats 12800000
set_option maxRecDepth 100000
namespace Go.Proofs.YtjfhfaodbjecdaaGreat
open Go.RowKit
variable {w:World} {S:Nat->Prop} {k:KS} {x y:Pkt} {base b b':Nat} {fs:List Value} {r f m:Value}
theorem CN (o0 o1 o2 o3:Obj):∀W,W=((((w.alloc o0).alloc o1).alloc o2).alloc o3)->W.heap[w.heap.size]?=some o0/\W.heap[w.heap.size+1]?=some o1/\W.heap[w.heap.size+1+1]?=some o2/\W.heap[w.heap.size+1+1+1]?=some o3/\Bl w W:=by
 rintro W rfl;have b:Bl w ((((w.alloc o0).alloc o1).alloc o2).alloc o3):=bL;refine ⟨?_,?_,?_,?_,b⟩
 ·rw[Below.heap_alloc _ _ _ (by simp;try omega),Below.heap_alloc _ _ _ (by simp;try omega),Below.heap_alloc _ _ _ sm];exact ag _ _
 ·have:=ag (w.alloc o0) o1;rw[World.size_alloc] at this;rw[Below.heap_alloc _ _ _ (by simp;try omega),Below.heap_alloc _ _ _ sm];exact this
 ·have:=ag ((w.alloc o0).alloc o1) o2;rw[World.size_alloc,World.size_alloc] at this;rw[Below.heap_alloc _ _ _ sm];exact this
 have:=ag (((w.alloc o0).alloc o1).alloc o2) o3;rw[World.size_alloc,World.size_alloc,World.size_alloc] at this;exact this
structure AptB (S:Nat->Prop) (w w':World):Prop where
 os:w'.os=w.os
 tape:w'.tape=w.tape
 output:w'.output=w.output
 size:w.heap.size<=w'.heap.size
 block:∀b,b<w.heap.size->¬S b->w'.heap[b]?=w.heap[b]?
theorem AptB.of_below {w':World} (h:Bl w w'):AptB S w w':=⟨h.os,h.tape,h.output,h.size,fun b hb _=>h.block b hb⟩
theorem AptB.trans {w' w2:World} (h:AptB S w w') (h2:AptB S w' w2):AptB S w w2:=⟨h2.os.trans h.os,h2.tape.trans h.tape,h2.output.trans h.output,Nat.le_trans h.size h2.size,fun b hb hg=>(h2.block b (Nat.lt_of_lt_of_le hb h.size) hg).trans (h.block b hb hg)⟩
def KApart (w:World) (S:Nat->Prop) (k:KS) (x:Pkt):Prop:=∀w',AptB S w w'->KOk w' k x
theorem KApart.ok (h:KApart w S k x):KOk w k x:=h w (AptB.of_below br)
theorem KApart.step {w':World} (h:KApart w S k x) (ha:AptB S w w'):KApart w' S k x:=fun w2 h2=>h w2 (ha.trans h2)
theorem KApart.below {w':World} (h:KApart w S k x) (hb:Bl w w'):KApart w' S k x:=h.step (AptB.of_below hb)
theorem KApart.more {w':World} {T:Nat->Prop} (h:KApart w S k x) (hb:Bl w w') (hT:∀b,T b->S b\/w.heap.size<=b):KApart w' T k x:=fun w2 ha=>
 h w2 ⟨ha.os.trans hb.os,ha.tape.trans hb.tape,ha.output.trans hb.output,Nat.le_trans hb.size ha.size,fun b hl hS=>(ha.block b (Nat.lt_of_lt_of_le hl hb.size) (fun hb2=>(hT b hb2).elim hS (fun q=>by omega))).trans (hb.block b hl)⟩
theorem KOk.apart (h:KOk w k x):KApart w (fun _=>False) k x:=fun w' ha=>h.below ⟨ha.os,ha.tape,ha.output,ha.size,fun b hb=>ha.block b hb id⟩
theorem KOk.rows (h:KOk w k x) (h1:y.rest=x.rest) (h2:y.valid=x.valid) (h3:y.fields=x.fields) (h4:y.metas=x.metas):KOk w k y:=⟨by rw[h1];exact h.r,by rw[h2];exact h.v,by rw[h3];exact h.f,by rw[h4];exact h.m⟩
theorem PktO.apart (h:PktO base w x (.slice k.rp k.rn k.rc) (.slice k.vp k.vn k.vc) (.slice k.fp k.fn k.fc) (.slice k.mp k.mn k.mc) fs) (hS:∀b,S b->b<base) (h1:y.rest=x.rest) (h2:y.valid=x.valid) (h3:y.fields=x.fields) (h4:y.metas=x.metas):KApart w S k y:=fun w' ha=>by
 obtain ⟨k2,e1,e2,e3,e4,hk2⟩:=(h.far (w':=w') fun z hz hl=>ha.block z hl (fun hb=>by have:=hS z hb;omega)).ks;have ek:k2=k:=by
  cases k2;cases k
  simp only[Value.slice.injEq] at e1 e2 e3 e4;simp[e1,e2,e3,e4]
 rw[ek] at hk2;exact hk2.rows h1 h2 h3 h4
def qH (po eg:Int) (dr se ac:Bool) (w0:World) (q0:KS) (x:Pkt) (w:World) (y:Pkt) (e:Ending):Prop:=∃q,e= .returned (kV q po dr se eg ac)/\KOk w q y/\∀S:Nat->Prop,(∀ b,S b->b<w0.heap.size)->KApart w0 S q0 x->KApart w S q y
theorem PktB.toO {X:Nat} {v:Value} (h:PktB base w X x r v f m fs):PktO base w x r v f m fs:=⟨h.hr,h.hv,h.hf,h.hfs,h.hm,h.nd2⟩
theorem fX {E size n:Nat} {v:Value} {xs:List Value} (h:w.ownsRow b E size v n xs) (hb:∀k,v.ownBlock=some k->b'<=k):w.ownsRow b' E size v n xs:=by
 obtain ⟨h1,h2⟩:=h;refine ⟨h1,?_⟩;rcases h2 with h2|⟨g,cap,cur,h3,h4,h5⟩
 ·exact .inl h2
 exact .inr ⟨g,cap,cur,h3,hb g (by rw[h3];rfl),h5⟩
theorem PktO.raise {v:Value} (h:PktO b w x r v f m fs) (hb:∀z∈[r,v,f,m]++fs,∀k,z.ownBlock=some k->b'<=k):PktO b' w x r v f m fs:=
 ⟨fX h.hr (hb r sm),fX h.hv (hb v sm),fX h.hf (hb f sm),fun i u l h1 h2=>⟨fX (h.hfs i u l h1 h2).1 (hb u (by simp[cX h1])),(h.hfs i u l h1 h2).2⟩,⟨fX h.hm.1 (hb m sm),h.hm.2⟩,h.nd⟩
theorem kx (n:Nat) (hn:n<B*B) (k:Int) (W:World):Calls Tryz.prog 24 #[.agg #[.int .u64 ((n/B:Nat):Int), .int .u64 ((n%B:Nat):Int)], .int .i64 k] W fun e w'=>e= .returned (.agg #[.int .u64 ((n%2 ^ sh k/B:Nat):Int), .int .u64 ((n%2 ^ sh k%B:Nat):Int)])/\Bl W w':=by
 have h:=dG n k hn W;rw[bi n] at h;exact bG h
theorem uv (s:PgS) (p:Prg) (q:KS) (x:Pkt) (po eg:Int) (dr se ac vb:Bool) (h f n:Nat) (l:List Nat) (w:World) (hp:PgOk w s p) (hq:KOk w q x) (hx:PktF p x) (hS:PktSm x) (hl:x.fields[h]?=some l) (hf:f<l.length) (hv:x.valid[h]?=some vb) (hn:n<B*B):
 Calls Tryz.prog 23 #[cE s,kV q po dr se eg ac, .int .i64 (h:Int), .int .i64 (f:Int),jV n] w fun e w'=>qH po eg dr se (ac|| !vb) w q x w' (if vb=true then { x with fields:=x.fields.set h (l.set f (n%2 ^ sh (kh p h f))) } else x) e/\Bl w w':=by
 have hT:∀W,Bl w W->Calls Tryz.prog 51 #[kV q po dr se eg ac, .int .i64 (h:Int), .int .i64 (f:Int)] W fun e w'=>e= .returned (.bool true)/\Bl W w':=fun W hh=>jw q x po eg dr se ac h f l W (hq.below hh) hl hf
 have HT:=hD hT;have HQ:=hD hq;have HP:=hD hp;have HSM:=hD hS;have h5:(h:Int)<(q.vn:Int):=by have:=hq.v.ln.1;have:=(bO hv).1;omega
 obtain ⟨bb,bo,hpb,hbb,y3⟩:=BRow.el hq.v hv;have HYV:Hd (∀ W,Bl w W->Cl W bb (bo+h) (.bool vb)):=fun W hh=>(hh.cell (p:=⟨bb,bo+h,none⟩) hbb).trans y3
 have HPB:=hD hpb;have HL:=hD hl;have HF:=hD hf;have hhl:=(bO hl).1;have hhd:=aA (l:=p.heads) (j:=h) [] (by have:=hx.f;omega);have hfd:=aA (l:=p.heads.getD h []) (j:=f) 0 (by have:=hx.fl h l hl;omega);obtain ⟨hb0,ho0,hp1,hn1,hc1,hps,hhb,z0,hz0⟩:=IsRow.el hp.heads (j:=h) (by have:=hx.f;omega);obtain ⟨wb,wo,hps1,hwb,z1⟩:=IRow.el hz0 (j:=f) (by have:=hx.fl h l hl;omega);obtain ⟨wd,hwd⟩:=nm ((p.heads.getD h []).getD f 0);have hwd2:kh p h f=wd:=by rw[hwd];unfold kh;rw[Int.toNat_natCast,Int.toNat_natCast]
 rw[hwd2];rw[<- hwd] at z1;have hhi:(h:Int)<(s.hn:Int):=by have:=hp.heads.ln.1;have:=hx.f;omega
 have hfi:(f:Int)<(hn1:Int):=by have:=hz0.ln.1;have:=hx.fl h l hl;omega
 have HYH:Hd (∀ W,Bl w W->Cl W hb0 (ho0+h) (.slice hp1 hn1 hc1)/\Cl W wb (wo+f) (.int .i64 wd)):=fun W hh=>⟨(hh.cell (p:=⟨hb0,ho0+h,none⟩) hhb).trans z0,(hh.cell (p:=⟨wb,wo+f,none⟩) hwb).trans z1⟩
 rw[hps1] at HYH;have HPS:=hD hps;obtain ⟨M,hM⟩:=nm (n%2 ^ sh wd);have hMB:M<B*B:=by rw[hM];exact Nat.lt_of_le_of_lt (Nat.mod_le _ _) hn
 have hcut:=kx n hn wd;rw[<- hM] at hcut⊢;have HMB:=hD hMB;obtain ⟨c0,hc0⟩:=nm ((M/B:Nat):Int);obtain ⟨c9,hc9⟩:=nm ((M%B:Nat):Int);rw[<- hc0, <-hc9] at hcut;have HCC:=hD (And.intro hc0 hc9);unfold jV;generalize ((n/B:Nat):Int)=n0 at*;generalize ((n%B:Nat):Int)=n9 at*;have HCut:=hD hcut;have HOW:=hD (fun (W:World) (hb:Bl w W)=>iH q x po eg dr se ac W (hq.below hb) hS);clear hT hp hq hx hS hl hf hv hn hpb hbb y3 hhd hfd hps hhb hz0 hps1 hwb z0 z1 hwd hwd2 hM hMB hcut hc0 hc9;unfold cE;unfold kV at HT HOW⊢;go_enter Tryz.func23,Tryz.ntmps23;go_upto_region 1 with fail;obtain ⟨W0,hW0⟩:=nm ((((w.alloc (.cells (pA s) 33)).alloc (.cells (kA q po dr se eg ac) 40)).alloc (.cells #[.int .u64 n0, .int .u64 n9] 60)).alloc (.cells zA 40));obtain ⟨z0,z1,z2,z3,zb⟩:=CN _ _ _ _ W0 hW0;have HP0:Hd (PBox W0 w.heap.size s):=z0;have HX0:Hd (Bx W0 (w.heap.size+1) (kL q po dr se eg ac)):=z1;have HN0:Hd (NB W0 (w.heap.size+1+1) (.int .u64 n0) (.int .u64 n9)):=z2;have HZ0:Hd (Bx W0 (w.heap.size+1+1+1) zL):=z3;have HB0:=hD zb;rw[<- hW0];clear hW0 z0 z1 z2 z3 zb;obtain ⟨a0,a1,a2,a3,a4,a5,a6,a7,a8⟩:=Bx.c9 HX0.o;cases vb
 ·go_upto_region 3 with (go_at_call 51;(with_reducible refine (HT.o _ HB0.o).mono ?_);rintro e w1 ⟨rfl,hb1⟩;have HX1:=hD (HX0.o.below hb1);have HZ1:=hD (HZ0.o.below hb1);have HB1:=hD (HB0.o.trans (hb1.mono HB0.o.size));clear hb1);clear a0 a1 a2 a3 a4 a5 a6 a7 a8;have a2:=HX1.o.cell (i:=2) rfl;rw[HPB.o] at a2;have a8:=HX1.o.cell (i:=8) rfl;have f8:=HX1.o.free 8;have y3:=HYV.o w1 HB1.o;go_upto_region 5 with fail;obtain ⟨W2,hW2⟩:=nm (w1.setCell ⟨w.heap.size+1,8,none⟩ (.bool true));have hX2:Bx W2 (w.heap.size+1) (kL q po dr se eg true):=by rw[hW2];exact HX1.o.put 8 _
  have hZ2:Bx W2 (w.heap.size+1+1+1) zL:=by rw[hW2];exact HZ1.o.other om _
  have hB2:Bl w W2:=by rw[hW2];exact HB1.o.setCell (by show w.heap.size<=w.heap.size+1;omega) _
  rw[<- hW2];clear hW2 a2 a8 f8 y3;obtain ⟨d0,d1,d2,d3,d4,d5,d6,d7,d8⟩:=Bx.c9 hX2;obtain ⟨e0,e1,e2,e3,e4,e5,e6,e7,e8⟩:=Bx.c9 hZ2;have r0:=Bx.free hZ2 0;have r1:=Bx.free hZ2 1;have r2:=Bx.free hZ2 2;have r3:=Bx.free hZ2 3;have r4:=Bx.free hZ2 4;have r5:=Bx.free hZ2 5;have r6:=Bx.free hZ2 6;have r7:=Bx.free hZ2 7;have r8:=Bx.free hZ2 8;have HZ2:=hD hZ2;have HB2:=hD hB2;clear hX2 hZ2 hB2;go_wp2_with fail;rw[<- bw];obtain ⟨w9,hW9,p6,-,hB9,-⟩:=ni HZ2.o (kL q po dr se eg true) rfl;rw[hW9];clear hW9;have hB9:=hB9 _ _ HB2.o om;obtain ⟨m0,m1,m2,m3,m4,m5,m6,m7,m8⟩:=Bx.c9 p6;refine bodyPost_ret (v:= .agg (kA q po dr se eg true)) ?_ rfl ⟨⟨q,?_,?_,fun g _ hga=>?_⟩,hB9⟩
  ·simp[results,Tryz.results23,go_sem,m0,m1,m2,m3,m4,m5,m6,m7,m8]
  ·unfold kV;cases ac<;>rfl
  ·first|exact HQ.o.below hB9|(rw[if_neg sm];exact HQ.o.below hB9)
  first|exact hga.below hB9|(rw[if_neg sm];exact hga.below hB9)
 ·go_upto_region 3 with (go_at_call 51;(with_reducible refine (HT.o _ HB0.o).mono ?_);rintro e w1 ⟨rfl,hb1⟩;have HX1:=hD (HX0.o.below hb1);have HZ1:=hD (HZ0.o.below hb1);have HN1:=hD (HN0.o.below hb1);have HP1:=hD (HP0.o.below hb1);have HB1:=hD (HB0.o.trans (hb1.mono HB0.o.size));clear hb1);clear a0 a1 a2 a3 a4 a5 a6 a7 a8;have y3:=HYV.o w1 HB1.o;have b2:=HX1.o.cell (i:=2) rfl;rw[HPB.o] at b2;go_upto_region 6 with fail;clear y3 b2;obtain ⟨a0,a1,a2,a3,a4,a5,a6,a7,a8⟩:=Bx.c9 HX1.o;go_upto_region 7 with (go_at_call 7;(with_reducible refine (HOW.o _ HB1.o).mono ?_);rintro e w2 ⟨⟨r,v,f',m,fs,rfl,hO⟩,hb2⟩;obtain ⟨kk,rfl,rfl,rfl,rfl,-⟩:=hO.ks;have HO2:=hD hO;have HX2:=hD (HX1.o.below hb2);have HZ2:=hD (HZ1.o.below hb2);have HN2:=hD (HN1.o.below hb2);have HP2:=hD (HP1.o.below hb2);have HB2:=hD (HB1.o.trans (hb2.mono HB1.o.size));clear hb2 hO a0 a1 a2 a3 a4 a5 a6 a7 a8;obtain ⟨a0,a1,a2,a3,a4,a5,a6,a7,a8⟩:=HX2.o.c9;obtain ⟨r0,r1,r2,r3,r4,r5,r6,r7,r8⟩:=HX2.o.f9);rw[<- bw];obtain ⟨W3,hW9,hX3,hO3,hB3,-⟩:=ni HX2.o (kL kk po dr se eg ac) rfl;rw[hW9];clear hW9;have hB3:=hB3 _ _ HB2.o om;have HX3:=hD hX3;have HB3:=hD hB3;have HZ3:Hd (Bx W3 (w.heap.size+1+1+1) zL):=(hO3 _ om).trans HZ2.o;have HN3:Hd (NB W3 (w.heap.size+1+1) (.int .u64 n0) (.int .u64 n9)):=(hO3 _ om).trans HN2.o;have HP3:Hd (PBox W3 w.heap.size s):=(hO3 _ om).trans HP2.o;have hlow:w.heap.size+1+1+1<w1.heap.size:=HZ1.o.lt;have HLOW:=hD hlow;have HO3:Hd (PktO w1.heap.size W3 { x with port:=po,dropped:=dr,sent:=se,egress:=eg,access:=ac } (.slice kk.rp kk.rn kk.rc) (.slice kk.vp kk.vn kk.vc) (.slice kk.fp kk.fn kk.fc) (.slice kk.mp kk.mn kk.mc) fs):=by
   have h:=HO2.o.far (w':=W3) (fun z h1 h2=>hO3 z om);exact ⟨h.hr,h.hv,h.hf,h.hfs,h.hm,h.nd⟩
  have hpb:PktB (w.heap.size+1) W3 (w.heap.size+1) { x with port:=po,dropped:=dr,sent:=se,egress:=eg,access:=ac } (.slice kk.rp kk.rn kk.rc) (.slice kk.vp kk.vn kk.vc) (.slice kk.fp kk.fn kk.fc) (.slice kk.mp kk.mn kk.mc) fs:=
   (HO3.o.lower om).boxed hX3 lr fun z hz e=>by have:=HO3.o.blk z hz _ e;omega
  obtain ⟨fg,fcap,u,hfp,hfcap,hfc,hfu,-⟩:=hpb.getRow HL.o;have hfgl:fg<W3.heap.size:=by
   have hfp2:=hpb.hf;rw[hfp] at hfp2;exact (aB hfp2 rfl).2
  obtain ⟨ug,ucap,hu,hub,hul,hux,hulc,-⟩:=hpb.field hfu HL.o HF.o HMB.o;have hug:w1.heap.size<=ug:=(aB (HO3.o.hfs h u l hfu HL.o).1 (by rw[hu];rfl)).1;subst hu;have HPB3:=hD hpb;have HFP:Hd (Value.slice kk.fp kk.fn kk.fc= .slice (some ⟨fg,0,none⟩) x.fields.length fcap):=hfp;simp only[Value.slice.injEq] at hfp;have HFC:Hd (Cl W3 fg h (.slice (some ⟨ug,0,none⟩) l.length ucap)):=hfc;have HFU:=hD hfu;have HUG:=hD (And.intro hug (And.intro hul hux));have hhf:(h:Int)<(x.fields.length:Int):=by have:=(bO HL.o).1;omega
  have hfl:(f:Int)<(l.length:Int):=by have:=HF.o;omega
  obtain ⟨xf,hxf⟩:=nm x.fields.length;obtain ⟨lz0,hlz0⟩:=nm l.length;have HXF:=hD (And.intro hxf hlz0);rw[<- hxf] at HFP hhf hfcap;rw[<- hlz0] at HFC hfl hulc;clear hX3 hB3 hO3 hlow hpb hfp hfc hfu hub hul hux hug hxf hlz0 a0 a1 a2 a3 a4 a5 a6 a7 a8 r0 r1 r2 r3 r4 r5 r6 r7 r8;refine eD kq (fun Wk=>Bl W3 Wk) (fun w1 w2 h1 h2=>h1.trans (h2.mono h1.size)) kq kq (Below.drew br) ?_;refine bC ?_ (fun aa ww ll hh=>?_) ?_;rotate_left
  ·have e6:=hh.oL 6;exact ov gX
  refine bC ?_ (fun aa ww ll hh=>?_) ?_;rotate_left
  ·have e27:=hh.gt 0 0;exact gM
  refine bC ?_ (fun aa ww ll hh=>?_) ?_;rotate_left
  ·have e2:=hh.oL 2;refine ov ?_;rw[bg e2]
  refine bC ?_ (fun aa ww ll hh=>?_) ?_;rotate_left
  ·have e28:=hh.gt 1 1;have e29:=hh.gt 2 0;exact ov gX
  refine bC ?_ (fun aa ww ll hh=>?_) ?_;rotate_left
  ·have e30:=hh.gt 3 0;exact gM
  refine bC ?_ (fun aa ww ll hh=>?_) ?_;rotate_left
  ·have e3:=hh.oL 3;refine ov ?_;rw[bg e3]
  refine bC ?_ (fun aa ww ll hh=>?_) ?_;rotate_left
  ·have e9:=hh.oL 9;exact gM
  refine bC ?_ (fun aa ww ll hh=>?_) ?_;rotate_left
  ·have e5:=hh.oL 5;exact ov gX
  refine bC ?_ (fun aa ww ll hh=>?_) ?_;rotate_left
  ·have e34:=hh.gt 7 0;exact gM
  refine bC ?_ (fun aa ww ll hh=>?_) ?_;rotate_left
  ·have e2:=hh.oL 2;refine ov ?_;rw[bg e2]
  refine bC ?_ (fun aa ww ll hh=>?_) ?_;rotate_left
  ·have e35:=hh.gt 8 1;have e36:=hh.gt 9 0;exact ov gX
  refine bC ?_ (fun aa ww ll hh=>?_) ?_;rotate_left
  ·have e37:=hh.gt 10 0;exact gM
  refine bC ?_ (fun aa ww ll hh=>?_) ?_;rotate_left
  ·have e3:=hh.oL 3;refine ov ?_;rw[bg e3]
  refine bC ?_ (fun aa ww ll hh=>?_) ?_;rotate_left
  ·have e38:=hh.gt 11 1;have e39:=hh.gt 12 0;exact ov gX
  refine bC ?_ (fun aa ww ll hh=>?_) ?_;rotate_left
  ·have e40:=hh.gt 13 0;exact gM
  refine ⟨.eq (.agg #[.int .u64 c0, .int .u64 c9]),trivial,rfl,fun aa ww ll hh=>?_,?_⟩
  ·have e33:=hh.gt 6 8;have e41:=hh.gt 14 0;have ef:=fQ aa;refine aE (aj rfl) ?_ (HCut.o ww);exact gX
  refine bC ?_ (fun aa ww ll hh=>?_) ?_;rotate_left
  ·have e31:=hh.gt 4 11;have e32:=hh.gt 5 10;exact ov gX
  intro ll w4 hS4 hok;clear hok;simp only[ly];refine ⟨(by first|trivial|rfl),?_⟩;have hpb4:=HPB3.o.below hS4;obtain ⟨ug2,ucap2,hu2,-,-,-,-,hfree,⟨k0,hk0⟩,⟨k1,hk1⟩,hpb5⟩:=hpb4.field HFU.o HL.o HF.o HMB.o;simp only[Value.slice.injEq,Option.some.injEq,Addr.mk.injEq,and_true,true_and] at hu2;obtain ⟨rfl,-⟩:=hu2;rw[<- HCC.o.1, <-HCC.o.2] at hpb5;have g0:=hfree (f*2);have g1:=hfree (f*2+1);have HB4:=hD (HB3.o.trans (hS4.mono HB3.o.size));have HZ4:=hD (HZ3.o.below hS4);clear hfree hpb4 hS4;unfold Oper.wp;go_simp;rename_i hK;refine hK _ _ ?_;clear hK;obtain ⟨W5,hW5⟩:=nm ((w4.setCell ⟨ug,f*2,none⟩ (.int .u64 c0)).setCell ⟨ug,f*2+1,none⟩ (.int .u64 c9));rw[<- hW5] at hpb5;have hO5:=hpb5.toO.raise fun z hz e he=>(HO3.o.blk z hz e he).1
  have hX5:Bx W5 (w.heap.size+1) (kL kk po dr se eg ac):=hpb5.st;have hZ5:Bx W5 (w.heap.size+1+1+1) zL:=by rw[hW5];exact (HZ4.o.other (by have:=HUG.o;have:=HLOW.o;omega) _).other (by have:=HUG.o;have:=HLOW.o;omega) _
  have hB5:Bl w W5:=by rw[hW5];exact (HB4.o.setCell (by show w.heap.size<=ug;have:=HUG.o;have:=HLOW.o;omega) _).setCell (by show w.heap.size<=ug;have:=HUG.o;have:=HLOW.o;omega) _
  rw[<- hW5];clear hW5 hk0 hk1 g0 g1;have HO5:=hD hO5;have HZ5:=hD hZ5;have HB5:=hD hB5;obtain ⟨d0,d1,d2,d3,d4,d5,d6,d7,d8⟩:=Bx.c9 hX5;obtain ⟨e0,e1,e2,e3,e4,e5,e6,e7,e8⟩:=Bx.c9 hZ5;have r0:=Bx.free hZ5 0;have r1:=Bx.free hZ5 1;have r2:=Bx.free hZ5 2;have r3:=Bx.free hZ5 3;have r4:=Bx.free hZ5 4;have r5:=Bx.free hZ5 5;have r6:=Bx.free hZ5 6;have r7:=Bx.free hZ5 7;have r8:=Bx.free hZ5 8;clear hpb5 hO5 hX5 hZ5 hB5;go_wp2_with fail;rw[<- bw];obtain ⟨w9,hW9,p6,hO9,hB9,-⟩:=ni HZ5.o (kL kk po dr se eg ac) rfl;rw[hW9];clear hW9;have hB9:=hB9 _ _ HB5.o om;obtain ⟨m0,m1,m2,m3,m4,m5,m6,m7,m8⟩:=Bx.c9 p6;refine bodyPost_ret (v:= .agg (kA kk po dr se eg ac)) ?_ rfl ⟨⟨kk,?_,?_,fun g hgw _=>?_⟩,hB9⟩
  ·simp[results,Tryz.results23,go_sem,m0,m1,m2,m3,m4,m5,m6,m7,m8]
  ·unfold kV;cases ac<;>rfl
  ·obtain ⟨k2,e1,e2,e3,e4,hk2⟩:=(HO5.o.far (w':=w9) fun z h1 h2=>hO9 z (by have:=HLOW.o;omega)).ks;have ek:k2=kk:=by
    cases k2;cases kk;simp only[Value.slice.injEq] at e1 e2 e3 e4;simp[e1,e2,e3,e4]
   rw[ek] at hk2;first|exact ⟨hk2.r,hk2.v,hk2.f,hk2.m⟩|(rw[if_pos rfl];exact ⟨hk2.r,hk2.v,hk2.f,hk2.m⟩)
  ·have h9:=HO5.o.far (w':=w9) fun z h1 h2=>hO9 z (by have:=HLOW.o;omega)
   first|exact h9.apart (fun b hb=>by have:=hgw b hb;have:=HLOW.o;omega) rfl rfl rfl rfl|(rw[if_pos rfl];exact h9.apart (fun b hb=>by have:=hgw b hb;have:=HLOW.o;omega) rfl rfl rfl rfl)
theorem wF {L:List Value} (h:∀(a b:Nat) (z y:Value),a<b->L[a]?=some z->L[b]?=some y->∀g k,z.ownBlock=some g->y.ownBlock=some k->g≠k):(L.filterMap Value.ownBlock).Nodup:=by
 rw[List.Nodup,List.pairwise_filterMap,List.pairwise_iff_getElem];intro a b ha hb hab g hg k hk;exact h a b _ _ hab (bS ha) (bS hb) g k hg hk
theorem uw (n:Nat):(madeCells #[.int .u64 0, .int .u64 0] (n*2)).toList=(List.replicate n 0).flatMap eU:=by
 have h1:(madeCells #[.int .u64 0, .int .u64 0] (n*2)).toList=List.replicate (n*2) (.int .u64 0):=by
  rw[List.eq_replicate_iff];refine ⟨by rw[Array.length_toList,size_madeCells],fun b hb=>?_⟩;unfold madeCells at hb;rw[Array.mem_toList_iff,Array.mem_map] at hb;obtain ⟨a,-,rfl⟩:=hb;rcases Nat.mod_two_eq_zero_or_one a with h|h
  ·show (#[Value.int .u64 0, .int .u64 0][a%2]!)=_;rw[h];rfl
  show (#[Value.int .u64 0, .int .u64 0][a%2]!)=_;rw[h];rfl
 have h2:(List.replicate n 0).flatMap eU=List.replicate (n*2) (.int .u64 0):=by
  rw[List.eq_replicate_iff];refine ⟨by rw[eC fK.len,List.length_replicate],fun b hb=>?_⟩;obtain ⟨a,ha,hb⟩:=List.mem_flatMap.1 hb;rw[List.mem_replicate] at ha;rw[ha.2] at hb;have e:eU 0=[.int .u64 0, .int .u64 0]:=by simp[eU]
  rw[e] at hb;simpa using hb
 rw[h1,h2]
theorem ti (W:World) (n:Nat) (hn:n<=1000000):∃w',(Instr.makeSlice 38 (.int .i64 (n:Int)) (.int .i64 (n:Int))).run Tryz.prog W= .ok (.slice (some ⟨W.heap.size,0,none⟩) n n) w'/\NOwn W.heap.size w' (.slice (some ⟨W.heap.size,0,none⟩) n n) (List.replicate n 0)/\Bl W w':=by
 obtain ⟨i0,hi,hz0,hz1,hz2⟩:=info_parts sI;obtain ⟨w',hr,ho,hg⟩:=run_make_full (P:=Tryz.prog) W W.heap.size 38 60 i0 _ 2 Tryz.underlying38 hi hz0 hz1 .i64 .i64 n (by rw[hz2];omega) (by unfold maxLen;omega) lr;refine ⟨w',hr,⟨?_,fun y hy=>?_⟩,br.grown hg lr (fun k h=>by cases h)⟩
 ·rw[List.length_replicate, <-uw n];exact ho
 rw[List.mem_replicate] at hy;rw[hy.2];decide
section
variable {base:Nat} {w w':World} {X:Nat} {x:Pkt} {r v f m:Value} {fs:List Value}
theorem PktB.setRow (h:PktB base w X x r v f m fs) {i:Nat} {l':List Nat} {u':Value} (hi:i<x.fields.length) (hu:NOwn base w u' l') (hne:∀z∈[r,v,f,m]++fs,∀k,z.ownBlock=some k->u'.ownBlock≠some k) (hX:u'.ownBlock≠some X):∃g cap,f= .slice (some ⟨g,0,none⟩) x.fields.length cap/\base<=g/\g<w.heap.size/\g≠X/\(x.fields.length:Int)<=(cap:Int)/\
 (∀ q,w.frozen? ⟨g,q,none⟩=false)/\(∃ y,w.cell? ⟨g,i,none⟩=some y)/\
 PktB base (w.setCell ⟨g,i,none⟩ u') X { x with fields:=x.fields.set i l' } r v f m (fs.set i u'):=by
 obtain ⟨g,cap,rfl,g1,g2,g3,g4,g5,g6⟩:=eF h.hf om;have hfl:fs.length=x.fields.length:=h.flen;have ha:([r,v, .slice (some ⟨g,0,none⟩) x.fields.length cap,m]++fs)[2]?=some (.slice (some ⟨g,0,none⟩) x.fields.length cap):=rfl;refine ⟨g,cap,rfl,g1,g2,h.nX ha rfl,om,g6,⟨_,g5 i _ (bS om)⟩,?_⟩;obtain ⟨s1,s2⟩:=h.row (w':=w.setCell ⟨g,i,none⟩ u') ha rfl (fun q hq=>heap_setCell_other w _ q _ hq);have hug:u'.ownBlock≠some g:=hne _ (cX ha) g rfl;refine ⟨s1,aG h.hr (s2 0 r rfl om),aG h.hv (s2 1 v rfl om),?_,fun a z l h1 h2=>?_,h.hm.far (s2 3 m rfl om),h.lo,?_⟩
 ·have:=kW h.hf (i:=i) om u';show World.ownsRow _ _ _ _ _ (x.fields.set i l').length _;rw[List.length_set];exact this
 ·by_cases e:a=i
  ·subst e;rw[List.getElem?_set_self om] at h1;rw[show ({ x with fields:=x.fields.set a l' }:Pkt).fields=x.fields.set a l' from rfl,List.getElem?_set_self hi] at h2;cases h1;cases h2;exact hu.far fun k hk=>heap_setCell_other w _ k _ (by show k≠g;rintro rfl;exact hug hk)
  rw[List.getElem?_set_ne (fun q=>e q.symm)] at h1;rw[show ({ x with fields:=x.fields.set i l' }:Pkt).fields=x.fields.set i l' from rfl,List.getElem?_set_ne (fun q=>e q.symm)] at h2;refine (h.hfs a z l h1 h2).far (s2 (4+a) z ?_ om);exact AZ
 refine List.nodup_cons.2 ⟨fun hc=>?_,wF fun a b z y hab hz hy p k hp hk e=>?_⟩
 ·obtain ⟨z,hz,e⟩:=List.mem_filterMap.1 hc;rcases List.mem_append.1 hz with hz|hz
  ·exact (List.nodup_cons.1 h.nd).1 (List.mem_filterMap.2 ⟨z,List.mem_append_left _ hz,e⟩)
  rcases List.mem_or_eq_of_mem_set hz with hz|rfl
  ·exact (List.nodup_cons.1 h.nd).1 (List.mem_filterMap.2 ⟨z,List.mem_append_right _ hz,e⟩)
  exact hX e
 subst e;have old:∀(c:Nat) (t:Value),c≠4+i->([r,v, .slice (some ⟨g,0,none⟩) x.fields.length cap,m]++fs.set i u')[c]?=some t->([r,v, .slice (some ⟨g,0,none⟩) x.fields.length cap,m]++fs)[c]?=some t:=fun c t hc ht=>by
  by_cases h4:c<4
  ·rw[List.getElem?_append_left (by simpa using h4)] at ht⊢;exact ht
  ·rw[List.getElem?_append_right (by simp;omega)] at ht⊢;simp only[List.length_cons,List.length_nil] at ht⊢
   rwa [List.getElem?_set_ne om] at ht
 have new:∀(t:Value),([r,v, .slice (some ⟨g,0,none⟩) x.fields.length cap,m]++fs.set i u')[4+i]?=some t->t=u':=fun t ht=>by
  rw[List.getElem?_append_right sm] at ht;simp only[List.length_cons,List.length_nil,Nat.zero_add,Nat.reduceAdd,Nat.add_sub_cancel_left] at ht;rw[List.getElem?_set_self om] at ht;cases ht;rfl
 by_cases ea:a=4+i
 ·subst ea;obtain rfl:=new z hz;exact hne y (cX (old b y om hy)) _ hk hp
 by_cases eb:b=4+i
 ·subst eb;obtain rfl:=new y hy;exact hne z (cX (old a z ea hz)) _ hp hk
 exact jQ h.nd2 (old a z ea hz) (old b y eb hy) om hp hk rfl
end
end Go.Proofs.YtjfhfaodbjecdaaGreat
