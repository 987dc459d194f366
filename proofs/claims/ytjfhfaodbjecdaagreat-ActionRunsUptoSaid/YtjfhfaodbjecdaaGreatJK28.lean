/- Lemmas. -/
import Derived.Test.YtjfhfaodbjecdaaGreatJK27
set_option maxHeartbeats 12800000
set_option maxRecDepth 100000
namespace Go.Proofs.YtjfhfaodbjecdaaGreat
open Go.RowKit
variable {act w:Int} {c:List Ist} {at':Nat} {ap:Pkt->Ist->Pkt} {args:List Nat} {x:Pkt} {n:Nod}
theorem jw (q:KS) (x:Pkt) (po eg:Int) (dr se ac:Bool) (h f:Nat) (l:List Nat) (w:World) (hq:KOk w q x) (hl:x.fields[h]?=some l) (hf:f<l.length):
 Calls Tryz.prog 51 #[kV q po dr se eg ac, .int .i64 (h:Int), .int .i64 (f:Int)] w fun e w'=>e= .returned (.bool true)/\Bl w w':=by
 have h1:¬(h:Int)<0:=om;have h2:(h:Int)<(q.fn:Int):=by have:=hq.f.ln.1;have:=(bO hl).1;omega
 have h3:¬(f:Int)<0:=om;obtain ⟨b,o,p1,n1,c1,hps,hb,y0,hy0⟩:=NsRow.el hq.f hl;have h4:(f:Int)<(n1:Int):=by have:=hy0.ln.1;omega
 have HY:Hd (∀ W,Bl w W->Cl W b (o+h) (.slice p1 n1 c1)):=fun W hh=>(hh.cell (p:=⟨b,o+h,none⟩) hb).trans y0
 have HPS:=hD hps;clear hq hl hf hps hb y0 hy0;unfold kV;go_enter Tryz.func51,Tryz.ntmps51;go_upto_region 1 with fail;obtain ⟨W0,hW0⟩:=nm (w.alloc (.cells (kA q po dr se eg ac) 40));have HB0:Hd (Bl w W0):=by show Below _ _ _;rw[hW0];exact bL
 have HX0:Hd (KBox W0 w.heap.size q po dr se eg ac):=by show _=_;rw[hW0];exact ag _ _
 rw[<- hW0];clear hW0;obtain ⟨-,-,-,k3,-⟩:=HX0.o.cells;have y0:=HY.o W0 HB0.o;rw[HPS.o] at k3;go_wp2_with fail;go_ret;exact ⟨rfl,HB0.o⟩
def fW (n0 n1:Int) (v:Value) (e:Ending):Prop:=e= .returned (.tuple #[.agg #[.int .u64 n0, .int .u64 n1],v])
theorem ul (q:KS) (x:Pkt) (po eg:Int) (dr se ac vb:Bool) (h f n:Nat) (l:List Nat) (w:World) (hq:KOk w q x) (hl:x.fields[h]?=some l) (hn:l[f]?=some n) (hv:x.valid[h]?=some vb):
 Calls Tryz.prog 75 #[kV q po dr se eg ac, .int .i64 (h:Int), .int .i64 (f:Int)] w fun e w'=>fW ((n/B:Nat):Int) ((n%B:Nat):Int) (kV q po dr se eg (ac|| !vb)) e/\Bl w w':=by
 have HT:Hd (∀ W,Bl w W->CR 51 #[kV q po dr se eg ac, .int .i64 (h:Int), .int .i64 (f:Int)] W (.bool true)):=fun W hh=>jw q x po eg dr se ac h f l W (hq.below hh) hl (bO hn).1
 have h2:(h:Int)<(q.fn:Int):=by have:=hq.f.ln.1;have:=(bO hl).1;omega
 have h5:(h:Int)<(q.vn:Int):=by have:=hq.v.ln.1;have:=(bO hv).1;omega
 obtain ⟨b,o,p1,n1,c1,hps,hb,y0,hy0⟩:=NsRow.el hq.f hl;have h4:(f:Int)<(n1:Int):=by have:=hy0.ln.1;have:=(bO hn).1;omega
 obtain ⟨nb,no,hpn,hnb,-,y1,y2⟩:=hy0.get hn;obtain ⟨bb,bo,hpb,hbb,y3⟩:=BRow.el hq.v hv;have HY:Hd (∀ W,Bl w W->Cl W b (o+h) (.slice p1 n1 c1)/\Cl W nb (no+f*2) (.int .u64 ((n/B:Nat):Int))/\Cl W nb (no+f*2+1) (.int .u64 ((n%B:Nat):Int))/\Cl W bb (bo+h) (.bool vb)):=fun W hh=>⟨(hh.cell (p:=⟨b,o+h,none⟩) hb).trans y0,(hh.cell (p:=⟨nb,no+f*2,none⟩) hnb).trans y1,(hh.cell (p:=⟨nb,no+f*2+1,none⟩) hnb).trans y2,(hh.cell (p:=⟨bb,bo+h,none⟩) hbb).trans y3⟩
 generalize ((n/B:Nat):Int)=n0 at*;generalize ((n%B:Nat):Int)=n2 at*;have HPS:=hD (And.intro hps (And.intro hpn hpb));rw[hpn] at HY;clear hq hl hn hv hps hpn hpb hb hnb hbb y0 y1 y2 y3 hy0;unfold kV at HT⊢;go_enter Tryz.func75,Tryz.ntmps75;go_upto_region 1 with fail;obtain ⟨W0,hW0⟩:=nm (((w.alloc (.cells (kA q po dr se eg ac) 40)).alloc (.cells #[.int .u64 0, .int .u64 0] 60)).alloc (.cells zA 40));have HB0:Hd (Bl w W0):=by show Below _ _ _;rw[hW0];exact bL
 have HX0:Hd (Bx W0 w.heap.size (kL q po dr se eg ac)):=by show _=_;rw[hW0,Below.heap_alloc _ _ _ (by simp;omega),Below.heap_alloc _ _ _ sm];exact ag _ _
 have HN0:Hd (W0.heap[w.heap.size+1]?=some (.cells #[.int .u64 0, .int .u64 0] 60 (0,0))):=by
  exact Cf
 have HZ0:Hd (Bx W0 (w.heap.size+1+1) zL):=by
  show _=_;exact xJ
 rw[<- hW0];clear hW0;obtain ⟨a0,a1,a2,a3,a4,a5,a6,a7,a8⟩:=Bx.c9 HX0.o;go_upto_region 3 with (go_at_call 51;(with_reducible refine (HT.o _ HB0.o).mono ?_);rintro e w1 ⟨rfl,hb1⟩;have HX1:=hD (HX0.o.below hb1);have HN1:Hd (w1.heap[w.heap.size+1]?=some (.cells #[.int .u64 0, .int .u64 0] 60 (0,0))):=(hb1.block _ (bV HN0.o).1).trans HN0.o;have HZ1:=hD (HZ0.o.below hb1);have HB1:=hD (HB0.o.trans (hb1.mono HB0.o.size));clear hb1);clear a0 a1 a2 a3 a4 a5 a6 a7 a8;have a2:=HX1.o.cell (i:=2) rfl;have a8:=HX1.o.cell (i:=8) rfl;have f8:=HX1.o.free 8;obtain ⟨-,-,-,y3⟩:=HY.o w1 HB1.o;rw[HPS.o.2.2] at a2;cases ac
 ·cases vb
  ·exact gB
  ·skip;go_upto_region 4 with fail;obtain ⟨W2,hW2⟩:=nm (w1.setCell ⟨w.heap.size,8,none⟩ (.bool false));have hX2:Bx W2 w.heap.size (kL q po dr se eg false):=by rw[hW2];exact HX1.o.put 8 _
   have hN2:W2.heap[w.heap.size+1]?=some (.cells #[.int .u64 0, .int .u64 0] 60 (0,0)):=by rw[hW2];exact (heap_setCell_other w1 _ (w.heap.size+1) _ (by show w.heap.size+1≠w.heap.size;omega)).trans HN1.o
   have hZ2:Bx W2 (w.heap.size+1+1) zL:=by rw[hW2];exact HZ1.o.other om _
   have hB2:Bl w W2:=by rw[hW2];exact HB1.o.setCell lr _
   rw[<- hW2];have HB2:=hD hB2;have HN2:=hD hN2;have HZ2:=hD hZ2;obtain ⟨y0,y1,y2,y3⟩:=HY.o W2 hB2;clear hW2 a2 a8 f8 hB2;obtain ⟨a0,a1,a2,a3,a4,a5,a6,a7,a8⟩:=Bx.c9 hX2;rw[HPS.o.1] at a3;obtain ⟨e0,e1,e2,e3,e4,e5,e6,e7,e8⟩:=Bx.c9 hZ2;have l0:=Bx.free hZ2 0;have l1:=Bx.free hZ2 1;have l2:=Bx.free hZ2 2;have l3:=Bx.free hZ2 3;have l4:=Bx.free hZ2 4;have l5:=Bx.free hZ2 5;have l6:=Bx.free hZ2 6;have l7:=Bx.free hZ2 7;have l8:=Bx.free hZ2 8;have b0:W2.cell? ⟨w.heap.size+1,0,none⟩=some (.int .u64 0):=by simp[World.cell?,hN2]
   have b1:W2.cell? ⟨w.heap.size+1,1,none⟩=some (.int .u64 0):=by simp[World.cell?,hN2]
   have g0:W2.frozen? ⟨w.heap.size+1,0,none⟩=false:=by simp[World.frozen?,hN2]
   have g1:W2.frozen? ⟨w.heap.size+1,1,none⟩=false:=by simp[World.frozen?,hN2]
   clear hX2 hN2 hZ2;go_region;obtain ⟨W3,hW3⟩:=nm ((W2.setCell ⟨w.heap.size+1,0,none⟩ (.int .u64 n0)).setCell ⟨w.heap.size+1,1,none⟩ (.int .u64 n2));have hN3:W3.heap[w.heap.size+1]?=some (.cells #[.int .u64 n0, .int .u64 n2] 60 (0,0)):=by
    exact Dh
   have hZ3:W3.heap[w.heap.size+1+1]?=some (.cells zA 40 (0,0)):=by
    rw[hW3];exact (HZ2.o.other om _).other om _
   have hB3:Bl w W3:=by rw[hW3];exact (HB2.o.setCell (by show w.heap.size<=w.heap.size+1;omega) _).setCell (by show w.heap.size<=w.heap.size+1;omega) _
   rw[<- hW3];clear hW3 a0 a1 a2 a3 a4 a5 a6 a7 a8 e0 e1 e2 e3 e4 e5 e6 e7 e8 l0 l1 l2 l3 l4 l5 l6 l7 l8 b0 b1 g0 g1 y0 y1 y2 y3;have hb4:=bU (.int .i64 po) (.slice q.rp q.rn q.rc) (.slice q.vp q.vn q.vc) (.slice (some ⟨b,o,none⟩) q.fn q.fc) (.slice q.mp q.mn q.mc) (.bool dr) (.bool se) (.int .i64 eg) (.bool false) hZ3;have hn4:=(cC W3 (g:=w.heap.size+1+1) (k:=w.heap.size+1) (.int .i64 po) (.slice q.rp q.rn q.rc) (.slice q.vp q.vn q.vc) (.slice (some ⟨b,o,none⟩) q.fn q.fc) (.slice q.mp q.mn q.mc) (.bool dr) (.bool se) (.int .i64 eg) (.bool false) om).trans hN3;have hB4:=cM (g:=w.heap.size+1+1) (.int .i64 po) (.slice q.rp q.rn q.rc) (.slice q.vp q.vn q.vc) (.slice (some ⟨b,o,none⟩) q.fn q.fc) (.slice q.mp q.mn q.mc) (.bool dr) (.bool se) (.int .i64 eg) (.bool false) hB3 om;rw[<- bw];generalize bw W3 (w.heap.size+1+1) (.int .i64 po) (.slice q.rp q.rn q.rc) (.slice q.vp q.vn q.vc) (.slice (some ⟨b,o,none⟩) q.fn q.fc) (.slice q.mp q.mn q.mc) (.bool dr) (.bool se) (.int .i64 eg) (.bool false)=W4 at hb4 hn4 hB4⊢;have hb5:Bx W4.drew (w.heap.size+1+1) [.int .i64 po, .slice q.rp q.rn q.rc, .slice q.vp q.vn q.vc, .slice (some ⟨b,o,none⟩) q.fn q.fc, .slice q.mp q.mn q.mc, .bool dr, .bool se, .int .i64 eg, .bool false]:=hb4;have hn5:W4.drew.heap[w.heap.size+1]?=some (.cells #[.int .u64 n0, .int .u64 n2] 60 (0,0)):=hn4;have HB5:Hd (Bl w W4.drew):=hB4.trans (Below.drew br);generalize W4.drew=W5 at*;clear hZ3 hB3 hN3 hb4 hn4 hB4;go_wp2_with fail;obtain ⟨m0,m1,m2,m3,m4,m5,m6,m7,m8⟩:=Bx.c9 hb5;have b0:W5.cell? ⟨w.heap.size+1,0,none⟩=some (.int .u64 n0):=by simp[World.cell?,hn5]
   have b1:W5.cell? ⟨w.heap.size+1,1,none⟩=some (.int .u64 n2):=by simp[World.cell?,hn5]
   refine bodyPost_ret (v:= .tuple #[.agg #[.int .u64 n0, .int .u64 n2], .agg #[.int .i64 po, .slice q.rp q.rn q.rc, .slice q.vp q.vn q.vc, .slice (some ⟨b,o,none⟩) q.fn q.fc, .slice q.mp q.mn q.mc, .bool dr, .bool se, .int .i64 eg, .bool false]]) ?_ rfl ⟨?_,HB5.o⟩
   ·simp[results,Tryz.results75,go_sem,m0,m1,m2,m3,m4,m5,m6,m7,m8,b0,b1]
   show Ending.returned _=_;rw[HPS.o.1];rfl
 ·cases vb
  ·exact gB
  ·exact gB
open Stab
def gw (c:List Ist):Prop:=∀(j:Nat) (i:Ist),c[j]?=some i->(i.k=7\/i.k=8)->(j:Int)<i.to/\i.to<=(c.length:Int)
theorem pe {p:Prg} {i:Ist} {j many:Nat} (h:bX p act i j many=true) (hk:i.k=7\/i.k=8):(j:Int)<i.to/\i.to<=(many:Int):=by
 unfold bX at h;split at h
 ·cases h
 rw[Bool.and_eq_true,if_pos hk] at h;exact of_decide_eq_true h.1
theorem iu {p:Prg} {l:List Ist} (h:aH p act l=true):gw l:=by
 intro j i hj hk;unfold aH at h;rw[Bool.and_eq_true] at h;have:=aN.1 h.2 j i hj;rw[Nat.zero_add] at this;exact pe this hk
theorem jx {p:Prg} {l:List Ist} (h:aH p act l=true):l.length<=65536:=by
 unfold aH at h;rw[Bool.and_eq_true] at h;exact of_decide_eq_true h.1
theorem i8 {k:Nat} (h:k<c.length):c[k]?=some (hQ c k):=aA _ h
theorem jy (hc:gw c) (args:List Nat) (x:Pkt) (h:at'<c.length):at'<bB args x (hQ c at') at':=by
 exact DN
theorem qE (hc:gw c) (args:List Nat) (x:Pkt) (h:at'<c.length):bB args x (hQ c at') at'<=c.length:=by
 exact DN
theorem oq {p:Prg} (hc:gw c):∀(k1 k2 at':Nat) (x:Pkt),c.length-at'<=k1->c.length-at'<=k2->ic p ap args c k1 at' x=ic p ap args c k2 at' x:=by
 intro k1;induction k1 with
 |zero=>
  intro k2 at' x h1 h2;cases k2 with
  |zero=>rfl
  |succ k2=>rw[ic,ic,if_neg om]
 |succ k1 ih=>
  intro k2 at' x h1 h2;cases k2 with
  |zero=>rw[ic,ic,if_neg om]
  |succ k2=>
   rw[ic,ic];by_cases hlt:at'<c.length
   ·rw[if_pos hlt,if_pos hlt];have:=jy hc args x hlt;exact ih k2 _ _ om om
   rw[if_neg hlt,if_neg hlt]
def eW (p:Prg) (ap:Pkt->Ist->Pkt) (args:List Nat) (x:Pkt) (i:Ist):Pkt:=if i.k=3 then ap x i else dw p args x i
def bu (p:Prg) (ap:Pkt->Ist->Pkt) (args:List Nat) (c:List Ist) (at':Nat) (x:Pkt):Pkt:=ic p ap args c c.length at' x
theorem jz {p:Prg} (h:c.length<=at'):bu p ap args c at' x=x:=by
 unfold bu;cases hk:c.length with
 |zero=>rfl
 |succ k=>rw[ic,if_neg om]
theorem jA {p:Prg} (hc:gw c) (h:at'<c.length):bu p ap args c at' x=bu p ap args c (bB args x (hQ c at') at') (eW p ap args x (hQ c at')):=by
 have hg:=jy hc args x h;unfold bu;obtain ⟨k,hk⟩:∃k,c.length=k+1:=⟨c.length-1,om⟩;rw[oq hc c.length (k+1) at' x om om,ic,if_pos h];exact oq hc _ _ _ _ om om
theorem jW {p:Prg} {i:Ist} (h:bK p act i=some w) (hk:i.k=1):0<=i.a/\i.a<(p.heads.length:Int)/\0<=i.b/\i.b<((p.heads.getD i.a.toNat []).length:Int)/\w=(p.heads.getD i.a.toNat []).getD i.b.toNat 0:=by
 unfold bK at h;rw[if_pos hk] at h;split at h
 ·rename_i e;cases h;exact ⟨e.1,e.2.1,e.2.2.1,e.2.2.2,rfl⟩
 cases h
theorem i9 {p:Prg} {i:Ist} (h:bK p act i=some w) (hk:i.k=2):0<=i.a/\i.a<(p.metas.length:Int)/\i.b=0/\w=p.metas.getD i.a.toNat 0:=by
 unfold bK at h;rw[if_neg om,if_pos hk] at h;split at h
 ·rename_i e;cases h;exact ⟨e.1,e.2.1,e.2.2,rfl⟩
 cases h
theorem fF {p:Prg} {i:Ist} (h:bK p act i=some w) (hk:i.k=3):act<0/\0<=i.a/\i.a<(p.tabs.length:Int)/\i.b=0/\w=0:=by
 unfold bK at h;rw[if_neg om,if_neg om,if_pos hk] at h;split at h
 ·rename_i e;cases h;exact ⟨e.1,e.2.1,e.2.2.1,e.2.2.2,rfl⟩
 cases h
theorem iv {p:Prg} {i:Ist} (h:bK p act i=some w) (hk:i.k=6):0<=i.a/\i.a<(p.heads.length:Int)/\(i.b=0\/i.b=1)/\w=0:=by
 unfold bK at h;rw[if_neg om,if_neg om,if_neg om,if_pos hk] at h;split at h
 ·rename_i e;cases h;exact ⟨e.1,e.2.1,e.2.2,rfl⟩
 cases h
theorem fq {p:Prg} {i:Ist} (h:bK p act i=some w) (h1:i.k≠1) (h2:i.k≠2) (h3:i.k≠3) (h6:i.k≠6):(i.k=7/\w=1)\/(i.k=5/\w=9)\/(i.k=4/\w=0)\/(i.k=8/\w=0):=by
 unfold bK at h;rw[if_neg h1,if_neg h2,if_neg h3,if_neg h6] at h;split at h
 ·rename_i hk;split at h
  ·cases h;rcases hk with hk|hk|hk|hk
   ·exact .inl ⟨hk,by rw[if_pos hk]⟩
   ·exact .inr (.inl ⟨hk,by rw[if_neg om,if_pos hk]⟩)
   ·exact .inr (.inr (.inl ⟨hk,by rw[if_neg om,if_neg om]⟩))
   ·exact .inr (.inr (.inr ⟨hk,by rw[if_neg om,if_neg om]⟩))
  cases h
 cases h
theorem pf {l:List Int} {i:Int} (h:0<pN l i):0<=i/\i<(l.length:Int):=by
 unfold pN at h;split at h
 ·omega
 omega
theorem mv {p:Prg} (h:bs p act n=n.w) (hok:dl n.w=true) (hk:n.op=2):0<=n.a/\n.a<(p.heads.length:Int)/\0<=n.b/\n.b<((p.heads.getD n.a.toNat []).length:Int):=by
 rw[dS] at hok;unfold bs at h;rw[if_neg om] at h;split at h
 ·omega
 split at h
 ·rename_i e;have:=pf (l:=p.heads.getD n.a.toNat []) (i:=n.b) om;exact ⟨e.1,e.2,this.1,this.2⟩
 omega
theorem ot {p:Prg} (h:bs p act n=n.w) (hok:dl n.w=true) (hk:n.op=3):0<=n.a/\n.a<(p.metas.length:Int):=by
 rw[dS] at hok;unfold bs at h;rw[if_neg om] at h;split at h
 ·omega
 exact pf om
theorem mw {p:Prg} (h:bs p act n=n.w) (hok:dl n.w=true) (hk:n.op=4):0<=act/\act<(p.acts.length:Int)/\0<=n.a/\n.a<(((p.acts.getD act.toNat ⟨[],[]⟩).params.length:Nat):Int):=by
 rw[dS] at hok;unfold bs at h;rw[if_neg om] at h;split at h
 ·omega
 rw[if_neg (show ¬n.op=2 by omega),if_neg (show ¬n.op=3 by omega)] at h;split at h
 ·rename_i e;have:=pf (l:=(p.acts.getD act.toNat ⟨[],[]⟩).params) (i:=n.a) om;exact ⟨e.1,e.2,this.1,this.2⟩
 omega
theorem mA {p:Prg} (h:bs p act n=n.w) (hok:dl n.w=true) (hk:n.op=6):0<=n.a/\n.a<(p.heads.length:Int):=by
 rw[dS] at hok;unfold bs at h;rw[if_neg om] at h;split at h
 ·omega
 rw[if_neg (show ¬n.op=2 by omega),if_neg (show ¬n.op=3 by omega),if_neg (show ¬n.op=4 by omega),if_neg (show ¬n.op=5 by omega)] at h;split at h
 ·assumption
 omega
end Go.Proofs.YtjfhfaodbjecdaaGreat
