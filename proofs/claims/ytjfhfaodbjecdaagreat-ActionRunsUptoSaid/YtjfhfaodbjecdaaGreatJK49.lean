/- Lemmas. -/
import Derived.Test.YtjfhfaodbjecdaaGreatJK48
set_option maxHeartbeats 12800000
set_option maxRecDepth 100000
namespace Go.Proofs.YtjfhfaodbjecdaaGreat
open Go.RowKit Go.Maps
theorem zi (a b:Int) (W:World):(Go.binOp .eql 60 (.agg #[.int .u64 a, .int .u64 b]) (.agg #[.int .u64 a, .int .u64 b])).run Tryz.prog W= .ok (.bool true) W:=by simp[go_sem]
theorem qX {gx g2 kc a b r:Nat} {w0:World} (i:Nat) (v:Value) (L:Array Bool) (l:List Value) (w w':World) (hn:aZ L i=false) (_h1:i<L.size) (_h2:i<l.length) (hb:Bl w w') (hg:(kR gx g2 kc a b r w0).G L l w) (hne:i≠10):(kR gx g2 kc a b r w0).G (L.setIfInBounds i true) (l.set i v) w':=
 ⟨hg.1.trans (hb.mono hg.1.size),hg.2.quiet hn hne hb⟩
theorem zF (n:Nat) (hn:n<B) (W:World):Calls Tryz.prog 18 #[.int .u64 (n:Int)] W fun e w'=>e= .returned (.agg #[.int .u8 1, .int .i64 4, .int .i64 0, .int .i64 0, .int .u64 0, .int .u64 (n:Int)])/\Bl W w':=by
 have h:=AI n W hn;unfold Nd.val aP at h;dsimp only at h
 rwa [Nat.div_eq_of_lt hn,Nat.mod_eq_of_lt hn] at h
theorem zj (gx:Nat) (W:World) (gc:Nat) (h:W.heap[gc]?=some (.cells #[.int .u8 1, .int .i64 4, .int .i64 0, .int .i64 0, .int .u64 0, .int .u64 5, .int .u8 1, .int .i64 4, .int .i64 0, .int .i64 0, .int .u64 0, .int .u64 3, .int .u8 12, .int .i64 4, .int .i64 0, .int .i64 0, .int .u64 0, .int .u64 0] 65 (0,0))):Calls Tryz.prog 20 #[qV, .pointer (some ⟨gx,0,none⟩), .slice (some ⟨gc,0,none⟩) 3 3, .slice none 0 0] W fun e w'=>e= .returned (.agg #[.int .u64 0, .int .u64 2])/\Bl W w':=
 qW AJ gx gc 3 W 65 h
theorem zm (gx:Nat) (W:World) (gc:Nat) (h:W.heap[gc]?=some (.cells #[.int .u8 1, .int .i64 4, .int .i64 0, .int .i64 0, .int .u64 0, .int .u64 3, .int .u8 1, .int .i64 4, .int .i64 0, .int .i64 0, .int .u64 0, .int .u64 5, .int .u8 12, .int .i64 4, .int .i64 0, .int .i64 0, .int .u64 0, .int .u64 0] 65 (0,0))):Calls Tryz.prog 20 #[qV, .pointer (some ⟨gx,0,none⟩), .slice (some ⟨gc,0,none⟩) 3 3, .slice none 0 0] W fun e w'=>e= .returned (.agg #[.int .u64 0, .int .u64 14])/\Bl W w':=
 qW AK gx gc 3 W 65 h
theorem pD (w:World):Calls Tryz.prog 6 #[] w fun e w'=>e= .returned (.bool true)/\Bl w w':=by
 have HK5:Hd (∀ W,CR 18 #[.int .u64 5] W (.agg #[.int .u8 1, .int .i64 4, .int .i64 0, .int .i64 0, .int .u64 0, .int .u64 5])):=fun W=>zF 5 (by unfold B;omega) W
 have HK3:Hd (∀ W,CR 18 #[.int .u64 3] W (.agg #[.int .u8 1, .int .i64 4, .int .i64 0, .int .i64 0, .int .u64 0, .int .u64 3])):=fun W=>zF 3 (by unfold B;omega) W
 have HO2:Hd (∀ W,CR 19 #[.int .u64 2] W (.agg #[.int .u64 0, .int .u64 2])):=fun W=>eZ 2 (by unfold B;omega) W
 have HO14:Hd (∀ W,CR 19 #[.int .u64 14] W (.agg #[.int .u64 0, .int .u64 14])):=fun W=>eZ 14 (by unfold B;omega) W
 have heq:=zi;have HEQ:=hD heq;clear heq;go_enter Tryz.func6,Tryz.ntmps6;go_wp2_with fail;obtain ⟨W0,hW0⟩:=nm ((w.alloc (.cells #[.int .u8 12, .int .i64 4, .int .i64 0, .int .i64 0, .int .u64 0, .int .u64 0] 65)).alloc (.cells zA 40));have HB0:Hd (Bl w W0):=by show Below _ _ _;rw[hW0];exact bL
 have h2:W0.heap[w.heap.size]?=some (.cells #[.int .u8 12, .int .i64 4, .int .i64 0, .int .i64 0, .int .u64 0, .int .u64 0] 65 (0,0)):=by rw[hW0];exact uK w _ _
 have hz0:W0.heap.size=w.heap.size+1+1:=by rw[hW0];simp
 have HC:Hd (∀ W,Bl W0 W->Cl W w.heap.size 0 (.int .u8 12)/\Cl W w.heap.size 1 (.int .i64 4)/\Cl W w.heap.size 2 (.int .i64 0)/\Cl W w.heap.size 3 (.int .i64 0)/\Cl W w.heap.size 4 (.int .u64 0)/\Cl W w.heap.size 5 (.int .u64 0)):=fun W hb=>by
  have h:=(hb.block _ om).trans h2;refine ⟨?_,?_,?_,?_,?_,?_⟩<;>simp[World.cell?,h]
 rw[<- hW0];clear hW0 h2;refine BP (w.heap.size+1) w.heap.size W0 tz (fun l=>⟨below_drewN br 1,LaidTwo.start⟩) lr HK5 HK3 HC (zj _) qX _ _ _ _ _ _ _ _ _ _ _ _ _ _ _ _ _ _ _ _ _ _ _ _ _ _ _ _ _ _ _ _ _ ?_;intro u0 u1 u2 u3 u4 u5 u6 u7 u8 u9 L w1 hall hI;obtain ⟨hb1,hL1⟩:=hI.glob;obtain ⟨-,g4,e9,hg4,h4⟩:=hL1 (hall 10 om);have e9:u9= .pointer (some ⟨g4,0,none⟩):=e9;subst e9;have HB1:Hd (Bl W0 w1):=hb1;have H4:Hd (w1.heap[g4]?=some (.cells #[.int .u64 0, .int .u64 2] 60 (0,0))):=h4;have hz1:W0.heap.size<=w1.heap.size:=hb1.size;have hl4:g4<w1.heap.size:=aI h4;clear hI hL1 hb1 h4 hall;dsimp only;go_wp2_with fail;have HC1:Hd (∀ W,Bl w1 W->Cl W w.heap.size 0 (.int .u8 12)/\Cl W w.heap.size 1 (.int .i64 4)/\Cl W w.heap.size 2 (.int .i64 0)/\Cl W w.heap.size 3 (.int .i64 0)/\Cl W w.heap.size 4 (.int .u64 0)/\Cl W w.heap.size 5 (.int .u64 0)):=fun W hb=>HC.o W (HB1.o.trans (hb.mono hz1))
 refine BQ (w.heap.size+1) w.heap.size w1 tz (fun l=>⟨below_drewN br 1,LaidTwo.start⟩) lr HK3 HK5 HC1 (zm _) qX _ _ _ _ _ _ _ _ _ _ _ _ _ _ _ _ _ _ _ _ _ _ _ _ _ _ _ _ _ _ _ _ _ ?_;intro v0 v1 v2 v3 v4 v5 v6 v7 v8 v9 L2 w2 hall hI;obtain ⟨hb1,hL1⟩:=hI.glob;obtain ⟨-,g5,e9,hg5,h5⟩:=hL1 (hall 10 om);have e9:v9= .pointer (some ⟨g5,0,none⟩):=e9;subst e9;have HB2:Hd (Bl w1 w2):=hb1;have h4:w2.heap[g4]?=some (.cells #[.int .u64 0, .int .u64 2] 60 (0,0)):=(HB2.o.block _ hl4).trans H4.o;have HBW:=hD ((HB0.o.trans (HB1.o.mono om)).trans (HB2.o.mono om));have h5:w2.heap[g5]?=some (.cells #[.int .u64 0, .int .u64 14] 60 (0,0)):=h5;have c0:w2.cell? ⟨g4,0,none⟩=some (.int .u64 0):=by simp[World.cell?,h4]
 have c1:w2.cell? ⟨g4,1,none⟩=some (.int .u64 2):=by simp[World.cell?,h4]
 have c2:w2.cell? ⟨g5,0,none⟩=some (.int .u64 0):=by simp[World.cell?,h5]
 have c3:w2.cell? ⟨g5,1,none⟩=some (.int .u64 14):=by simp[World.cell?,h5]
 have HS0:Hd ((fun Wk=>Below (w.heap.size) (w) Wk/\Cl Wk g4 0 (.int .u64 0)/\Cl Wk g4 1 (.int .u64 2)/\Cl Wk g5 0 (.int .u64 0)/\Cl Wk g5 1 (.int .u64 14)) w2.drew):=⟨below_drewN HBW.o 1,c0,c1,c2,c3⟩;clear hI hL1 hb1 h4 h5 hall;dsimp only;go_wp2_with fail;have heq:=HEQ.o;go_region_held3 (fun Wk=>Below (w.heap.size) (w) Wk/\Wk.cell? ⟨g4,0,none⟩=some (.int .u64 0)/\Wk.cell? ⟨g4,1,none⟩=some (.int .u64 2)/\Wk.cell? ⟨g5,0,none⟩=some (.int .u64 0)/\Wk.cell? ⟨g5,1,none⟩=some (.int .u64 14))
  (first|exact HS0.o|exact qj hb1 (by assumption)|assumption)
  (first
  |(go_at_call 19;(with_reducible refine (HO2.o _).mono ?_);rintro e w3 ⟨rfl,hb1⟩)
  |(go_at_call 19;(with_reducible refine (HO14.o _).mono ?_);rintro e w4 ⟨rfl,hb1⟩))
 rename_i hS;have HBF:=hD hS.1;clear hS;go_wp2_with fail;go_ret;exact ⟨rfl,HBF.o⟩
theorem tA {w:World} {v:Value} {xs:List Int} (h:URow w v xs):(convert 35 9 v).run Tryz.prog w= .ok (.string (strOfNums xs)) w:=by
 obtain ⟨pa,cap,rfl,h1,h2,-,h3⟩:=h;by_cases h0:0<xs.length
 ·obtain ⟨b,o,rfl,hb,hc⟩:=h3 h0;refine run_convert_bytes_arg w _ 5 Tryz.underlying35 Tryz.underlying5 b o xs.length cap xs rfl (fun i hi=>?_) _ Tryz.underlying9;have:=hc i xs[i] (bS hi);unfold A7 at this;rw[Nat.mul_one] at this;rw[this,List.getD_eq_getElem?_getD,bS hi];rfl
 obtain rfl:xs=[]:=List.eq_nil_of_length_eq_zero om;cases pa with
 |none=>exact run_convert_bytes_nil w _ 5 Tryz.underlying35 Tryz.underlying5 0 cap _ Tryz.underlying9
 |some a=>
  rw[run_convert_bytes_string w _ _ 5 _ _ _ Tryz.underlying35 Tryz.underlying5 Tryz.underlying9];exact run_bytesToString w a 0 cap [] rfl
theorem m9 (a b:KS) (x:Pkt) (po eg:Int) (dr se ac:Bool) (w:World) (ha:KOk w a x) (hb:KOk w b x) (hf:x.fields.length<=1000000) (hfl:∀l∈x.fields,l.length<=1000000) (hm:x.metas.length<=1000000) (hv:x.fields.length<=x.valid.length):
 Calls Tryz.prog 9 #[kV a po dr se eg ac,kV b po dr se eg ac] w fun e w'=>e= .returned (.bool true)/\Bl w w':=by
 obtain ⟨rp,rn,rc,vp,vn,vc,fp,fn,fc,mp,mn,mc⟩:=a;obtain ⟨sp,sn,sc,up,un,uc,gp,gn,gc,np,nn,nc⟩:=b;obtain ⟨h1,h2,h3,h4⟩:=ha;obtain ⟨i1,i2,i3,i4⟩:=hb;dsimp only at h1 h2 h3 h4 i1 i2 i3 i4;have e1:=h1.ln.1;have e2:=h2.ln.1;have e3:=h3.ln.1;have e4:=h4.ln.1;have j1:=i1.ln.1;have j2:=i2.ln.1;have j3:=i3.ln.1;have j4:=i4.ln.1;obtain rfl:sn=rn:=om;obtain rfl:un=vn:=om;obtain rfl:gn=fn:=om;obtain rfl:nn=mn:=om;have HN:Hd (un=x.valid.length/\gn=x.fields.length/\nn=x.metas.length):=⟨e2,e3,e4⟩;have hgn:gn<=1000000:=om;have hnn:nn<=1000000:=om;have HFL:=hD hfl;have HV:=hD hv;have H1:=hD h1;have H2:=hD h2;have H3:=hD h3;have H4:=hD h4;have I1:=hD i1;have I2:=hD i2;have I3:=hD i3;have I4:=hD i4;clear e1 e2 e3 e4 j1 j2 j3 j4 h1 h2 h3 h4 i1 i2 i3 i4 hf hfl hm hv;unfold kV;dsimp only;obtain ⟨W0,hW0⟩:=nm ((w.alloc (.cells #[.int .i64 po, .slice rp sn rc, .slice vp un vc, .slice fp gn fc, .slice mp nn mc, .bool dr, .bool se, .int .i64 eg, .bool ac] 40)).alloc (.cells #[.int .i64 po, .slice sp sn sc, .slice up un uc, .slice gp gn gc, .slice np nn nc, .bool dr, .bool se, .int .i64 eg, .bool ac] 40));have HB0:Hd (Bl w W0):=by show Below _ _ _;rw[hW0];exact bL
 have k1:=tA (H1.o.below jg HB0.o);have k2:=tA (I1.o.below jg HB0.o);rw[hW0] at k1 k2;generalize strOfNums x.rest=S at*;have HX0:Hd (KBox W0 w.heap.size ⟨rp,sn,rc,vp,un,vc,fp,gn,fc,mp,nn,mc⟩ po dr se eg ac):=by show _=_;rw[hW0,Below.heap_alloc _ _ _ sm];exact ag _ _
 have HZ0:Hd (KBox W0 (w.heap.size+1) ⟨sp,sn,sc,up,un,uc,gp,gn,gc,np,nn,nc⟩ po dr se eg ac):=by
  exact j9
 have HW:=hD hW0;clear hW0;go_enter Tryz.func9,Tryz.ntmps9;go_upto_region 3 with fail;have hw:=HW.o;rw[<- hw];clear hw HW k1 k2;go_wp2_with fail;go_loopw [5] (fun i wr=>∃k:Nat,k<=nn/\i= .int .i64 k/\Hd (Bl W0 wr)) (fun i _=>nn-(intOf i).toNat)
 case atStart=>exact ⟨0,zl,rfl,Below.refl _ _⟩
 case round=>
  obtain ⟨k,hk,rfl,HW⟩:=hrel;obtain ⟨-,-,-,a3,a4,-⟩:=(HX0.o.below HW.o).cells;obtain ⟨-,-,-,b3,b4,-⟩:=(HZ0.o.below HW.o).cells;have hbw:=HB0.o.trans (HW.o.mono HB0.o.size);have HBW:=hD hbw;by_cases hlt:k<nn
  ·have hki:(k:Int)<(nn:Int):=om;obtain ⟨n,hn⟩:∃n,x.metas[k]?=some n:=⟨_,bS (by have:=HN.o;omega)⟩;obtain ⟨b,o,hps,-,-,c0,c1⟩:=(H4.o.below aM hbw).get hn;obtain ⟨b',o',hps',-,-,c2,c3⟩:=(I4.o.below aM hbw).get hn;dsimp only at a4 b4;rw[hps] at a4;rw[hps'] at b4;generalize ((n/B:Nat):Int)=n0 at*;generalize ((n%B:Nat):Int)=n1 at*;have HPS:=hD (And.intro hps hps');clear hn hps hps' hbw;go_upto_region 6 with fail;go_quiet (fail);have HQ2:=hD (below_drewN HW.o nq);go_wp2_with fail;go_roundw
   case rel=>exact ⟨k+1,om,by go_num,HQ2.o⟩
   case measure=>exact mz
  obtain rfl:k=nn:=om;have hki:¬(k:Int)<(k:Int):=om;dsimp only at a3 b3;clear hbw;go_wp2_with fail;clear a3 a4 b3 b4 hki hlt;go_loopw [6,7] (fun i u wr=>∃z:Nat,z<=gn/\i= .int .i64 z/\Hd (Bl W0 wr)) (fun i u _=>gn-(intOf i).toNat)
  case atStart=>exact ⟨0,zl,rfl,HW.o⟩
  case round=>
   clear HW HBW;obtain ⟨z,hz,rfl,HW⟩:=hrel;obtain ⟨-,-,a2,a3,-⟩:=(HX0.o.below HW.o).cells;obtain ⟨-,-,b2,b3,-⟩:=(HZ0.o.below HW.o).cells;dsimp only at a2 a3 b2 b3;have hbw:=HB0.o.trans (HW.o.mono HB0.o.size);have HBW:=hD hbw;by_cases hlt:z<gn
   ·have hzi:(z:Int)<(gn:Int):=om;have hzv:(z:Int)<(un:Int):=by have:=HV.o;have:=HN.o;omega
    obtain ⟨l,hl⟩:∃l,x.fields[z]?=some l:=⟨_,bS (by have:=HN.o;omega)⟩;obtain ⟨vb,hvb⟩:∃l,x.valid[z]?=some l:=⟨_,bS (by have:=HN.o;have:=HV.o;omega)⟩;obtain ⟨b,o,p1,l1,c1,hps,hb,y0,hy0⟩:=NsRow.el (H3.o.below lR hbw) hl;obtain ⟨b',o',p1',l1',c1',hps',hb',y1,hy1⟩:=NsRow.el (I3.o.below lR hbw) hl;obtain ⟨vb1,vo1,hpv,hbv,y2⟩:=BRow.el (H2.o.below nU hbw) hvb;obtain ⟨vb2,vo2,hpv',hbv',y3⟩:=BRow.el (I2.o.below nU hbw) hvb;have hl1:l1'=l1:=by have:=hy0.ln.1;have:=hy1.ln.1;omega
    subst hl1;have HLN:Hd (l1'=l.length):=hy1.ln.1;have hl6:l1'<=1000000:=by have:=hy1.ln.1;have:=HFL.o l (cX hl);omega
    have HY0:=hD hy0;have HY1:=hD hy1;have HCE:Hd (∀ W,Bl wr W->(Cl W w.heap.size 2 (.slice vp un vc)/\Cl W w.heap.size 3 (.slice fp gn fc)/\Cl W (w.heap.size+1) 2 (.slice up un uc)/\Cl W (w.heap.size+1) 3 (.slice gp gn gc))/\Cl W b (o+z) (.slice p1 l1' c1)/\Cl W b' (o'+z) (.slice p1' l1' c1')/\Cl W vb1 (vo1+z) (.bool vb)/\Cl W vb2 (vo2+z) (.bool vb)):=fun W h=>by
     obtain ⟨-,-,a2,a3,-⟩:=(HX0.o.below (HW.o.trans (h.mono HW.o.size))).cells;obtain ⟨-,-,b2,b3,-⟩:=(HZ0.o.below (HW.o.trans (h.mono HW.o.size))).cells;exact ⟨⟨a2,a3,b2,b3⟩,(h.cell (p:=⟨b,o+z,none⟩) hb).trans y0,(h.cell (p:=⟨b',o'+z,none⟩) hb').trans y1,(h.cell (p:=⟨vb1,vo1+z,none⟩) hbv).trans y2,(h.cell (p:=⟨vb2,vo2+z,none⟩) hbv').trans y3⟩
    rw[hps,hps',hpv,hpv'] at HCE;clear hl hvb hps hps' hpv hpv' hb hb' hbv hbv' y0 y1 y2 y3 hy0 hy1 hbw;go_upto_region 11 with fail;clear a2 a3 b2 b3;cases vb
    ·exact gF
    ·exact gF
   obtain rfl:z=gn:=om;have hzi:¬(z:Int)<(z:Int):=om;clear hbw;go_wp2_with fail;go_ret;exact ⟨rfl,HBW.o⟩
open Stab
theorem KOk.same {w:World} {k k':KS} {x:Pkt} (h:KOk w k' x) (e1:Value.slice k.rp k.rn k.rc= .slice k'.rp k'.rn k'.rc) (e2:Value.slice k.vp k.vn k.vc= .slice k'.vp k'.vn k'.vc) (e3:Value.slice k.fp k.fn k.fc= .slice k'.fp k'.fn k'.fc) (e4:Value.slice k.mp k.mn k.mc= .slice k'.mp k'.mn k'.mc):KOk w k x:=
 ⟨by rw[e1];exact h.r,by rw[e2];exact h.v,by rw[e3];exact h.f,by rw[e4];exact h.m⟩
structure JobOk (p:Prg) (act:Int) (args:List Nat) (c:List Ist):Prop where
 len:∀i∈c,i.e.length<=6000
 may:aH p act c=true
 ar:0<=act->act<(p.acts.length:Int)->args.length=(p.acts.getD act.toNat ⟨[],[]⟩).params.length
section
variable {s:PgS} {p:Prg} {l:List Ent} {lp:Option Addr} {ln lc:Nat} {q:KS} {x:Pkt} {w:World} {act:Int} {args:List Nat} {gp:Option Addr} {gn gc:Nat} {c:List Ist} {cp:Option Addr} {cn cc:Nat}
theorem Seen.sm (h:Seen p l x x.port):Sm p:=Sm.of h.great
theorem Seen.psm (h:Seen p l x x.port):PktSm x:=PktSm.of (db.1 h.fits) h.sm (by have:=h.rest;omega)
theorem CP (hs:Seen p l x x.port) (ha:ApOk p l) (hj:JobOk p act args c) (hp:PgOk w s p) (hl:ERow w (.slice lp ln lc) l) (hc:IstRow w (.slice cp cn cc) c) {W:World} {X base:Nat} {r v f m:Value} {fs:List Value} (hb:Bl w W) (hbs:w.heap.size<=base) (hg:NRow W (.slice gp gn gc) args) (hga:∀b o,gp=some ⟨b,o,none⟩->¬PS X r v f m fs b) (hP:PktB base W X x r v f m fs):
 Calls Tryz.prog 8 #[cE s, .slice lp ln lc, .pointer (some ⟨X,0,none⟩), .slice cp cn cc, .slice gp gn gc] W fun e w'=>e= .returned (.tuple #[])/\PktB base w' X (eM p l act args c x) r v f m fs/\Fr (PS X r v f m fs) W w':=
 uS (w0:=w) (base:=base) ⟨hP,hb,hbs,db.1 hs.fits,⟨hs.p0,hs.p1⟩,hj.ar,hg,hga⟩ s lp ln lc (l:=l) hp (pk hs.may) hs.sm hl hc hj.len hj.may (fun _=>ha)
theorem CQ (hs:Seen p l x x.port) (ha:ApOk p l) (hj:JobOk p act args c) (hp:PgOk w s p) (hl:ERow w (.slice lp ln lc) l) (hc:IstRow w (.slice cp cn cc) c) (hq:KOk w q x) {W:World} (hb:Bl w W) (hg:NRow W (.slice gp gn gc) args):
 Calls Tryz.prog 10 #[cE s, .slice lp ln lc,kV q x.port x.dropped x.sent x.egress x.access, .slice cp cn cc, .slice gp gn gc] W fun e w'=>AnsY W q x w' (eM p l act args c x) e/\Bl W w':=by
 refine ow (act:=act) s p l lp ln lc q x c cp cn cc args gp gn gc W (hp.below hb) hs.sm (hl.below eN hb) (hq.below hb) (db.1 hs.fits) (by have:=hs.rest;omega) ⟨hs.p0,hs.p1⟩ (hc.below dP hb) hj.len hg hj.may (pk hs.may) (fun _=>ha) ?_ hj.ar;intro _ j q x c cp cn cc args gp gn gc W2 hb2 hq hx hr hpo hc hcl hg hm hjl har;exact ow (act:=(j:Int)) s p l lp ln lc q x c cp cn cc args gp gn gc W2 ((hp.below hb).below hb2) hs.sm ((hl.below eN hb).below eN hb2) hq hx hr hpo hc hcl hg hm (pk hs.may) (fun e=>absurd e om) (fun e=>absurd e om) (fun _ _=>by rw[Int.toNat_natCast];exact har)
theorem BT (hs:Seen p l x x.port) (ha:ApOk p l) (hj:JobOk p act args c):PktF p (eM p l act args c x)/\(eM p l act args c x).rest=x.rest:=by
 have hx:=db.1 hs.fits;by_cases h0:act<0
 ·have e:eM p l act args c x=wh p l args c x:=by unfold eM wh bu fN;rw[if_pos h0]
  rw[e];obtain ⟨h1,h2,-⟩:=wj (oD ha) l args hj.may x.egress hx (.inl rfl);exact ⟨h1,h2.rest⟩
 have e:eM p l act args c x=nB p args c x:=by unfold eM nB bu fN;rw[if_neg h0]
 rw[e];obtain ⟨h1,h2,-⟩:=qw args hj.may x.egress hx (.inl rfl);exact ⟨h1,h2.rest⟩
theorem BU (hs:Seen p l x x.port) {y:Pkt} (hy:PktF p y) (hr:y.rest=x.rest) {a b:KS} {W:World} (h1:KOk W a y) (h2:KOk W b y):
 Calls Tryz.prog 9 #[kV a y.port y.dropped y.sent y.egress y.access,kV b y.port y.dropped y.sent y.egress y.access] W fun e w'=>e= .returned (.bool true)/\Bl W w':=by
 have hm:PktSm y:=PktSm.of hy hs.sm (by rw[hr];have:=hs.rest;omega);exact m9 a b y _ _ _ _ _ W h1 h2 hm.f hm.fl hm.m (by rw[hy.v,hy.f];exact Nat.le_refl _)
end
end Go.Proofs.YtjfhfaodbjecdaaGreat
