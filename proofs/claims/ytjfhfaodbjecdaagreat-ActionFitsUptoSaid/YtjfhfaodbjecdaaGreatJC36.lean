/-
  Lemmas, joined: ActK, ActO, Does.
-/
import Derived.Test.YtjfhfaodbjecdaaGreatJC33
import Derived.Deep.QuietTactic
import Derived.BigQuiet
import Derived.Test.YtjfhfaodbjecdaaGreatJC35
import Derived.Test.YtjfhfaodbjecdaaGreatJC27
import Derived.Test.YtjfhfaodbjecdaaGreatJC29
import Derived.Deep.MidRow
set_option maxHeartbeats 6400000
set_option maxRecDepth 100000
namespace Go.Proofs.YtjfhfaodbjecdaaGreat
open Go.RowKit
section
variable {w0 w w':World} {base X:Nat} {p:Prg} {act:Int} {x y:Pkt} {r v f mm:Value} {fs:List Value} {args:List Nat} {gp:Option Addr} {gn gc:Nat}
theorem metaRA (h:RCtx w0 w base X p act x r v f mm fs args gp gn gc) (s:PgS) (lp:Option Addr) (ln lc:Nat) (wi:Bool) {i:Ist} {ep:Option Addr} {en ec:Nat} {wt:Int} (hp:PgOk w0 s p) (hw:widthP p act i.e=some wt) (hlen:i.e.length<=6000) (hc:CRow w0 (.slice ep en ec) i.e) (ha:0<=i.a/\i.a<(p.metas.length:Int)):
 Calls Tryz.prog 44 #[rnA s lp ln lc X gp gn gc wi,inA i ep en ec] w fun e w'=>e= .returned (.tuple #[])/\PktB base w' X ({ seen x i.e with metas:=x.metas.set i.a.toNat (evC x args i.e%2 ^ sh (p.metas.getD i.a.toNat 0)) }) r v f mm fs/\Fr (PS X r v f mm fs) w w':=by
 obtain ⟨n,hn⟩:∃n:Nat,i.a=(n:Int):=⟨i.a.toNat,by omega⟩;have hml:n<x.metas.length:=by rw[h.F.m];omega
 have hnl:n<p.metas.length:=by omega
 have hBB:evC x args i.e<B*B:=sh_ltBB (evC_width x args hw);obtain ⟨wb,wo,hps,hwb,z1⟩:=IRow.el hp.metas (j:=n) hnl;have HV:Hid (∀ W,Below w.heap.size w W->Calls Tryz.prog 49 #[rnA s lp ln lc X gp gn gc wi,inA i ep en ec] W fun e w'=>e= .returned (numV (evC x args i.e))/\PktB base w' X (seen x i.e) r v f mm fs/\Fr (·=X) W w'):=fun W hb=>rvalueA (h.below hb) s lp ln lc wi hw hlen hc
 have HPS:Hid (∀ k,PS X r v f mm fs k->k<w.heap.size/\k≠wb):=fun k hk=>⟨(h.lt hk).2,fun e=>by have:=(h.lt hk).1;omega⟩
 have hXl:=h.P.lt;have HZ:Hid (w.cell? ⟨wb,wo+n,none⟩=some (.int .i64 (p.metas.getD n 0))):=(h.low.cell (p:=⟨wb,wo+n,none⟩) hwb).trans z1;have HCU:Hid (∀ W,Calls Tryz.prog 69 #[numV (evC x args i.e), .int .i64 (p.metas.getD n 0)] W fun e w'=>e= .returned (numV (evC x args i.e%2 ^ sh (p.metas.getD n 0)))/\Below W.heap.size W w'):=fun W=>numCut_ret _ _ W hBB
 have HBB:Hid (evC x args i.e%2 ^ sh (p.metas.getD n 0)<B*B):=Nat.lt_of_le_of_lt (Nat.mod_le _ _) hBB;have e0:i.a.toNat=n:=by rw[hn];simp
 rw[e0];obtain ⟨Y,hY⟩:∃Y:Pkt,Y={ seen x i.e with metas:=x.metas.set n (evC x args i.e%2 ^ sh (p.metas.getD n 0)) }:=⟨_,rfl⟩;rw[<- hY];have HYX:=hD hY;have HML:Hid (n<x.metas.length):=hml;obtain ⟨mg,mc,hme,-⟩:∃g cap,mm= .slice (some ⟨g,0,none⟩) x.metas.length cap/\True:=by
  obtain ⟨g,cap,e,-⟩:=own_some h.P.hm.1 (by omega);exact ⟨g,cap,e,trivial⟩
 have HME:=hD hme;have HHP:=hD hps;have i1:(n:Int)<(x.metas.length:Int):=by omega
 have i2:(n:Int)<(s.mn:Int):=by have:=hp.metas.ln.1;omega
 have i0:¬(n:Int)<0:=by omega
 have i3:0<=(n:Int):=by omega
 generalize evC x args i.e=R at*;generalize p.metas.getD n 0=wd at*;generalize R%2 ^ sh wd=M at*;obtain ⟨y0,z0,he,-,-⟩:=numV_parts R;obtain ⟨y3,z3,he3,hey3,hez3⟩:=numV_parts M;have HE3:=hD (And.intro hey3 hez3);rw[he] at HV HCU;rw[he3] at HCU;have HNI:=hD hn;clear h hp hw hlen hc ha hml hnl hBB hps hwb z1 e0 hY hme he he3 hey3 hez3 hn;unfold rnA inA at HV;unfold rnA inA;go_enter Tryz.func44,Tryz.ntmps44;go_upto_region 1 with fail
 obtain ⟨W0,hW0⟩:∃W0,W0=(w.alloc (.cells #[.slice s.hp s.hn s.hc, .slice s.mp s.mn s.mc, .slice s.sp s.sn s.sc, .slice s.ap s.an s.ac, .slice s.tp s.tn s.tc, .slice s.cp s.cn s.cc, .slice s.ep s.en s.ec, .slice s.v1 s.n1 s.c1, .slice s.v2 s.n2 s.c2, .slice s.v3 s.n3 s.c3, .slice s.v4 s.n4 s.c4, .slice s.v5 s.n5 s.c5, .slice lp ln lc, .pointer (some ⟨X,0,none⟩), .slice gp gn gc, .bool wi] 72)).alloc (.cells #[.int .u8 i.k, .int .i64 i.a, .int .i64 i.b, .slice ep en ec, .int .i64 i.to] 75):=⟨_,rfl⟩;have HB0:Hid (Below w.heap.size w W0):=by show Below _ _ _;rw[hW0];exact (by repeat (first|exact Below.refl _ _|assumption|refine Below.drew ?_|refine blA ?_|refine blS ?_|refine blT ?_ (by assumption)))
 have HR0:Hid (RnBox W0 w.heap.size s lp ln lc X gp gn gc wi):=by show _=_;rw[hW0,Below.heap_alloc _ _ _ (by simp)];exact heap_new _ _
 have HI0:Hid (IBoxA W0 (w.heap.size+1) i ep en ec):=by
  show _=_;rw[hW0];have:=heap_new (w.alloc (.cells #[.slice s.hp s.hn s.hc, .slice s.mp s.mn s.mc, .slice s.sp s.sn s.sc, .slice s.ap s.an s.ac, .slice s.tp s.tn s.tc, .slice s.cp s.cn s.cc, .slice s.ep s.en s.ec, .slice s.v1 s.n1 s.c1, .slice s.v2 s.n2 s.c2, .slice s.v3 s.n3 s.c3, .slice s.v4 s.n4 s.c4, .slice s.v5 s.n5 s.c5, .slice lp ln lc, .pointer (some ⟨X,0,none⟩), .slice gp gn gc, .bool wi] 72)) (.cells #[.int .u8 i.k, .int .i64 i.a, .int .i64 i.b, .slice ep en ec, .int .i64 i.to] 75);simp only[World.size_alloc] at this;exact this
 have hsz:W0.heap.size=w.heap.size+1+1:=by rw[hW0];simp
 rw[<- hW0];clear hW0;obtain ⟨r0,r1,r2,r3,r4,r5,r6,r7,r8,r9,r10,r11,r12,r13,r14,r15⟩:=HR0.out.cells;obtain ⟨j0,j1,j2,j3,j4⟩:=HI0.out.cells;go_upto_region 2 with (go_at_call 49;refine (HV.out _ HB0.out).mono ?_;rintro e w1 ⟨rfl,hp1,hf1⟩;have HP1:=hD hp1;have HF1:=hD hf1;clear hp1 hf1)
 obtain ⟨W2,hW2⟩:∃W2,W2=w1.alloc (.cells #[.int .u64 (y0:Int), .int .u64 (z0:Int)] 60):=⟨_,rfl⟩;have HB2:Hid (Below w1.heap.size w1 W2):=by show Below _ _ _;rw[hW2];exact (Below.refl _ _).alloc (Nat.le_refl _) _
 have HX2:Hid (Bx2 W2 w1.heap.size (y0:Int) (z0:Int)):=by show _=_;rw[hW2];exact heap_new _ _
 rw[<- hW2];clear hW2;have HP2:Hid (PktB base W2 X (seen x i.e) r v f mm fs):=HP1.out.below HB2.out;have HR2:Hid (RnBox W2 w.heap.size s lp ln lc X gp gn gc wi):=(HB2.out.block _ (by have:=HF1.out.size;omega)).trans ((HF1.out.block _ (by omega) (by show ¬w.heap.size=X;omega)).trans HR0.out);have HI2:Hid (IBoxA W2 (w.heap.size+1) i ep en ec):=(HB2.out.block _ (by have:=HF1.out.size;omega)).trans ((HF1.out.block _ (by omega) (by show ¬w.heap.size+1=X;omega)).trans HI0.out);have HZ2:Hid (W2.cell? ⟨wb,wo+n,none⟩=some (.int .i64 wd)):=(HB2.out.cell (cell_there (HF1.out.cell (p:=⟨wb,wo+n,none⟩) (fun e=>(HPS.out X (.inl rfl)).2 (show wb=X from e).symm) ((HB0.out.cell (cell_there HZ.out).1).trans HZ.out))).1).trans (HF1.out.cell (p:=⟨wb,wo+n,none⟩) (fun e=>(HPS.out X (.inl rfl)).2 (show wb=X from e).symm) ((HB0.out.cell (cell_there HZ.out).1).trans HZ.out));have HF2:Hid (Fr (·=X) w W2):=((Fr.of_below HB0.out).trans HF1.out).trans (Fr.of_below HB2.out);have hgb:w.heap.size+1<w1.heap.size:=by have:=HF1.out.size;omega
 generalize w1.heap.size=gb at*;clear HP1 HF1 HB2 HR0 HI0 HB0 hsz r0 r1 r2 r3 r4 r5 r6 r7 r8 r9 r10 r11 r12 r13 r14 r15 j0 j1 j2 j3 j4;obtain ⟨-,r1,-,-,-,-,-,-,-,-,-,-,-,r13,-,-⟩:=HR2.out.cells;obtain ⟨-,j1,-,-,-⟩:=HI2.out.cells;rw[HNI.out] at j1;have c4:=HP2.out.cell (i:=4) rfl;rw[HME.out] at c4;go_quiet (fail);go_upto_region 3 with fail
 obtain ⟨W3,hW3⟩:∃W3,W3=W2.drewN nq:=⟨_,rfl⟩;have HB3:Hid (Below W2.heap.size W2 W3):=by show Below _ _ _;rw[hW3];exact below_drewN (Below.refl _ _) nq
 rw[<- hW3];clear hW3;have HP3:Hid (PktB base W3 X (seen x i.e) r v f mm fs):=HP2.out.below HB3.out;have HF3:Hid (Fr (·=X) w W3):=HF2.out.trans (Fr.of_below HB3.out);obtain ⟨b0,b1,-,-⟩:=HX2.out.cells;have HQ:Hid (W3.cell? ⟨w.heap.size,13,none⟩=some (.pointer (some ⟨X,0,none⟩))/\W3.cell? ⟨w.heap.size,1,none⟩=some (.slice (some ⟨wb,wo,none⟩) s.mn s.mc)/\W3.cell? ⟨w.heap.size+1,1,none⟩=some (.int .i64 (n:Int))/\W3.cell? ⟨gb,0,none⟩=some (.int .u64 (y0:Int))/\W3.cell? ⟨gb,1,none⟩=some (.int .u64 (z0:Int))/\W3.cell? ⟨wb,wo+n,none⟩=some (.int .i64 wd)):=by
  rw[HHP.out] at r1;have kp:∀(q:Addr) (u:Value),W2.cell? q=some u->W3.cell? q=some u:=fun q u e=>(HB3.out.cell (cell_there e).1).trans e
  exact ⟨kp _ _ r13,kp _ _ r1,kp _ _ j1,kp _ _ b0,kp _ _ b1,kp _ _ HZ2.out⟩
 have HNS:Hid (∀ k,PS X r v f mm fs k->k<w.heap.size/\k≠wb):=HPS;have HCW:Hid (∀ W,Calls Tryz.prog 69 #[.agg #[.int .u64 (y0:Int), .int .u64 (z0:Int)], .int .i64 wd] W fun e w'=>e= .returned (.agg #[.int .u64 (y3:Int), .int .u64 (z3:Int)])/\PR base X (seen x i.e) Y r v f mm fs W w'):=fun W=>(HCU.out W).mono fun e w' h=>⟨h.1,PR.of_below h.2⟩
 clear r1 r13 j1 c4 b0 b1 HR2 HI2 HZ2 HX2 HP2 HF2;refine OutR.region_outR (PR base X (seen x i.e) Y r v f mm fs) (PR.refl _ _ _ _ _ _ _ _ _) (by kernel_rfl) (PQ base X (seen x i.e) Y r v f mm fs W3) (fun _ _ h hr=>h.step hr) (by kernel_rfl) (PQ.start HP3.out) ?_;refine OutR.stq ?_ (fun aa ww ll hh=>?_) ?_;rotate_left
 ·have e2:=hh.oL 2;exact OutR.ov (PR.refl _ _ _ _ _ _ _ _ _) gX
 refine OutR.stq ?_ (fun aa ww ll hh=>?_) ?_;rotate_left
 ·have e31:=hh.gt 0 0;have hI:=hh.inv;have r13:=hI.cell (p:=⟨w.heap.size,13,none⟩) (fun e=>by have h0:=(HNS.out _ e).1;simp only at h0;omega) HQ.out.1;have r1:=hI.cell (p:=⟨w.heap.size,1,none⟩) (fun e=>by have h0:=(HNS.out _ e).1;simp only at h0;omega) HQ.out.2.1;have j1:=hI.cell (p:=⟨w.heap.size+1,1,none⟩) (fun e=>by have h0:=(HNS.out _ e).1;simp only at h0;omega) HQ.out.2.2.1;have b0:=hI.cell (p:=⟨gb,0,none⟩) (fun e=>by have h0:=(HNS.out _ e).1;simp only at h0;omega) HQ.out.2.2.2.1;have b1:=hI.cell (p:=⟨gb,1,none⟩) (fun e=>by have h0:=(HNS.out _ e).1;simp only at h0;omega) HQ.out.2.2.2.2.1;have d1:=hI.cell (p:=⟨wb,wo+n,none⟩) (fun e=>(HNS.out _ e).2 rfl) HQ.out.2.2.2.2.2;have c4:=hI.c4;rw[HME.out] at c4;clear hI;exact OutR.ov (PR.refl _ _ _ _ _ _ _ _ _) gX
 refine OutR.stq ?_ (fun aa ww ll hh=>?_) ?_;rotate_left
 ·have e32:=hh.gt 1 0;exact OutR.ov (PR.refl _ _ _ _ _ _ _ _ _) gX
 refine OutR.stq ?_ (fun aa ww ll hh=>?_) ?_;rotate_left
 ·have e33:=hh.gt 2 0;exact OutR.ov (PR.refl _ _ _ _ _ _ _ _ _) gX
 refine OutR.stq ?_ (fun aa ww ll hh=>?_) ?_;rotate_left
 ·have e34:=hh.gt 3 0;have hI:=hh.inv;have r13:=hI.cell (p:=⟨w.heap.size,13,none⟩) (fun e=>by have h0:=(HNS.out _ e).1;simp only at h0;omega) HQ.out.1;have r1:=hI.cell (p:=⟨w.heap.size,1,none⟩) (fun e=>by have h0:=(HNS.out _ e).1;simp only at h0;omega) HQ.out.2.1;have j1:=hI.cell (p:=⟨w.heap.size+1,1,none⟩) (fun e=>by have h0:=(HNS.out _ e).1;simp only at h0;omega) HQ.out.2.2.1;have b0:=hI.cell (p:=⟨gb,0,none⟩) (fun e=>by have h0:=(HNS.out _ e).1;simp only at h0;omega) HQ.out.2.2.2.1;have b1:=hI.cell (p:=⟨gb,1,none⟩) (fun e=>by have h0:=(HNS.out _ e).1;simp only at h0;omega) HQ.out.2.2.2.2.1;have d1:=hI.cell (p:=⟨wb,wo+n,none⟩) (fun e=>(HNS.out _ e).2 rfl) HQ.out.2.2.2.2.2;have c4:=hI.c4;rw[HME.out] at c4;clear hI;exact OutR.ov (PR.refl _ _ _ _ _ _ _ _ _) gX
 refine OutR.stq ?_ (fun aa ww ll hh=>?_) ?_;rotate_left
 ·have e3:=hh.oL 3;exact OutR.ov (PR.refl _ _ _ _ _ _ _ _ _) gX
 refine OutR.stq ?_ (fun aa ww ll hh=>?_) ?_;rotate_left
 ·have e36:=hh.gt 5 0;have hI:=hh.inv;have r13:=hI.cell (p:=⟨w.heap.size,13,none⟩) (fun e=>by have h0:=(HNS.out _ e).1;simp only at h0;omega) HQ.out.1;have r1:=hI.cell (p:=⟨w.heap.size,1,none⟩) (fun e=>by have h0:=(HNS.out _ e).1;simp only at h0;omega) HQ.out.2.1;have j1:=hI.cell (p:=⟨w.heap.size+1,1,none⟩) (fun e=>by have h0:=(HNS.out _ e).1;simp only at h0;omega) HQ.out.2.2.1;have b0:=hI.cell (p:=⟨gb,0,none⟩) (fun e=>by have h0:=(HNS.out _ e).1;simp only at h0;omega) HQ.out.2.2.2.1;have b1:=hI.cell (p:=⟨gb,1,none⟩) (fun e=>by have h0:=(HNS.out _ e).1;simp only at h0;omega) HQ.out.2.2.2.2.1;have d1:=hI.cell (p:=⟨wb,wo+n,none⟩) (fun e=>(HNS.out _ e).2 rfl) HQ.out.2.2.2.2.2;have c4:=hI.c4;rw[HME.out] at c4;clear hI;exact OutR.ov (PR.refl _ _ _ _ _ _ _ _ _) gX
 refine OutR.stq ?_ (fun aa ww ll hh=>?_) ?_;rotate_left
 ·have e4:=hh.oL 4;have hI:=hh.inv;have r13:=hI.cell (p:=⟨w.heap.size,13,none⟩) (fun e=>by have h0:=(HNS.out _ e).1;simp only at h0;omega) HQ.out.1;have r1:=hI.cell (p:=⟨w.heap.size,1,none⟩) (fun e=>by have h0:=(HNS.out _ e).1;simp only at h0;omega) HQ.out.2.1;have j1:=hI.cell (p:=⟨w.heap.size+1,1,none⟩) (fun e=>by have h0:=(HNS.out _ e).1;simp only at h0;omega) HQ.out.2.2.1;have b0:=hI.cell (p:=⟨gb,0,none⟩) (fun e=>by have h0:=(HNS.out _ e).1;simp only at h0;omega) HQ.out.2.2.2.1;have b1:=hI.cell (p:=⟨gb,1,none⟩) (fun e=>by have h0:=(HNS.out _ e).1;simp only at h0;omega) HQ.out.2.2.2.2.1;have d1:=hI.cell (p:=⟨wb,wo+n,none⟩) (fun e=>(HNS.out _ e).2 rfl) HQ.out.2.2.2.2.2;have c4:=hI.c4;rw[HME.out] at c4;clear hI;exact OutR.ov (PR.refl _ _ _ _ _ _ _ _ _) gX
 refine OutR.stq ?_ (fun aa ww ll hh=>?_) ?_;rotate_left
 ·have e2:=hh.oL 2;exact OutR.ov (PR.refl _ _ _ _ _ _ _ _ _) gX
 refine OutR.stq ?_ (fun aa ww ll hh=>?_) ?_;rotate_left
 ·have e39:=hh.gt 8 0;exact OutR.ov (PR.refl _ _ _ _ _ _ _ _ _) gX
 refine OutR.stq ?_ (fun aa ww ll hh=>?_) ?_;rotate_left
 ·have e40:=hh.gt 9 0;have hI:=hh.inv;have r13:=hI.cell (p:=⟨w.heap.size,13,none⟩) (fun e=>by have h0:=(HNS.out _ e).1;simp only at h0;omega) HQ.out.1;have r1:=hI.cell (p:=⟨w.heap.size,1,none⟩) (fun e=>by have h0:=(HNS.out _ e).1;simp only at h0;omega) HQ.out.2.1;have j1:=hI.cell (p:=⟨w.heap.size+1,1,none⟩) (fun e=>by have h0:=(HNS.out _ e).1;simp only at h0;omega) HQ.out.2.2.1;have b0:=hI.cell (p:=⟨gb,0,none⟩) (fun e=>by have h0:=(HNS.out _ e).1;simp only at h0;omega) HQ.out.2.2.2.1;have b1:=hI.cell (p:=⟨gb,1,none⟩) (fun e=>by have h0:=(HNS.out _ e).1;simp only at h0;omega) HQ.out.2.2.2.2.1;have d1:=hI.cell (p:=⟨wb,wo+n,none⟩) (fun e=>(HNS.out _ e).2 rfl) HQ.out.2.2.2.2.2;have c4:=hI.c4;rw[HME.out] at c4;clear hI;exact OutR.ov (PR.refl _ _ _ _ _ _ _ _ _) gX
 refine OutR.stq ?_ (fun aa ww ll hh=>?_) ?_;rotate_left
 ·have e3:=hh.oL 3;exact OutR.ov (PR.refl _ _ _ _ _ _ _ _ _) gX
 refine OutR.stq ?_ (fun aa ww ll hh=>?_) ?_;rotate_left
 ·have e42:=hh.gt 11 0;have hI:=hh.inv;have r13:=hI.cell (p:=⟨w.heap.size,13,none⟩) (fun e=>by have h0:=(HNS.out _ e).1;simp only at h0;omega) HQ.out.1;have r1:=hI.cell (p:=⟨w.heap.size,1,none⟩) (fun e=>by have h0:=(HNS.out _ e).1;simp only at h0;omega) HQ.out.2.1;have j1:=hI.cell (p:=⟨w.heap.size+1,1,none⟩) (fun e=>by have h0:=(HNS.out _ e).1;simp only at h0;omega) HQ.out.2.2.1;have b0:=hI.cell (p:=⟨gb,0,none⟩) (fun e=>by have h0:=(HNS.out _ e).1;simp only at h0;omega) HQ.out.2.2.2.1;have b1:=hI.cell (p:=⟨gb,1,none⟩) (fun e=>by have h0:=(HNS.out _ e).1;simp only at h0;omega) HQ.out.2.2.2.2.1;have d1:=hI.cell (p:=⟨wb,wo+n,none⟩) (fun e=>(HNS.out _ e).2 rfl) HQ.out.2.2.2.2.2;have c4:=hI.c4;rw[HME.out] at c4;clear hI;exact OutR.ov (PR.refl _ _ _ _ _ _ _ _ _) gX
 refine OutR.stq ?_ (fun aa ww ll hh=>?_) ?_;rotate_left
 ·have e41:=hh.gt 10 2;have e43:=hh.gt 12 0;exact OutR.ov (PR.refl _ _ _ _ _ _ _ _ _) gX
 refine OutR.stq ?_ (fun aa ww ll hh=>?_) ?_;rotate_left
 ·have e44:=hh.gt 13 0;have hI:=hh.inv;have r13:=hI.cell (p:=⟨w.heap.size,13,none⟩) (fun e=>by have h0:=(HNS.out _ e).1;simp only at h0;omega) HQ.out.1;have r1:=hI.cell (p:=⟨w.heap.size,1,none⟩) (fun e=>by have h0:=(HNS.out _ e).1;simp only at h0;omega) HQ.out.2.1;have j1:=hI.cell (p:=⟨w.heap.size+1,1,none⟩) (fun e=>by have h0:=(HNS.out _ e).1;simp only at h0;omega) HQ.out.2.2.1;have b0:=hI.cell (p:=⟨gb,0,none⟩) (fun e=>by have h0:=(HNS.out _ e).1;simp only at h0;omega) HQ.out.2.2.2.1;have b1:=hI.cell (p:=⟨gb,1,none⟩) (fun e=>by have h0:=(HNS.out _ e).1;simp only at h0;omega) HQ.out.2.2.2.2.1;have d1:=hI.cell (p:=⟨wb,wo+n,none⟩) (fun e=>(HNS.out _ e).2 rfl) HQ.out.2.2.2.2.2;have c4:=hI.c4;rw[HME.out] at c4;clear hI;exact OutR.ov (PR.refl _ _ _ _ _ _ _ _ _) gX
 refine ⟨.eq (.agg #[.int .u64 (y3:Int), .int .u64 (z3:Int)]),trivial,rfl,fun aa ww ll hh=>?_,?_⟩
 ·have e38:=hh.gt 7 7;have e45:=hh.gt 14 0;have ef:=evf aa;refine OutR.out_call_eq (wanted_none rfl) ?_ (HCW.out ww);exact gX
 refine OutR.stq ?_ (fun aa ww ll hh=>?_) ?_;rotate_left
 ·have e35:=hh.gt 4 11;have e37:=hh.gt 6 9;exact OutR.ov (PR.refl _ _ _ _ _ _ _ _ _) gX
 refine ⟨.rel (fun W _=>PktB base W X Y r v f mm fs),(fun W W' v h hr=>hr.is h),rfl,fun aa ww ll hh=>?_,?_⟩
 ·have e47:=hh.gt 16 0;have e46:=hh.gt 15 1;obtain ⟨fz,⟨o0,k0⟩,⟨o1,k1⟩,hpr,hpk⟩:=hh.inv.meta' HYX.out HME.out HML.out HBB.out;have fz0:=fz (n*2);have fz1:=fz (n*2+1);rw[<- HE3.out.1, <-HE3.out.2] at hpr hpk;refine OutR.out_store (wanted_none rfl) ?_ hpr hpk;try clear fz;exact gX
 intro ll w9 hS3 hok;have p17:=hok 17 _ rfl;clear hok;simp only[List.reverse_cons,List.reverse_nil,List.nil_append,List.cons_append,OutR.layO,OutR.Out.val,Act.put,List.setIfInBounds_toArray,List.set_cons_zero,List.set_cons_succ]
 first|go_wp2_with fail|skip
 go_end0;exact ⟨rfl,p17,HF3.out.ps.trans hS3.fr⟩
end
open Go.RowKit Stab
theorem bodies_of {p:Prg} {l:List Ent} (h:ApOk p l):BodiesMay p:=by
 intro j x hj;have hlt:=(List.getElem?_eq_some_iff.1 hj).1;have e:actAt p (j:Int)=x:=by unfold actAt;rw[Int.toNat_natCast,List.getD_eq_getElem?_getD,hj];rfl
 have:=(h.body j hlt).1
 rwa [e] at this
theorem doI_ok {p:Prg} {l:List Ent} {act:Int} {y:Pkt} {i:Ist} (args:List Nat) (hF:PktF p y) (hi:MayI p act i) (hao:act<0->ApOk p l):PktF p (doI p (apF p l act) args y i)/\(doI p (apF p l act) args y i).port=y.port:=by
 unfold doI;by_cases hk:i.k=3
 ·rw[if_pos hk];obtain ⟨w,hw,-⟩:=mayI_code hi;have ha:=(instW_apply hw hk).1;unfold apF;rw[if_pos ha];have h:=applyP_all (bodies_of (hao ha)) l (i:=i) y.egress hF (.inl rfl);exact ⟨h.1,h.2.1.port⟩
 ·rw[if_neg hk];have h:=execB_all args hF hi y.egress (.inl rfl);exact ⟨h.1,h.2.1.port⟩
section
variable {w0 w w':World} {base X:Nat} {p:Prg} {act:Int} {x y:Pkt} {r v f mm:Value} {fs:List Value} {args:List Nat} {gp:Option Addr} {gn gc:Nat}
structure InsOk (w0:World) (p:Prg) (act:Int) (i:Ist) (ep:Option Addr) (en ec:Nat):Prop where
 may:MayI p act i
 len:i.e.length<=6000
 code:CRow w0 (.slice ep en ec) i.e
theorem InsOk.width {i:Ist} {ep:Option Addr} {en ec:Nat} (h:InsOk w0 p act i ep en ec) (hk:i.k=1\/i.k=2\/i.k=5\/i.k=7) (hW:WPos p):∃wt,instW p act i=some wt/\widthP p act i.e=some wt:=by
 obtain ⟨wt,h1,h2⟩:=mayI_code h.may;refine ⟨wt,h1,?_⟩;rcases h2 with ⟨h2,-⟩|⟨-,h2⟩
 ·exfalso;rcases hk with hk|hk|hk|hk
  ·obtain ⟨q1,q2,q3,q4,q5⟩:=instW_set h1 hk;have:=hW.at (i:=i.a.toNat) (j:=i.b.toNat) (by omega) (by omega);omega
  ·obtain ⟨q1,q2,q3,q4⟩:=instW_meta h1 hk;have:=hW.metas (p.metas.getD i.a.toNat 0) (List.mem_of_getElem? (some_getD (l:=p.metas) (j:=i.a.toNat) 0 (by omega)));omega
  ·have:=instW_fwd h1 hk;omega
  ·rcases instW_rest h1 (by omega) (by omega) (by omega) (by omega) with ⟨h,q⟩|⟨h,q⟩|⟨h,q⟩|⟨h,q⟩<;>omega
 ·exact h2
theorem doSet (h:RCtx w0 w base X p act x r v f mm fs args gp gn gc) (s:PgS) (lp:Option Addr) (ln lc:Nat) (wi:Bool) {i:Ist} {ep:Option Addr} {en ec:Nat} (ap:Pkt->Ist->Pkt) (hp:PgOk w0 s p) (hW:WPos p) (hi:InsOk w0 p act i ep en ec) (hk:i.k=1):
 Calls Tryz.prog 43 #[rnA s lp ln lc X gp gn gc wi,inA i ep en ec] w fun e w'=>e= .returned (.tuple #[])/\PktB base w' X (doI p ap args x i) r v f mm fs/\Fr (PS X r v f mm fs) w w':=by
 obtain ⟨wt,h1,h2⟩:=hi.width (.inl hk) hW;obtain ⟨q1,q2,q3,q4,-⟩:=instW_set h1 hk;have e:doI p ap args x i=setF p (seen x i.e) i.a i.b (evC x args i.e):=by
  unfold doI execB;rw[if_neg (by omega),if_pos hk]
 rw[e];exact setRA h s lp ln lc wi hp h2 hi.len hi.code ⟨q1,q2,q3,q4⟩
theorem doMeta (h:RCtx w0 w base X p act x r v f mm fs args gp gn gc) (s:PgS) (lp:Option Addr) (ln lc:Nat) (wi:Bool) {i:Ist} {ep:Option Addr} {en ec:Nat} (ap:Pkt->Ist->Pkt) (hp:PgOk w0 s p) (hW:WPos p) (hi:InsOk w0 p act i ep en ec) (hk:i.k=2):
 Calls Tryz.prog 44 #[rnA s lp ln lc X gp gn gc wi,inA i ep en ec] w fun e w'=>e= .returned (.tuple #[])/\PktB base w' X (doI p ap args x i) r v f mm fs/\Fr (PS X r v f mm fs) w w':=by
 obtain ⟨wt,h1,h2⟩:=hi.width (.inr (.inl hk)) hW;obtain ⟨q1,q2,-,-⟩:=instW_meta h1 hk;have e:doI p ap args x i={ seen x i.e with metas:=x.metas.set i.a.toNat (evC x args i.e%2 ^ sh (p.metas.getD i.a.toNat 0)) }:=by
  unfold doI execB;rw[if_neg (by omega),if_neg (by omega),if_pos hk]
 rw[e];exact metaRA h s lp ln lc wi hp h2 hi.len hi.code ⟨q1,q2⟩
theorem doDrop (h:RCtx w0 w base X p act x r v f mm fs args gp gn gc) (s:PgS) (lp:Option Addr) (ln lc:Nat) (wi:Bool) {i:Ist} {ep:Option Addr} {en ec:Nat} (ap:Pkt->Ist->Pkt) (hk:i.k=4):
 Calls Tryz.prog 46 #[rnA s lp ln lc X gp gn gc wi,inA i ep en ec] w fun e w'=>e= .returned (.tuple #[])/\PktB base w' X (doI p ap args x i) r v f mm fs/\Fr (PS X r v f mm fs) w w':=by
 have e:doI p ap args x i={ x with dropped:=true }:=by
  unfold doI execB;rw[if_neg (by omega),if_neg (by omega),if_neg (by omega),if_pos hk]
 rw[e];exact dropA h s lp ln lc wi
theorem doForward (h:RCtx w0 w base X p act x r v f mm fs args gp gn gc) (s:PgS) (lp:Option Addr) (ln lc:Nat) (wi:Bool) {i:Ist} {ep:Option Addr} {en ec:Nat} (ap:Pkt->Ist->Pkt) (hW:WPos p) (hi:InsOk w0 p act i ep en ec) (hk:i.k=5):
 Calls Tryz.prog 47 #[rnA s lp ln lc X gp gn gc wi,inA i ep en ec] w fun e w'=>e= .returned (.tuple #[])/\PktB base w' X (doI p ap args x i) r v f mm fs/\Fr (PS X r v f mm fs) w w':=by
 obtain ⟨wt,h1,h2⟩:=hi.width (.inr (.inr (.inl hk))) hW;have hw9:=instW_fwd h1 hk;subst hw9;have e:doI p ap args x i={ seen x i.e with egress:=((evC x args i.e:Nat):Int),sent:=true,dropped:=false }:=by
  unfold doI execB;rw[if_neg (by omega),if_neg (by omega),if_neg (by omega),if_neg (by omega),if_pos hk]
 rw[e];exact forwardRA h s lp ln lc wi h2 hi.len hi.code
theorem doValid (h:RCtx w0 w base X p act x r v f mm fs args gp gn gc) (s:PgS) (lp:Option Addr) (ln lc:Nat) (wi:Bool) {i:Ist} {ep:Option Addr} {en ec:Nat} (ap:Pkt->Ist->Pkt) (hi:InsOk w0 p act i ep en ec) (hk:i.k=6):
 Calls Tryz.prog 48 #[rnA s lp ln lc X gp gn gc wi,inA i ep en ec] w fun e w'=>e= .returned (.tuple #[])/\PktB base w' X (doI p ap args x i) r v f mm fs/\Fr (PS X r v f mm fs) w w':=by
 obtain ⟨wt,h1,-⟩:=mayI_code hi.may;obtain ⟨q1,q2,-,-⟩:=instW_valid h1 hk;have e:doI p ap args x i=validF x i.a (decide (i.b=1)):=by
  unfold doI execB;rw[if_neg (by omega),if_neg (by omega),if_neg (by omega),if_neg (by omega),if_neg (by omega),if_pos hk]
 rw[e];exact validRA h s lp ln lc wi ⟨q1,q2⟩
theorem doApply (h:RCtx w0 w base X p act x r v f mm fs args gp gn gc) (s:PgS) (lp:Option Addr) (ln lc:Nat) (wi:Bool) {l:List Ent} {i:Ist} {ep:Option Addr} {en ec:Nat} (hp:PgOk w0 s p) (hl:ERow w0 (.slice lp ln lc) l) (hSm:Sm p) (hwi:act<0->wi=false) (hao:act<0->ApOk p l) (hrun:act<0->RunsIn w0 base X p s lp ln lc l r v f mm fs) (hi:InsOk w0 p act i ep en ec) (hk:i.k=3):
 Calls Tryz.prog 45 #[rnA s lp ln lc X gp gn gc wi,inA i ep en ec] w fun e w'=>e= .returned (.tuple #[])/\PktB base w' X (doI p (apF p l act) args x i) r v f mm fs/\Fr (PS X r v f mm fs) w w':=by
 obtain ⟨wt,h1,-⟩:=mayI_code hi.may;obtain ⟨q0,q1,q2,-⟩:=instW_apply h1 hk;have e:doI p (apF p l act) args x i=applyP p l x i:=by
  unfold doI apF;rw[if_pos hk,if_pos q0]
 rw[e,hwi q0];exact applyRA h s lp ln lc hp hl (hao q0) hSm ⟨q1,q2⟩ (hrun q0)
end
open Go.RowKit Go.Maps
def mfV (f:Nat) (r:Value):Value:= .func (Fn.func f) #[r] #[]
def doesM (r:Value):List (Int×Value):=[(1,mfV 43 r),(2,mfV 44 r),(3,mfV 45 r),(4,mfV 46 r),(5,mfV 47 r),(6,mfV 48 r)]
section
variable {P:Program} {ops:Array Oper} {Q:Exit->Act->World->Prop} {a:Act} {w:World} {rest:List Oper} {o:Oper}
theorem wpl_val {v:Value} {w':World} (hg:o.guard=none) (hrun:(execOp a.eval o).run P w= .ok (.value v) w') (h:wpList P ops Q rest (a.put o.dst v) w'):wpList P ops Q (o::rest) a w:=
 wpList_plain hg fun K hK=>by unfold Oper.wp;rw[hrun];exact hK _ _ h
theorem put_eval (a:Act) (i j:Nat) (v:Value) (hi:i<a.tmps.size):(a.put (some i) v).eval (.tmp j)=if i=j then v else a.eval (.tmp j):=by
 show (a.tmps.setIfInBounds i v).getD j undef=if i=j then v else a.tmps.getD j undef
 rw[Array.getD_eq_getD_getElem?,Array.getD_eq_getD_getElem?,Array.getElem?_setIfInBounds];by_cases h:i=j
 ·rw[if_pos h,if_pos h,if_pos hi];rfl
 ·rw[if_neg h,if_neg h]
theorem putZ (a:Act) (d:Option Nat) (v:Value):(a.put d v).tmps.size=a.tmps.size:=by
 cases d<;>simp[Act.put]
theorem putD (a:Act) (d:Option Nat) (v:Value):(a.put d v).defers=a.defers:=by
 cases d<;>simp[Act.put]
end
structure FrA (a:Act) (m rb:Nat) (cv:Value):Prop where
 size:a.tmps.size=65
 dfr:a.defers=[]
 s1:a.eval (.tmp 1)=cv
 s2:a.eval (.tmp 2)= .pointer (some ⟨rb,0,none⟩)
 s10:a.eval (.tmp 10)= .map (some m)
theorem FrA.put {a:Act} {m rb:Nat} {cv:Value} (h:FrA a m rb cv) (s:Nat) (v:Value) (hs:10<s) (hs2:s<65):FrA (a.put (some s) v) m rb cv:=by
 have hsz:s<a.tmps.size:=by rw[h.size];exact hs2
 exact ⟨(putZ ..).trans h.size,(putD ..).trans h.dfr,by rw[put_eval _ _ _ _ hsz,if_neg (by omega),h.s1],by rw[put_eval _ _ _ _ hsz,if_neg (by omega),h.s2],by rw[put_eval _ _ _ _ hsz,if_neg (by omega),h.s10]⟩
theorem bind3 {ops:Array Oper} {Q:Exit->Act->World->Prop} {a:Act} {w:World} {rest:List Oper} {o1 o2 o3:Oper} {m rb:Nat} {cv R:Value} {es:List (Int×Value)} (f s1 s2:Nat) (key:Int)
 (g1:o1.guard=none) (g2:o2.guard=none) (g3:o3.guard=none)
 (p1:o1.op= .load 72 (.tmp 2)) (d1:o1.dst=some s1) (p2:o2.op= .makeFunc (Fn.func f) #[.tmp s1] #[]) (d2:o2.dst=some s2)
 (p3:o3.op= .insert 108 (.tmp 10) (.const (.int .u8 key)) (.tmp s2)) (d3:o3.dst=none)
 (hs1:10<s1) (hs1':s1<65) (hs2:10<s2) (hs2':s2<65) (hF:FrA a m rb cv)
 (hL:(Instr.loadAt 72 (.pointer (some ⟨rb,0,none⟩))).run Tryz.prog w= .ok R w) (hU:UMap w m es) (hw:(Lit.int .u8 key).wf=true) (hn:∀p∈es,p.1≠key)
 (hK:∀a' w',FrA a' m rb cv->UMap w' m (es++[(key,mfV f R)])->w.grownBy w' (some m)->wpList Tryz.prog ops Q rest a' w'):wpList Tryz.prog ops Q (o1::o2::o3::rest) a w:=by
 have z1:s1<a.tmps.size:=by rw[hF.size];exact hs1'
 refine wpl_val (v:=R) (w':=w) g1 (by simp[execOp,p1,hF.s2,hL,Sem.run_bind,Result.andThen]) ?_;rw[d1];have F1:=hF.put s1 R hs1 hs1';have e1:(a.put (some s1) R).eval (.tmp s1)=R:=by rw[put_eval _ _ _ _ z1,if_pos rfl]
 refine wpl_val (v:=mfV f R) (w':=w) g2 (by simp[execOp,p2,e1,run_mkFunc,Sem.run_bind,Result.andThen,mfV]) ?_;rw[d2];have F2:=F1.put s2 (mfV f R) hs2 hs2';have e2:((a.put (some s1) R).put (some s2) (mfV f R)).eval (.tmp s2)=mfV f R:=by rw[put_eval _ _ _ _ (by rw[F1.size];exact hs2'),if_pos rfl]
 refine wpList_put (k:=5) (e:=107) g3 _ _ _ p3 Tryz.underlying5 Tryz.underlying108 F2.s10 hU key rfl (mfV f R) e2 hw hn fun w' h1 h2=>?_
 rw[d3];exact hK _ _ F2 h1 h2
theorem does_region (a:Act) (rb:Nat) (cv R:Value) (W:World) (Q:Exit->Act->World->Prop) (hsz:a.tmps.size=65) (hd:a.defers=[]) (h1:a.eval (.tmp 1)=cv) (h2:a.eval (.tmp 2)= .pointer (some ⟨rb,0,none⟩))
 (HL:∀V,Below W.heap.size W V->(Instr.loadAt 72 (.pointer (some ⟨rb,0,none⟩))).run Tryz.prog V= .ok R V)
 (hexit:∀a' w',a'.tmps.size=65->a'.defers=[]->a'.eval (.tmp 1)=cv->a'.eval (.tmp 2)= .pointer (some ⟨rb,0,none⟩)->a'.eval (.tmp 4)= .map (some W.heap.size)->UMap w' W.heap.size (doesM R)->Below W.heap.size W w'->Q .normal a' w'):
 Code.wp Tryz.prog ((Tryz.f21.body.bind (findRegion 1)).getD .skip) Q a W:=by
 conv=>arg 2;whnf
 refine wp_region_lit ?_;refine wpl_val (v:= .map (some W.heap.size)) (w':=W.alloc (.map #[] 0)) rfl (by simp[execOp,run_makeMap,Sem.run_bind,Result.andThen]) ?_;have z10:10<a.tmps.size:=by omega
 have F:FrA (a.put (some 10) (.map (some W.heap.size))) W.heap.size rb cv:=⟨(putZ ..).trans hsz,(putD ..).trans hd,by rw[put_eval _ _ _ _ z10,if_neg (by omega),h1],by rw[put_eval _ _ _ _ z10,if_neg (by omega),h2],by rw[put_eval _ _ _ _ z10,if_pos rfl]⟩;have hU:=UMap.empty (W.alloc (.map #[] 0)) W.heap.size (heap_new W _);have hB:Below W.heap.size W (W.alloc (.map #[] 0)):=(Below.refl _ _).alloc (Nat.le_refl _) _;generalize a.put (some 10) (.map (some W.heap.size))=a1 at F⊢;show wpList _ _ _ _ a1 _;generalize W.alloc (.map #[] 0)=W1 at hU hB⊢;clear hsz hd h1 h2 z10;refine bind3 43 11 12 1 rfl rfl rfl rfl rfl rfl rfl rfl rfl (by decide) (by decide) (by decide) (by decide) F (HL _ hB) hU rfl (by simp) ?_;intro a2 W2 F2 U2 g2;have B2:=hB.grown g2 hB.size (fun k e=>by cases e;exact Nat.le_refl _);refine bind3 44 13 14 2 rfl rfl rfl rfl rfl rfl rfl rfl rfl (by decide) (by decide) (by decide) (by decide) F2 (HL _ B2) U2 rfl (by simp) ?_;intro a3 W3 F3 U3 g3;have B3:=B2.grown g3 B2.size (fun k e=>by cases e;exact Nat.le_refl _);refine bind3 45 15 16 3 rfl rfl rfl rfl rfl rfl rfl rfl rfl (by decide) (by decide) (by decide) (by decide) F3 (HL _ B3) U3 rfl (by simp) ?_;intro a4 W4 F4 U4 g4;have B4:=B3.grown g4 B3.size (fun k e=>by cases e;exact Nat.le_refl _);refine bind3 46 17 18 4 rfl rfl rfl rfl rfl rfl rfl rfl rfl (by decide) (by decide) (by decide) (by decide) F4 (HL _ B4) U4 rfl (by simp) ?_;intro a5 W5 F5 U5 g5;have B5:=B4.grown g5 B4.size (fun k e=>by cases e;exact Nat.le_refl _);refine bind3 47 19 20 5 rfl rfl rfl rfl rfl rfl rfl rfl rfl (by decide) (by decide) (by decide) (by decide) F5 (HL _ B5) U5 rfl (by simp) ?_;intro a6 W6 F6 U6 g6;have B6:=B5.grown g6 B5.size (fun k e=>by cases e;exact Nat.le_refl _);refine bind3 48 21 22 6 rfl rfl rfl rfl rfl rfl rfl rfl rfl (by decide) (by decide) (by decide) (by decide) F6 (HL _ B6) U6 rfl (by simp) ?_;intro a7 W7 F7 U7 g7;have B7:=B6.grown g7 B6.size (fun k e=>by cases e;exact Nat.le_refl _);refine wpl_val (v:= .map (some W.heap.size)) (w':=W7) rfl (by simp[execOp,F7.s10,Sem.run_bind,Result.andThen]) ?_;have z23:23<a7.tmps.size:=by rw[F7.size];decide
 have F8:FrA (a7.put (some 23) (.map (some W.heap.size))) W.heap.size rb cv:=F7.put 23 _ (by decide) (by decide);have e23:(a7.put (some 23) (.map (some W.heap.size))).eval (.tmp 23)= .map (some W.heap.size):=by rw[put_eval _ _ _ _ z23,if_pos rfl]
 generalize a7.put (some 23) (.map (some W.heap.size))=a8 at F8 e23⊢;show wpList _ _ _ _ a8 _;refine wpl_val (v:= .map (some W.heap.size)) (w':=W7) rfl (by simp[execOp,e23,Sem.run_bind,Result.andThen]) ?_;have z4:4<a8.tmps.size:=by rw[F8.size];decide
 exact wpList_nil (hexit _ _ ((putZ ..).trans F8.size) ((putD ..).trans F8.dfr) (by show (a8.put (some 4) _).eval _=_;rw[put_eval _ _ _ _ z4,if_neg (by omega),F8.s1]) (by show (a8.put (some 4) _).eval _=_;rw[put_eval _ _ _ _ z4,if_neg (by omega),F8.s2]) (by show (a8.put (some 4) _).eval _=_;rw[put_eval _ _ _ _ z4,if_pos rfl]) U7 B7)
end Go.Proofs.YtjfhfaodbjecdaaGreat
