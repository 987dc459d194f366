/- Lemmas. -/
import Derived.Test.YtikilcbpogfgkaaGreatJI31
set_option maxHeartbeats 12800000
set_option maxRecDepth 100000
namespace Go.Proofs.YtikilcbpogfgkaaGreat
open Go.RowKit
variable {ep:Option Addr} {en ec m rb:Nat} {a:Act} {cv:Value} {w:World} {es:List (Int×Value)}
section
variable {w0 w w':World} {base X:Nat} {p:Prg} {act:Int} {x y:Pkt} {r v f mm:Value} {fs:List Value} {args:List Nat} {gp:Option Addr} {gn gc:Nat}
theorem metaRA (h:RCtx w0 w base X p act x r v f mm fs args gp gn gc) (s:PgS) (lp:Option Addr) (ln lc:Nat) (wi:Bool) {i:Ist} {wt:Int} (hp:PgOk w0 s p) (hw:widthP p act i.e=some wt) (hlen:i.e.length<=6000) (hc:CRow w0 (.slice ep en ec) i.e) (ha:0<=i.a/\i.a<(p.metas.length:Int)):
 Calls Tryz.prog 89 #[rnA s lp ln lc X gp gn gc wi,inA i ep en ec] w fun e w'=>e= .returned (.tuple #[])/\PktB base w' X ({ seen x i.e with metas:=x.metas.set i.a.toNat (evC x args i.e%2 ^ sh (p.metas.getD i.a.toNat 0)) }) r v f mm fs/\Fr (PS X r v f mm fs) w w':=by
 obtain ⟨n,hn⟩:∃n:Nat,i.a=(n:Int):=⟨i.a.toNat,om⟩;have hml:n<x.metas.length:=by rw[h.F.m];omega
 have hnl:n<p.metas.length:=om;have hBB:evC x args i.e<B*B:=sh_ltBB (evC_width x args hw);obtain ⟨wb,wo,hps,hwb,z1⟩:=IRow.el hp.metas (j:=n) hnl;have HV:Hd (∀ W,Bl w W->Calls Tryz.prog 94 #[rnA s lp ln lc X gp gn gc wi,inA i ep en ec] W fun e w'=>e= .returned (numV (evC x args i.e))/\PktB base w' X (seen x i.e) r v f mm fs/\Fr (·=X) W w'):=fun W hb=>rvalueA (h.below hb) s lp ln lc wi hw hlen hc
 have HPS:Hd (∀ k,PS X r v f mm fs k->k<w.heap.size/\k≠wb):=fun k hk=>⟨(h.lt hk).2,fun e=>by have:=(h.lt hk).1;omega⟩
 have hXl:=h.P.lt;have HZ:Hd (Cl w wb (wo+n) (.int .i64 (p.metas.getD n 0))):=(h.low.cell (p:=⟨wb,wo+n,none⟩) hwb).trans z1;have HCU:Hd (∀ W,CR 99 #[numV (evC x args i.e), .int .i64 (p.metas.getD n 0)] W (numV (evC x args i.e%2 ^ sh (p.metas.getD n 0)))):=fun W=>numCut_ret _ _ W hBB
 have HBB:Hd (evC x args i.e%2 ^ sh (p.metas.getD n 0)<B*B):=Nat.lt_of_le_of_lt (Nat.mod_le _ _) hBB;have e0:i.a.toNat=n:=by rw[hn];simp
 rw[e0];obtain ⟨Y,hY⟩:∃Y:Pkt,Y={ seen x i.e with metas:=x.metas.set n (evC x args i.e%2 ^ sh (p.metas.getD n 0)) }:=⟨_,rfl⟩;rw[<- hY];have HYX:=hD hY;have HML:Hd (n<x.metas.length):=hml;obtain ⟨mg,mc,hme,-⟩:∃g cap,mm= .slice (some ⟨g,0,none⟩) x.metas.length cap/\True:=by
  obtain ⟨g,cap,e,-⟩:=own_some h.P.hm.1 om;exact ⟨g,cap,e,trivial⟩
 have HME:=hD hme;have HHP:=hD hps;have i1:(n:Int)<(x.metas.length:Int):=om;have i2:(n:Int)<(s.mn:Int):=by have:=hp.metas.ln.1;omega
 have i0:¬(n:Int)<0:=om;have i3:0<=(n:Int):=om;generalize evC x args i.e=R at*;generalize p.metas.getD n 0=wd at*;generalize R%2 ^ sh wd=M at*;obtain ⟨y0,z0,he,-,-⟩:=numV_parts R;obtain ⟨y3,z3,he3,hey3,hez3⟩:=numV_parts M;have HE3:=hD (And.intro hey3 hez3);rw[he] at HV HCU;rw[he3] at HCU;have HNI:=hD hn;clear h hp hw hlen hc ha hml hnl hBB hps hwb z1 e0 hY hme he he3 hey3 hez3 hn;unfold rnA inA at HV;unfold rnA inA;go_enter Tryz.func89,Tryz.ntmps89;go_upto_region 1 with fail;obtain ⟨W0,hW0⟩:=nm ((w.alloc (.cells #[.slice s.hp s.hn s.hc, .slice s.mp s.mn s.mc, .slice s.sp s.sn s.sc, .slice s.ap s.an s.ac, .slice s.tp s.tn s.tc, .slice s.cp s.cn s.cc, .slice s.ep s.en s.ec, .slice s.v1 s.n1 s.c1, .slice s.v2 s.n2 s.c2, .slice s.v3 s.n3 s.c3, .slice s.v4 s.n4 s.c4, .slice s.v5 s.n5 s.c5, .slice lp ln lc, .pointer (some ⟨X,0,none⟩), .slice gp gn gc, .bool wi] 127)).alloc (.cells #[.int .u8 i.k, .int .i64 i.a, .int .i64 i.b, .slice ep en ec, .int .i64 i.to] 86));have HB0:Hd (Bl w W0):=by show Below _ _ _;rw[hW0];exact bL
 have HR0:Hd (RnBox W0 w.heap.size s lp ln lc X gp gn gc wi):=by show _=_;rw[hW0,Below.heap_alloc _ _ _ sm];exact heap_new _ _
 have HI0:Hd (IBoxA W0 (w.heap.size+1) i ep en ec):=by
  exact gZ
 have hsz:W0.heap.size=w.heap.size+1+1:=by rw[hW0];simp
 rw[<- hW0];clear hW0;obtain ⟨r0,r1,r2,r3,r4,r5,r6,r7,r8,r9,r10,r11,r12,r13,r14,r15⟩:=HR0.o.cells;obtain ⟨j0,j1,j2,j3,j4⟩:=HI0.o.cells;go_upto_region 2 with (go_at_call 94;refine (HV.o _ HB0.o).mono ?_;rintro e w1 ⟨rfl,hp1,hf1⟩;have HP1:=hD hp1;have HF1:=hD hf1;clear hp1 hf1);obtain ⟨W2,hW2⟩:=nm (w1.alloc (.cells #[.int .u64 (y0:Int), .int .u64 (z0:Int)] 82));have HB2:Hd (Bl w1 W2):=by show Below _ _ _;rw[hW2];exact br.alloc lr _
 have HX2:Hd (Bx2 W2 w1.heap.size (y0:Int) (z0:Int)):=by show _=_;rw[hW2];exact heap_new _ _
 rw[<- hW2];clear hW2;have HP2:Hd (PktB base W2 X (seen x i.e) r v f mm fs):=HP1.o.below HB2.o;have HR2:Hd (RnBox W2 w.heap.size s lp ln lc X gp gn gc wi):=(HB2.o.block _ (by have:=HF1.o.size;omega)).trans ((HF1.o.block _ om (by show ¬w.heap.size=X;omega)).trans HR0.o);have HI2:Hd (IBoxA W2 (w.heap.size+1) i ep en ec):=(HB2.o.block _ (by have:=HF1.o.size;omega)).trans ((HF1.o.block _ om (by show ¬w.heap.size+1=X;omega)).trans HI0.o);have HZ2:Hd (Cl W2 wb (wo+n) (.int .i64 wd)):=(HB2.o.cell (cell_there (HF1.o.cell (p:=⟨wb,wo+n,none⟩) (fun e=>(HPS.o X (.inl rfl)).2 (show wb=X from e).symm) ((HB0.o.cell (cell_there HZ.o).1).trans HZ.o))).1).trans (HF1.o.cell (p:=⟨wb,wo+n,none⟩) (fun e=>(HPS.o X (.inl rfl)).2 (show wb=X from e).symm) ((HB0.o.cell (cell_there HZ.o).1).trans HZ.o));have HF2:Hd (Fr (·=X) w W2):=((Fr.of_below HB0.o).trans HF1.o).trans (Fr.of_below HB2.o);have hgb:w.heap.size+1<w1.heap.size:=by have:=HF1.o.size;omega
 generalize w1.heap.size=gb at*;clear HP1 HF1 HB2 HR0 HI0 HB0 hsz r0 r1 r2 r3 r4 r5 r6 r7 r8 r9 r10 r11 r12 r13 r14 r15 j0 j1 j2 j3 j4;obtain ⟨-,r1,-,-,-,-,-,-,-,-,-,-,-,r13,-,-⟩:=HR2.o.cells;obtain ⟨-,j1,-,-,-⟩:=HI2.o.cells;rw[HNI.o] at j1;have c4:=HP2.o.cell (i:=4) rfl;rw[HME.o] at c4;go_quiet (fail);go_upto_region 3 with fail;obtain ⟨W3,hW3⟩:=nm (W2.drewN nq);have HB3:Hd (Bl W2 W3):=by show Below _ _ _;rw[hW3];exact below_drewN br nq
 rw[<- hW3];clear hW3;have HP3:Hd (PktB base W3 X (seen x i.e) r v f mm fs):=HP2.o.below HB3.o;have HF3:Hd (Fr (·=X) w W3):=HF2.o.trans (Fr.of_below HB3.o);obtain ⟨b0,b1,-,-⟩:=HX2.o.cells;have HQ:Hd (Cl W3 w.heap.size 13 (.pointer (some ⟨X,0,none⟩))/\Cl W3 w.heap.size 1 (.slice (some ⟨wb,wo,none⟩) s.mn s.mc)/\Cl W3 (w.heap.size+1) 1 (.int .i64 (n:Int))/\Cl W3 gb 0 (.int .u64 (y0:Int))/\Cl W3 gb 1 (.int .u64 (z0:Int))/\Cl W3 wb (wo+n) (.int .i64 wd)):=by
  rw[HHP.o] at r1;have kp:∀(q:Addr) (u:Value),W2.cell? q=some u->W3.cell? q=some u:=fun q u e=>(HB3.o.cell (cell_there e).1).trans e
  exact ⟨kp _ _ r13,kp _ _ r1,kp _ _ j1,kp _ _ b0,kp _ _ b1,kp _ _ HZ2.o⟩
 have HNS:Hd (∀ k,PS X r v f mm fs k->k<w.heap.size/\k≠wb):=HPS;have HCW:Hd (∀ W,Calls Tryz.prog 99 #[.agg #[.int .u64 (y0:Int), .int .u64 (z0:Int)], .int .i64 wd] W fun e w'=>e= .returned (.agg #[.int .u64 (y3:Int), .int .u64 (z3:Int)])/\PR base X (seen x i.e) Y r v f mm fs W w'):=fun W=>(HCU.o W).mono fun e w' h=>⟨h.1,PR.of_below h.2⟩
 clear r1 r13 j1 c4 b0 b1 HR2 HI2 HZ2 HX2 HP2 HF2;have HCB:=hD (fun (W:World) (hI:PQ base X (seen x i.e) Y r v f mm fs W3 W)=>And.intro (hI.cell (p:=⟨w.heap.size,13,none⟩) (fun e=>by have h0:=(HNS.o _ e).1;simp only at h0;omega) HQ.o.1) (And.intro (hI.cell (p:=⟨w.heap.size,1,none⟩) (fun e=>by have h0:=(HNS.o _ e).1;simp only at h0;omega) HQ.o.2.1) (And.intro (hI.cell (p:=⟨w.heap.size+1,1,none⟩) (fun e=>by have h0:=(HNS.o _ e).1;simp only at h0;omega) HQ.o.2.2.1) (And.intro (hI.cell (p:=⟨gb,0,none⟩) (fun e=>by have h0:=(HNS.o _ e).1;simp only at h0;omega) HQ.o.2.2.2.1) (And.intro (hI.cell (p:=⟨gb,1,none⟩) (fun e=>by have h0:=(HNS.o _ e).1;simp only at h0;omega) HQ.o.2.2.2.2.1) (hI.cell (p:=⟨wb,wo+n,none⟩) (fun e=>(HNS.o _ e).2 rfl) HQ.o.2.2.2.2.2))))));refine region_outR (PR base X (seen x i.e) Y r v f mm fs) (PR.refl _ _ _ _ _ _ _ _ _) kq (PQ base X (seen x i.e) Y r v f mm fs W3) (fun _ _ h hr=>h.step hr) kq (PQ.start HP3.o) ?_;refine sq (fun aa ww ll hh=>by have:=hh.oL 2;exact ov gX) ?_;refine sq (fun aa ww ll hh=>by have:=hh.gt 0 0;obtain ⟨r13,r1,j1,b0,b1,d1⟩:=HCB.o ww hh.inv;have c4:=hh.inv.c4;rw[HME.o] at c4;exact ov gX) ?_;refine sq (fun aa ww ll hh=>by have:=hh.gt 1 0;exact ov gX) ?_;refine sq (fun aa ww ll hh=>by have:=hh.gt 2 0;exact ov gX) ?_;refine sq (fun aa ww ll hh=>by have:=hh.gt 3 0;obtain ⟨r13,r1,j1,b0,b1,d1⟩:=HCB.o ww hh.inv;have c4:=hh.inv.c4;rw[HME.o] at c4;exact ov gX) ?_;refine sq (fun aa ww ll hh=>by have:=hh.oL 3;exact ov gX) ?_;refine sq (fun aa ww ll hh=>by have:=hh.gt 5 0;obtain ⟨r13,r1,j1,b0,b1,d1⟩:=HCB.o ww hh.inv;have c4:=hh.inv.c4;rw[HME.o] at c4;exact ov gX) ?_;refine sq (fun aa ww ll hh=>by have:=hh.oL 4;obtain ⟨r13,r1,j1,b0,b1,d1⟩:=HCB.o ww hh.inv;have c4:=hh.inv.c4;rw[HME.o] at c4;exact ov gX) ?_;refine sq (fun aa ww ll hh=>by have:=hh.oL 2;exact ov gX) ?_;refine sq (fun aa ww ll hh=>by have:=hh.gt 8 0;exact ov gX) ?_;refine sq (fun aa ww ll hh=>by have:=hh.gt 9 0;obtain ⟨r13,r1,j1,b0,b1,d1⟩:=HCB.o ww hh.inv;have c4:=hh.inv.c4;rw[HME.o] at c4;exact ov gX) ?_;refine sq (fun aa ww ll hh=>by have:=hh.oL 3;exact ov gX) ?_;refine sq (fun aa ww ll hh=>by have:=hh.gt 11 0;obtain ⟨r13,r1,j1,b0,b1,d1⟩:=HCB.o ww hh.inv;have c4:=hh.inv.c4;rw[HME.o] at c4;exact ov gX) ?_;refine sq (fun aa ww ll hh=>by have:=hh.gt 10 2;have:=hh.gt 12 0;exact ov gX) ?_;refine sq (fun aa ww ll hh=>by have:=hh.gt 13 0;obtain ⟨r13,r1,j1,b0,b1,d1⟩:=HCB.o ww hh.inv;have c4:=hh.inv.c4;rw[HME.o] at c4;exact ov gX) ?_;refine ⟨.eq (.agg #[.int .u64 (y3:Int), .int .u64 (z3:Int)]),trivial,rfl,fun aa ww ll hh=>?_,?_⟩
 ·have e38:=hh.gt 7 7;have e45:=hh.gt 14 0;have ef:=evf aa;refine out_call_eq (wanted_none rfl) ?_ (HCW.o ww);exact gX
 refine sq (fun aa ww ll hh=>by have:=hh.gt 4 11;have:=hh.gt 6 9;exact ov gX) ?_;refine ⟨.rel (fun W _=>PktB base W X Y r v f mm fs),(fun W W' v h hr=>hr.is h),rfl,fun aa ww ll hh=>?_,?_⟩
 ·have e47:=hh.gt 16 0;have e46:=hh.gt 15 1;obtain ⟨fz,⟨o0,k0⟩,⟨o1,k1⟩,hpr,hpk⟩:=hh.inv.meta' HYX.o HME.o HML.o HBB.o;have fz0:=fz (n*2);have fz1:=fz (n*2+1);rw[<- HE3.o.1, <-HE3.o.2] at hpr hpk;refine out_store (wanted_none rfl) ?_ hpr hpk;try clear fz;exact gX
 intro ll w9 hS3 hok;have p17:=hok 17 _ rfl;clear hok;simp only[ly];first|go_wp2_with fail|skip
 go_end0;exact ⟨rfl,p17,HF3.o.ps.trans hS3.fr⟩
end
open Go.RowKit Stab
theorem bodies_of {p:Prg} {l:List Ent} (h:ApOk p l):BodiesMay p:=by
 intro j x hj;have hlt:=(gL_ hj).1;have e:actAt p (j:Int)=x:=by unfold actAt;rw[Int.toNat_natCast,List.getD_eq_getElem?_getD,hj];rfl
 have:=(h.body j hlt).1
 rwa [e] at this
theorem doI_ok {p:Prg} {l:List Ent} {act:Int} {y:Pkt} {i:Ist} (args:List Nat) (hF:PktF p y) (hi:MayI p act i) (hao:act<0->ApOk p l):PktF p (doI p (apF p l act) args y i)/\(doI p (apF p l act) args y i).port=y.port:=by
 unfold doI;by_cases hk:i.k=3
 ·rw[if_pos hk];obtain ⟨w,hw,-⟩:=mayI_code hi;have ha:=(instW_apply hw hk).1;unfold apF;rw[if_pos ha];have h:=applyP_all (bodies_of (hao ha)) l (i:=i) y.egress hF (.inl rfl);exact ⟨h.1,h.2.1.port⟩
 rw[if_neg hk];have h:=execB_all args hF hi y.egress (.inl rfl);exact ⟨h.1,h.2.1.port⟩
section
variable {w0 w w':World} {base X:Nat} {p:Prg} {act:Int} {x y:Pkt} {r v f mm:Value} {fs:List Value} {args:List Nat} {gp:Option Addr} {gn gc:Nat}
structure InsOk (w0:World) (p:Prg) (act:Int) (i:Ist) (ep:Option Addr) (en ec:Nat):Prop where
 may:MayI p act i
 len:i.e.length<=6000
 code:CRow w0 (.slice ep en ec) i.e
theorem InsOk.width {i:Ist} (h:InsOk w0 p act i ep en ec) (hk:i.k=1\/i.k=2\/i.k=5\/i.k=7) (hW:WPos p):∃wt,instW p act i=some wt/\widthP p act i.e=some wt:=by
 obtain ⟨wt,h1,h2⟩:=mayI_code h.may;refine ⟨wt,h1,?_⟩;rcases h2 with ⟨h2,-⟩|⟨-,h2⟩
 ·exfalso;rcases hk with hk|hk|hk|hk
  ·obtain ⟨q1,q2,q3,q4,q5⟩:=instW_set h1 hk;have:=hW.at (i:=i.a.toNat) (j:=i.b.toNat) om om;omega
  ·obtain ⟨q1,q2,q3,q4⟩:=instW_meta h1 hk;have:=hW.metas (p.metas.getD i.a.toNat 0) (gM_ (some_getD (l:=p.metas) (j:=i.a.toNat) 0 om));omega
  ·have:=instW_fwd h1 hk;omega
  rcases instW_rest h1 om om om om with ⟨h,q⟩|⟨h,q⟩|⟨h,q⟩|⟨h,q⟩<;>omega
 exact h2
theorem doSet (h:RCtx w0 w base X p act x r v f mm fs args gp gn gc) (s:PgS) (lp:Option Addr) (ln lc:Nat) (wi:Bool) {i:Ist} (ap:Pkt->Ist->Pkt) (hp:PgOk w0 s p) (hW:WPos p) (hi:InsOk w0 p act i ep en ec) (hk:i.k=1):
 Calls Tryz.prog 88 #[rnA s lp ln lc X gp gn gc wi,inA i ep en ec] w fun e w'=>e= .returned (.tuple #[])/\PktB base w' X (doI p ap args x i) r v f mm fs/\Fr (PS X r v f mm fs) w w':=by
 obtain ⟨wt,h1,h2⟩:=hi.width (.inl hk) hW;obtain ⟨q1,q2,q3,q4,-⟩:=instW_set h1 hk;have e:doI p ap args x i=setF p (seen x i.e) i.a i.b (evC x args i.e):=by
  unfold doI execB;rw[if_neg om,if_pos hk]
 rw[e];exact setRA h s lp ln lc wi hp h2 hi.len hi.code ⟨q1,q2,q3,q4⟩
theorem doMeta (h:RCtx w0 w base X p act x r v f mm fs args gp gn gc) (s:PgS) (lp:Option Addr) (ln lc:Nat) (wi:Bool) {i:Ist} (ap:Pkt->Ist->Pkt) (hp:PgOk w0 s p) (hW:WPos p) (hi:InsOk w0 p act i ep en ec) (hk:i.k=2):
 Calls Tryz.prog 89 #[rnA s lp ln lc X gp gn gc wi,inA i ep en ec] w fun e w'=>e= .returned (.tuple #[])/\PktB base w' X (doI p ap args x i) r v f mm fs/\Fr (PS X r v f mm fs) w w':=by
 obtain ⟨wt,h1,h2⟩:=hi.width (.inr (.inl hk)) hW;obtain ⟨q1,q2,-,-⟩:=instW_meta h1 hk;have e:doI p ap args x i={ seen x i.e with metas:=x.metas.set i.a.toNat (evC x args i.e%2 ^ sh (p.metas.getD i.a.toNat 0)) }:=by
  unfold doI execB;rw[if_neg om,if_neg om,if_pos hk]
 rw[e];exact metaRA h s lp ln lc wi hp h2 hi.len hi.code ⟨q1,q2⟩
theorem doDrop (h:RCtx w0 w base X p act x r v f mm fs args gp gn gc) (s:PgS) (lp:Option Addr) (ln lc:Nat) (wi:Bool) {i:Ist} (ap:Pkt->Ist->Pkt) (hk:i.k=4):
 Calls Tryz.prog 91 #[rnA s lp ln lc X gp gn gc wi,inA i ep en ec] w fun e w'=>e= .returned (.tuple #[])/\PktB base w' X (doI p ap args x i) r v f mm fs/\Fr (PS X r v f mm fs) w w':=by
 have e:doI p ap args x i={ x with dropped:=true }:=by
  unfold doI execB;rw[if_neg om,if_neg om,if_neg om,if_pos hk]
 rw[e];exact dropA h s lp ln lc wi
theorem doForward (h:RCtx w0 w base X p act x r v f mm fs args gp gn gc) (s:PgS) (lp:Option Addr) (ln lc:Nat) (wi:Bool) {i:Ist} (ap:Pkt->Ist->Pkt) (hW:WPos p) (hi:InsOk w0 p act i ep en ec) (hk:i.k=5):
 Calls Tryz.prog 92 #[rnA s lp ln lc X gp gn gc wi,inA i ep en ec] w fun e w'=>e= .returned (.tuple #[])/\PktB base w' X (doI p ap args x i) r v f mm fs/\Fr (PS X r v f mm fs) w w':=by
 obtain ⟨wt,h1,h2⟩:=hi.width (.inr (.inr (.inl hk))) hW;have hw9:=instW_fwd h1 hk;subst hw9;have e:doI p ap args x i={ seen x i.e with egress:=((evC x args i.e:Nat):Int),sent:=true,dropped:=false }:=by
  unfold doI execB;rw[if_neg om,if_neg om,if_neg om,if_neg om,if_pos hk]
 rw[e];exact forwardRA h s lp ln lc wi h2 hi.len hi.code
theorem doValid (h:RCtx w0 w base X p act x r v f mm fs args gp gn gc) (s:PgS) (lp:Option Addr) (ln lc:Nat) (wi:Bool) {i:Ist} (ap:Pkt->Ist->Pkt) (hi:InsOk w0 p act i ep en ec) (hk:i.k=6):
 Calls Tryz.prog 93 #[rnA s lp ln lc X gp gn gc wi,inA i ep en ec] w fun e w'=>e= .returned (.tuple #[])/\PktB base w' X (doI p ap args x i) r v f mm fs/\Fr (PS X r v f mm fs) w w':=by
 obtain ⟨wt,h1,-⟩:=mayI_code hi.may;obtain ⟨q1,q2,-,-⟩:=instW_valid h1 hk;have e:doI p ap args x i=validF x i.a (decide (i.b=1)):=by
  unfold doI execB;rw[if_neg om,if_neg om,if_neg om,if_neg om,if_neg om,if_pos hk]
 rw[e];exact validRA h s lp ln lc wi ⟨q1,q2⟩
theorem doApply (h:RCtx w0 w base X p act x r v f mm fs args gp gn gc) (s:PgS) (lp:Option Addr) (ln lc:Nat) (wi:Bool) {l:List Ent} {i:Ist} (hp:PgOk w0 s p) (hl:ERow w0 (.slice lp ln lc) l) (hSm:Sm p) (hwi:act<0->wi=false) (hao:act<0->ApOk p l) (hrun:act<0->RunsIn w0 base X p s lp ln lc l r v f mm fs) (hi:InsOk w0 p act i ep en ec) (hk:i.k=3):
 Calls Tryz.prog 90 #[rnA s lp ln lc X gp gn gc wi,inA i ep en ec] w fun e w'=>e= .returned (.tuple #[])/\PktB base w' X (doI p (apF p l act) args x i) r v f mm fs/\Fr (PS X r v f mm fs) w w':=by
 obtain ⟨wt,h1,-⟩:=mayI_code hi.may;obtain ⟨q0,q1,q2,-⟩:=instW_apply h1 hk;have e:doI p (apF p l act) args x i=applyP p l x i:=by
  unfold doI apF;rw[if_pos hk,if_pos q0]
 rw[e,hwi q0];exact applyRA h s lp ln lc hp hl (hao q0) hSm ⟨q1,q2⟩ (hrun q0)
end
open Go.RowKit Go.Maps
def mfV (f:Nat) (r:Value):Value:= .func (Fn.func f) #[r] #[]
def doesM (r:Value):List (Int×Value):=[(1,mfV 88 r),(2,mfV 89 r),(3,mfV 90 r),(4,mfV 91 r),(5,mfV 92 r),(6,mfV 93 r)]
section
variable {P:Program} {ops:Array Oper} {Q:Exit->Act->World->Prop} {a:Act} {w:World} {rest:List Oper} {o:Oper}
theorem wpl_val {v:Value} {w':World} (hg:o.guard=none) (hrun:(execOp a.eval o).run P w= .ok (.value v) w') (h:wpList P ops Q rest (a.put o.dst v) w'):wpList P ops Q (o::rest) a w:=
 wpList_plain hg fun K hK=>by unfold Oper.wp;rw[hrun];exact hK _ _ h
theorem put_eval (a:Act) (i j:Nat) (v:Value) (hi:i<a.tmps.size):(a.put (some i) v).eval (.tmp j)=if i=j then v else a.eval (.tmp j):=by
 show (a.tmps.setIfInBounds i v).getD j undef=if i=j then v else a.tmps.getD j undef
 rw[Array.getD_eq_getD_getElem?,Array.getD_eq_getD_getElem?,Array.getElem?_setIfInBounds];by_cases h:i=j
 ·rw[if_pos h,if_pos h,if_pos hi];rfl
 rw[if_neg h,if_neg h]
theorem putZ (a:Act) (d:Option Nat) (v:Value):(a.put d v).tmps.size=a.tmps.size:=by
 cases d<;>simp[Act.put]
theorem putD (a:Act) (d:Option Nat) (v:Value):(a.put d v).defers=a.defers:=by
 cases d<;>simp[Act.put]
end
structure FrA (a:Act) (m rb:Nat) (cv:Value):Prop where
 size:a.tmps.size=65
 dfr:a.defers=[]
 s1:a.eval (.tmp 1)=cv
 s2:a.eval (.tmp 2)= .pointer (some ⟨rb,0,none⟩)
 s10:a.eval (.tmp 10)= .map (some m)
theorem FrA.put (h:FrA a m rb cv) (s:Nat) (v:Value) (hs:10<s) (hs2:s<65):FrA (a.put (some s) v) m rb cv:=by
 have hsz:s<a.tmps.size:=by rw[h.size];exact hs2
 exact ⟨(putZ ..).trans h.size,(putD ..).trans h.dfr,by rw[put_eval _ _ _ _ hsz,if_neg om,h.s1],by rw[put_eval _ _ _ _ hsz,if_neg om,h.s2],by rw[put_eval _ _ _ _ hsz,if_neg om,h.s10]⟩
theorem bind3 {ops:Array Oper} {Q:Exit->Act->World->Prop} {rest:List Oper} {o1 o2 o3:Oper} {R:Value} (f s1 s2:Nat) (key:Int)
 (g1:o1.guard=none) (g2:o2.guard=none) (g3:o3.guard=none)
 (p1:o1.op= .load 127 (.tmp 2)) (d1:o1.dst=some s1) (p2:o2.op= .makeFunc (Fn.func f) #[.tmp s1] #[]) (d2:o2.dst=some s2)
 (p3:o3.op= .insert 164 (.tmp 10) (.const (.int .u8 key)) (.tmp s2)) (d3:o3.dst=none)
 (hs1:10<s1) (hs1':s1<65) (hs2:10<s2) (hs2':s2<65) (hF:FrA a m rb cv)
 (hL:(Instr.loadAt 127 (.pointer (some ⟨rb,0,none⟩))).run Tryz.prog w= .ok R w) (hU:UMap w m es) (hw:(Lit.int .u8 key).wf=true) (hn:∀p∈es,p.1≠key)
 (hK:∀a' w',FrA a' m rb cv->UMap w' m (es++[(key,mfV f R)])->w.grownBy w' (some m)->wpList Tryz.prog ops Q rest a' w'):wpList Tryz.prog ops Q (o1::o2::o3::rest) a w:=by
 have z1:s1<a.tmps.size:=by rw[hF.size];exact hs1'
 refine wpl_val (v:=R) (w':=w) g1 (by simp[execOp,p1,hF.s2,hL,Result.andThen]) ?_;rw[d1];have F1:=hF.put s1 R hs1 hs1';have e1:(a.put (some s1) R).eval (.tmp s1)=R:=by rw[put_eval _ _ _ _ z1,if_pos rfl]
 refine wpl_val (v:=mfV f R) (w':=w) g2 (by simp[execOp,p2,e1,run_mkFunc,Result.andThen,mfV]) ?_;rw[d2];have F2:=F1.put s2 (mfV f R) hs2 hs2';have e2:((a.put (some s1) R).put (some s2) (mfV f R)).eval (.tmp s2)=mfV f R:=by rw[put_eval _ _ _ _ (by rw[F1.size];exact hs2'),if_pos rfl]
 refine wpList_put (k:=5) (e:=163) g3 _ _ _ p3 Tryz.underlying5 Tryz.underlying164 F2.s10 hU key rfl (mfV f R) e2 hw hn fun w' h1 h2=>?_
 rw[d3];exact hK _ _ F2 h1 h2
theorem does_region (a:Act) (rb:Nat) (cv R:Value) (W:World) (Q:Exit->Act->World->Prop) (hsz:a.tmps.size=65) (hd:a.defers=[]) (h1:a.eval (.tmp 1)=cv) (h2:a.eval (.tmp 2)= .pointer (some ⟨rb,0,none⟩))
 (HL:∀V,Bl W V->(Instr.loadAt 127 (.pointer (some ⟨rb,0,none⟩))).run Tryz.prog V= .ok R V)
 (hexit:∀a' w',a'.tmps.size=65->a'.defers=[]->a'.eval (.tmp 1)=cv->a'.eval (.tmp 2)= .pointer (some ⟨rb,0,none⟩)->a'.eval (.tmp 4)= .map (some W.heap.size)->UMap w' W.heap.size (doesM R)->Bl W w'->Q .normal a' w'):
 Code.wp Tryz.prog ((Tryz.f55.body.bind (findRegion 1)).getD .skip) Q a W:=by
 conv=>arg 2;whnf
 refine wp_region_lit ?_;refine wpl_val (v:= .map (some W.heap.size)) (w':=W.alloc (.map #[] 0)) rfl (by simp[execOp,run_makeMap,Result.andThen]) ?_;have z10:10<a.tmps.size:=om;have F:FrA (a.put (some 10) (.map (some W.heap.size))) W.heap.size rb cv:=⟨(putZ ..).trans hsz,(putD ..).trans hd,by rw[put_eval _ _ _ _ z10,if_neg om,h1],by rw[put_eval _ _ _ _ z10,if_neg om,h2],by rw[put_eval _ _ _ _ z10,if_pos rfl]⟩;have hU:=UMap.empty (W.alloc (.map #[] 0)) W.heap.size (heap_new W _);have hB:Bl W (W.alloc (.map #[] 0)):=br.alloc lr _;generalize a.put (some 10) (.map (some W.heap.size))=a1 at F⊢;show wpList _ _ _ _ a1 _;generalize W.alloc (.map #[] 0)=W1 at hU hB⊢;clear hsz hd h1 h2 z10;refine bind3 88 11 12 1 rfl rfl rfl rfl rfl rfl rfl rfl rfl dq dq dq dq F (HL _ hB) hU rfl sm ?_;intro a2 W2 F2 U2 g2;have B2:=hB.grown g2 hB.size (fun k e=>by cases e;exact Nat.le_refl _);refine bind3 89 13 14 2 rfl rfl rfl rfl rfl rfl rfl rfl rfl dq dq dq dq F2 (HL _ B2) U2 rfl sm ?_;intro a3 W3 F3 U3 g3;have B3:=B2.grown g3 B2.size (fun k e=>by cases e;exact Nat.le_refl _);refine bind3 90 15 16 3 rfl rfl rfl rfl rfl rfl rfl rfl rfl dq dq dq dq F3 (HL _ B3) U3 rfl sm ?_;intro a4 W4 F4 U4 g4;have B4:=B3.grown g4 B3.size (fun k e=>by cases e;exact Nat.le_refl _);refine bind3 91 17 18 4 rfl rfl rfl rfl rfl rfl rfl rfl rfl dq dq dq dq F4 (HL _ B4) U4 rfl sm ?_;intro a5 W5 F5 U5 g5;have B5:=B4.grown g5 B4.size (fun k e=>by cases e;exact Nat.le_refl _);refine bind3 92 19 20 5 rfl rfl rfl rfl rfl rfl rfl rfl rfl dq dq dq dq F5 (HL _ B5) U5 rfl sm ?_;intro a6 W6 F6 U6 g6;have B6:=B5.grown g6 B5.size (fun k e=>by cases e;exact Nat.le_refl _);refine bind3 93 21 22 6 rfl rfl rfl rfl rfl rfl rfl rfl rfl dq dq dq dq F6 (HL _ B6) U6 rfl sm ?_;intro a7 W7 F7 U7 g7;have B7:=B6.grown g7 B6.size (fun k e=>by cases e;exact Nat.le_refl _);refine wpl_val (v:= .map (some W.heap.size)) (w':=W7) rfl (by simp[execOp,F7.s10]) ?_;have z23:23<a7.tmps.size:=by rw[F7.size];decide
 have F8:FrA (a7.put (some 23) (.map (some W.heap.size))) W.heap.size rb cv:=F7.put 23 _ dq dq;have e23:(a7.put (some 23) (.map (some W.heap.size))).eval (.tmp 23)= .map (some W.heap.size):=by rw[put_eval _ _ _ _ z23,if_pos rfl]
 generalize a7.put (some 23) (.map (some W.heap.size))=a8 at F8 e23⊢;show wpList _ _ _ _ a8 _;refine wpl_val (v:= .map (some W.heap.size)) (w':=W7) rfl (by simp[execOp,e23]) ?_;have z4:4<a8.tmps.size:=by rw[F8.size];decide
 exact wpList_nil (hexit _ _ ((putZ ..).trans F8.size) ((putD ..).trans F8.dfr) (by show (a8.put (some 4) _).eval _=_;rw[put_eval _ _ _ _ z4,if_neg om,F8.s1]) (by show (a8.put (some 4) _).eval _=_;rw[put_eval _ _ _ _ z4,if_neg om,F8.s2]) (by show (a8.put (some 4) _).eval _=_;rw[put_eval _ _ _ _ z4,if_pos rfl]) U7 B7)
open Go.RowKit Go.Maps Stab
theorem len_succ (l:List Value) (n:Nat) (h:l.length=n+1):∃x t,l=x::t/\t.length=n:=by
 cases l with
 |nil=>cases h
 |cons x t=>exact ⟨x,t,rfl,by simpa using h⟩
theorem fr65 (a:Act) (hz:a.tmps.size=65) (hd:a.defers=[]):∃x0 x1 x2 x3 x4 x5 x6 x7 x8 x9 x10 x11 x12 x13 x14 x15 x16 x17 x18 x19 x20 x21 x22 x23 x24 x25 x26 x27 x28 x29 x30 x31 x32 x33 x34 x35 x36 x37 x38 x39 x40 x41 x42 x43 x44 x45 x46 x47 x48 x49 x50 x51 x52 x53 x54 x55 x56 x57 x58 x59 x60 x61 x62 x63 x64,a=⟨#[x0,x1,x2,x3,x4,x5,x6,x7,x8,x9,x10,x11,x12,x13,x14,x15,x16,x17,x18,x19,x20,x21,x22,x23,x24,x25,x26,x27,x28,x29,x30,x31,x32,x33,x34,x35,x36,x37,x38,x39,x40,x41,x42,x43,x44,x45,x46,x47,x48,x49,x50,x51,x52,x53,x54,x55,x56,x57,x58,x59,x60,x61,x62,x63,x64],[]⟩:=by
 obtain ⟨⟨l0⟩,d⟩:=a;obtain rfl:d=[]:=hd;have h0:l0.length=65:=hz;clear hz;obtain ⟨x0,l1,rfl,h1⟩:=len_succ l0 64 h0;clear h0;obtain ⟨x1,l2,rfl,h2⟩:=len_succ l1 63 h1;clear h1;obtain ⟨x2,l3,rfl,h3⟩:=len_succ l2 62 h2;clear h2;obtain ⟨x3,l4,rfl,h4⟩:=len_succ l3 61 h3;clear h3;obtain ⟨x4,l5,rfl,h5⟩:=len_succ l4 60 h4;clear h4;obtain ⟨x5,l6,rfl,h6⟩:=len_succ l5 59 h5;clear h5;obtain ⟨x6,l7,rfl,h7⟩:=len_succ l6 58 h6;clear h6;obtain ⟨x7,l8,rfl,h8⟩:=len_succ l7 57 h7;clear h7;obtain ⟨x8,l9,rfl,h9⟩:=len_succ l8 56 h8;clear h8;obtain ⟨x9,l10,rfl,h10⟩:=len_succ l9 55 h9;clear h9;obtain ⟨x10,l11,rfl,h11⟩:=len_succ l10 54 h10;clear h10;obtain ⟨x11,l12,rfl,h12⟩:=len_succ l11 53 h11;clear h11;obtain ⟨x12,l13,rfl,h13⟩:=len_succ l12 52 h12;clear h12;obtain ⟨x13,l14,rfl,h14⟩:=len_succ l13 51 h13;clear h13;obtain ⟨x14,l15,rfl,h15⟩:=len_succ l14 50 h14;clear h14;obtain ⟨x15,l16,rfl,h16⟩:=len_succ l15 49 h15;clear h15;obtain ⟨x16,l17,rfl,h17⟩:=len_succ l16 48 h16;clear h16;obtain ⟨x17,l18,rfl,h18⟩:=len_succ l17 47 h17;clear h17;obtain ⟨x18,l19,rfl,h19⟩:=len_succ l18 46 h18;clear h18;obtain ⟨x19,l20,rfl,h20⟩:=len_succ l19 45 h19;clear h19;obtain ⟨x20,l21,rfl,h21⟩:=len_succ l20 44 h20;clear h20;obtain ⟨x21,l22,rfl,h22⟩:=len_succ l21 43 h21;clear h21;obtain ⟨x22,l23,rfl,h23⟩:=len_succ l22 42 h22;clear h22;obtain ⟨x23,l24,rfl,h24⟩:=len_succ l23 41 h23;clear h23;obtain ⟨x24,l25,rfl,h25⟩:=len_succ l24 40 h24;clear h24;obtain ⟨x25,l26,rfl,h26⟩:=len_succ l25 39 h25;clear h25;obtain ⟨x26,l27,rfl,h27⟩:=len_succ l26 38 h26;clear h26;obtain ⟨x27,l28,rfl,h28⟩:=len_succ l27 37 h27;clear h27;obtain ⟨x28,l29,rfl,h29⟩:=len_succ l28 36 h28;clear h28;obtain ⟨x29,l30,rfl,h30⟩:=len_succ l29 35 h29;clear h29;obtain ⟨x30,l31,rfl,h31⟩:=len_succ l30 34 h30;clear h30;obtain ⟨x31,l32,rfl,h32⟩:=len_succ l31 33 h31;clear h31;obtain ⟨x32,l33,rfl,h33⟩:=len_succ l32 32 h32;clear h32;obtain ⟨x33,l34,rfl,h34⟩:=len_succ l33 31 h33;clear h33;obtain ⟨x34,l35,rfl,h35⟩:=len_succ l34 30 h34;clear h34;obtain ⟨x35,l36,rfl,h36⟩:=len_succ l35 29 h35;clear h35;obtain ⟨x36,l37,rfl,h37⟩:=len_succ l36 28 h36;clear h36;obtain ⟨x37,l38,rfl,h38⟩:=len_succ l37 27 h37;clear h37;obtain ⟨x38,l39,rfl,h39⟩:=len_succ l38 26 h38;clear h38;obtain ⟨x39,l40,rfl,h40⟩:=len_succ l39 25 h39;clear h39;obtain ⟨x40,l41,rfl,h41⟩:=len_succ l40 24 h40;clear h40;obtain ⟨x41,l42,rfl,h42⟩:=len_succ l41 23 h41;clear h41;obtain ⟨x42,l43,rfl,h43⟩:=len_succ l42 22 h42;clear h42;obtain ⟨x43,l44,rfl,h44⟩:=len_succ l43 21 h43;clear h43;obtain ⟨x44,l45,rfl,h45⟩:=len_succ l44 20 h44;clear h44;obtain ⟨x45,l46,rfl,h46⟩:=len_succ l45 19 h45;clear h45;obtain ⟨x46,l47,rfl,h47⟩:=len_succ l46 18 h46;clear h46;obtain ⟨x47,l48,rfl,h48⟩:=len_succ l47 17 h47;clear h47;obtain ⟨x48,l49,rfl,h49⟩:=len_succ l48 16 h48;clear h48;obtain ⟨x49,l50,rfl,h50⟩:=len_succ l49 15 h49;clear h49;obtain ⟨x50,l51,rfl,h51⟩:=len_succ l50 14 h50;clear h50;obtain ⟨x51,l52,rfl,h52⟩:=len_succ l51 13 h51;clear h51;obtain ⟨x52,l53,rfl,h53⟩:=len_succ l52 12 h52;clear h52;obtain ⟨x53,l54,rfl,h54⟩:=len_succ l53 11 h53;clear h53;obtain ⟨x54,l55,rfl,h55⟩:=len_succ l54 10 h54;clear h54;obtain ⟨x55,l56,rfl,h56⟩:=len_succ l55 9 h55;clear h55;obtain ⟨x56,l57,rfl,h57⟩:=len_succ l56 8 h56;clear h56;obtain ⟨x57,l58,rfl,h58⟩:=len_succ l57 7 h57;clear h57;obtain ⟨x58,l59,rfl,h59⟩:=len_succ l58 6 h58;clear h58;obtain ⟨x59,l60,rfl,h60⟩:=len_succ l59 5 h59;clear h59;obtain ⟨x60,l61,rfl,h61⟩:=len_succ l60 4 h60;clear h60;obtain ⟨x61,l62,rfl,h62⟩:=len_succ l61 3 h61;clear h61;obtain ⟨x62,l63,rfl,h63⟩:=len_succ l62 2 h62;clear h62;obtain ⟨x63,l64,rfl,h64⟩:=len_succ l63 1 h63;clear h63;obtain ⟨x64,l65,rfl,h65⟩:=len_succ l64 0 h64;clear h64;obtain rfl:=List.eq_nil_of_length_eq_zero h65;exact ⟨x0,x1,x2,x3,x4,x5,x6,x7,x8,x9,x10,x11,x12,x13,x14,x15,x16,x17,x18,x19,x20,x21,x22,x23,x24,x25,x26,x27,x28,x29,x30,x31,x32,x33,x34,x35,x36,x37,x38,x39,x40,x41,x42,x43,x44,x45,x46,x47,x48,x49,x50,x51,x52,x53,x54,x55,x56,x57,x58,x59,x60,x61,x62,x63,x64,rfl⟩
theorem UMap.kept2 {w':World} (h:UMap w m es) (hb:w'.heap[m]?=w.heap[m]?):UMap w' m es:=h.kept hb
section
variable {w0 w w':World} {base X:Nat} {p:Prg} {act:Int} {x y:Pkt} {r v f mm:Value} {fs:List Value} {args:List Nat} {gp:Option Addr} {gn gc:Nat}
theorem runRA (h:RCtx w0 w base X p act x r v f mm fs args gp gn gc) (s:PgS) (lp:Option Addr) (ln lc:Nat) (wi:Bool) {l:List Ent} {c:List Ist} {cp:Option Addr} {cn cc:Nat} (hp:PgOk w0 s p) (hW:WPos p) (hSm:Sm p) (hl:ERow w0 (.slice lp ln lc) l) (hc:IstRow w0 (.slice cp cn cc) c) (hcl:∀i∈c,i.e.length<=6000) (hm:mayInstsP p act c=true) (hwi:act<0->wi=false) (hao:act<0->ApOk p l) (hrun:act<0->RunsIn w0 base X p s lp ln lc l r v f mm fs):
 Calls Tryz.prog 55 #[rnA s lp ln lc X gp gn gc wi, .slice cp cn cc] w fun e w'=>e= .returned (.tuple #[])/\PktB base w' X (runA p l act args c x) r v f mm fs/\Fr (PS X r v f mm fs) w w':=by
 obtain ⟨R,hR⟩:=nm (rnA s lp ln lc X gp gn gc wi);have HDO:Hd (∀ (W:World) (y:Pkt) (i:Ist) (ep:Option Addr) (en ec:Nat),RCtx w0 W base X p act y r v f mm fs args gp gn gc->InsOk w0 p act i ep en ec->1<=i.k->i.k<=6->∃fk,(i.k,mfV fk R)∈doesM R/\(∀ vs V,(callFunc fk vs).run Tryz.prog V= .ok (.enter fk vs) V)/\Calls Tryz.prog fk #[R,inA i ep en ec] W fun e w'=>e= .returned (.tuple #[])/\PktB base w' X (doI p (apF p l act) args y i) r v f mm fs/\Fr (PS X r v f mm fs) W w'):=by
  rw[hR];exact fun W y i ep en ec h hi k1 k6=>by
   have hk:i.k=1\/i.k=2\/i.k=3\/i.k=4\/i.k=5\/i.k=6:=om
   rcases hk with hk|hk|hk|hk|hk|hk
   ·exact ⟨88,by rw[hk];simp[doesM],fun vs V=>by first|rfl|kernel_rfl|simp[go_sem],doSet h s lp ln lc wi _ hp hW hi hk⟩
   ·exact ⟨89,by rw[hk];simp[doesM],fun vs V=>by first|rfl|kernel_rfl|simp[go_sem],doMeta h s lp ln lc wi _ hp hW hi hk⟩
   ·exact ⟨90,by rw[hk];simp[doesM],fun vs V=>by first|rfl|kernel_rfl|simp[go_sem],doApply h s lp ln lc wi hp hl hSm hwi hao hrun hi hk⟩
   ·exact ⟨91,by rw[hk];simp[doesM],fun vs V=>by first|rfl|kernel_rfl|simp[go_sem],doDrop h s lp ln lc wi _ hk⟩
   ·exact ⟨92,by rw[hk];simp[doesM],fun vs V=>by first|rfl|kernel_rfl|simp[go_sem],doForward h s lp ln lc wi _ hW hi hk⟩
   ·exact ⟨93,by rw[hk];simp[doesM],fun vs V=>by first|rfl|kernel_rfl|simp[go_sem],doValid h s lp ln lc wi _ hi hk⟩
 have HV:Hd (∀ (W:World) (y:Pkt) (i:Ist) (ep:Option Addr) (en ec:Nat),RCtx w0 W base X p act y r v f mm fs args gp gn gc->InsOk w0 p act i ep en ec->i.k=7->Calls Tryz.prog 94 #[R,inA i ep en ec] W fun e w'=>e= .returned (numV (evC y args i.e))/\PktB base w' X (seen y i.e) r v f mm fs/\Fr (·=X) W w'):=by
  rw[hR];exact fun W y i ep en ec h hi hk=>by
   obtain ⟨wt,-,h2⟩:=hi.width (.inr (.inr (.inr hk))) hW;exact rvalueA h s lp ln lc wi h2 hi.len hi.code
 obtain ⟨Z,hZ⟩:=nm (runA p l act args c x);rw[<- hZ];have HR:Hd (Z=runFrom p (apF p l act) args c 0 x):=hZ;have HJ:Hd (JumpsOk c):=mayInsts_jumps hm;have HMI:Hd (∀ i∈c,MayI p act i):=mayInsts_mem hm;have HC:=hD hc;have HCL:=hD hcl;have HN:Hd (cn=c.length):=hc.ln.1;have hcn6:cn<=65536:=by have:=mayInsts_len hm;have:=hc.ln.1;omega
 have HAO:=hD hao;have HX:=hD h;have HPS:Hd (∀ k,PS X r v f mm fs k->k<w.heap.size):=fun k hk=>(h.lt hk).2
 have hXl:=h.P.lt;have HL:Hd (∀ V:World,V.heap[w.heap.size]?=some (.cells #[.slice s.hp s.hn s.hc, .slice s.mp s.mn s.mc, .slice s.sp s.sn s.sc, .slice s.ap s.an s.ac, .slice s.tp s.tn s.tc, .slice s.cp s.cn s.cc, .slice s.ep s.en s.ec, .slice s.v1 s.n1 s.c1, .slice s.v2 s.n2 s.c2, .slice s.v3 s.n3 s.c3, .slice s.v4 s.n4 s.c4, .slice s.v5 s.n5 s.c5, .slice lp ln lc, .pointer (some ⟨X,0,none⟩), .slice gp gn gc, .bool wi] 127 (0,0))->(Instr.loadAt 127 (.pointer (some ⟨w.heap.size,0,none⟩))).run Tryz.prog V= .ok R V):=fun V h1=>by
  rw[hR];exact run_loadAt_mid V w.heap.size 0 127 _ _ (World.rangeAt_of_block h1 0 16) Tryz.underlying127 rfl rfl
 clear h hp hW hSm hl hc hcl hm hwi hao hrun hZ;unfold rnA at hR;have HRR:=hD hR;rw[show rnA s lp ln lc X gp gn gc wi= .agg #[.slice s.hp s.hn s.hc, .slice s.mp s.mn s.mc, .slice s.sp s.sn s.sc, .slice s.ap s.an s.ac, .slice s.tp s.tn s.tc, .slice s.cp s.cn s.cc, .slice s.ep s.en s.ec, .slice s.v1 s.n1 s.c1, .slice s.v2 s.n2 s.c2, .slice s.v3 s.n3 s.c3, .slice s.v4 s.n4 s.c4, .slice s.v5 s.n5 s.c5, .slice lp ln lc, .pointer (some ⟨X,0,none⟩), .slice gp gn gc, .bool wi] from rfl];clear hR;go_enter Tryz.func55,Tryz.ntmps55;go_upto_region 1 with fail;obtain ⟨W0,hW0⟩:=nm (w.alloc (.cells #[.slice s.hp s.hn s.hc, .slice s.mp s.mn s.mc, .slice s.sp s.sn s.sc, .slice s.ap s.an s.ac, .slice s.tp s.tn s.tc, .slice s.cp s.cn s.cc, .slice s.ep s.en s.ec, .slice s.v1 s.n1 s.c1, .slice s.v2 s.n2 s.c2, .slice s.v3 s.n3 s.c3, .slice s.v4 s.n4 s.c4, .slice s.v5 s.n5 s.c5, .slice lp ln lc, .pointer (some ⟨X,0,none⟩), .slice gp gn gc, .bool wi] 127));have hs0:W0.heap.size=w.heap.size+1:=by rw[hW0];simp
 have HB0:Hd (Bl w W0):=by show Below _ _ _;rw[hW0];exact bL
 have HRB:Hd (W0.heap[w.heap.size]?=some (.cells #[.slice s.hp s.hn s.hc, .slice s.mp s.mn s.mc, .slice s.sp s.sn s.sc, .slice s.ap s.an s.ac, .slice s.tp s.tn s.tc, .slice s.cp s.cn s.cc, .slice s.ep s.en s.ec, .slice s.v1 s.n1 s.c1, .slice s.v2 s.n2 s.c2, .slice s.v3 s.n3 s.c3, .slice s.v4 s.n4 s.c4, .slice s.v5 s.n5 s.c5, .slice lp ln lc, .pointer (some ⟨X,0,none⟩), .slice gp gn gc, .bool wi] 127 (0,0))):=by show _=_;rw[hW0];exact heap_new _ _
 rw[<- hW0];clear hW0;refine does_region _ w.heap.size (.slice cp cn cc) R W0 _ rfl rfl rfl rfl (fun V h=>HL.o V ((h.block _ om).trans HRB.o)) ?_;intro a' w1 hz hd h1 h2 h4 hU hB1;obtain ⟨x0,x1,x2,x3,x4,x5,x6,x7,x8,x9,x10,x11,x12,x13,x14,x15,x16,x17,x18,x19,x20,x21,x22,x23,x24,x25,x26,x27,x28,x29,x30,x31,x32,x33,x34,x35,x36,x37,x38,x39,x40,x41,x42,x43,x44,x45,x46,x47,x48,x49,x50,x51,x52,x53,x54,x55,x56,x57,x58,x59,x60,x61,x62,x63,x64,rfl⟩:=fr65 a' hz hd;have e1:x1= .slice cp cn cc:=h1;have e2:x2= .pointer (some ⟨w.heap.size,0,none⟩):=h2;have e4:x4= .map (some W0.heap.size):=h4;subst e1 e2 e4;clear hz hd h1 h2 h4;have HU:=hD hU;have HBW:=hD (HB0.o.trans (hB1.mono HB0.o.size));have HX1:Hd (RCtx w0 w1 base X p act x r v f mm fs args gp gn gc):=HX.o.below HBW.o;have HRB1:Hd (w1.heap[w.heap.size]?=some (.cells #[.slice s.hp s.hn s.hc, .slice s.mp s.mn s.mc, .slice s.sp s.sn s.sc, .slice s.ap s.an s.ac, .slice s.tp s.tn s.tc, .slice s.cp s.cn s.cc, .slice s.ep s.en s.ec, .slice s.v1 s.n1 s.c1, .slice s.v2 s.n2 s.c2, .slice s.v3 s.n3 s.c3, .slice s.v4 s.n4 s.c4, .slice s.v5 s.n5 s.c5, .slice lp ln lc, .pointer (some ⟨X,0,none⟩), .slice gp gn gc, .bool wi] 127 (0,0))):=(hB1.block _ om).trans HRB.o;have hm1:W0.heap.size<w1.heap.size:=hU.lt;have HPSW:Hd (∀ k,PS X r v f mm fs k->k<w.heap.size):=HPS;have HM0:Hd (W0.heap.size=w.heap.size+1):=hs0;have hw1:w.heap.size<w1.heap.size:=om;clear hU hB1 HB0 hs0;dsimp only;go_wp2_with fail;go_loopw [5] (fun u wr=>∃(a:Nat) (y:Pkt),a<=cn/\u= .int .i64 a/\Hd (Z=runFrom p (apF p l act) args c a y)/\Hd (RCtx w0 wr base X p act y r v f mm fs args gp gn gc)/\Hd (Fr (PS X r v f mm fs) w1 wr)) (fun u _=>cn-(intOf u).toNat)
 case atStart=>exact ⟨0,x,zl,rfl,HR.o,HX1.o,Fr.refl _ _⟩
 case round=>
  obtain ⟨a,y,ha,rfl,HRA,HCX,HFR⟩:=hrel;have hwr:w1.heap.size<=wr.heap.size:=HFR.o.size;by_cases hlt:a<cn
  ·have hai:(a:Int)<(cn:Int):=om;have hac:a<c.length:=by have:=HN.o;omega
   obtain ⟨i,hi⟩:=nm (istAt c a);have hia:c[a]?=some i:=by rw[hi];exact istAt_some hac
   have HRS:Hd (Z=runFrom p (apF p l act) args c (nextI args y i a) (doI p (apF p l act) args y i)):=by show _=_;rw[HRA.o,runFrom_step HJ.o hac, <-hi]
   have HNG:Hd (a<nextI args y i a/\nextI args y i a<=c.length):=⟨by rw[hi];exact nextI_gt HJ.o args y hac,by rw[hi];exact nextI_le HJ.o args y hac⟩;have him:=gM_ hia;obtain ⟨b,o,ep,en,ec,rfl,hb,y0,y1,y2,y3,y4,hye⟩:=IstRow.el HC.o hia;have hmi:=HMI.o i him;have HIO:Hd (InsOk w0 p act i ep en ec):=⟨hmi,HCL.o i him,hye⟩;have HOK:Hd (PktF p (doI p (apF p l act) args y i)/\(doI p (apF p l act) args y i).port=y.port):=doI_ok args HCX.o.F hmi HAO.o;obtain ⟨wk,hwk,-⟩:=mayI_code hmi;have HWK:=hD hwk;have hlow:=HCX.o.low;have c0:=(hlow.cell (p:=⟨b,o+a*5,none⟩) hb).trans y0;have c1:=(hlow.cell (p:=⟨b,o+a*5+1,none⟩) hb).trans y1;have c2:=(hlow.cell (p:=⟨b,o+a*5+2,none⟩) hb).trans y2;have c3:=(hlow.cell (p:=⟨b,o+a*5+3,none⟩) hb).trans y3;have c4:=(hlow.cell (p:=⟨b,o+a*5+4,none⟩) hb).trans y4;have hU:=HU.o.kept2 (w':=wr) (HFR.o.block _ hm1 (fun e=>by have:=HPSW.o _ e;have:=HM0.o;omega));obtain ⟨ik,ia,ib,ie,it⟩:=i;dsimp only at c0 c1 c2 c3 c4;have hk:ik=1\/ik=2\/ik=3\/ik=4\/ik=5\/ik=6\/ik=7\/ik=8:=by
    by_cases h1:ik=1
    ·exact .inl h1
    by_cases h2:ik=2
    ·exact .inr (.inl h2)
    by_cases h3:ik=3
    ·exact .inr (.inr (.inl h3))
    by_cases h6:ik=6
    ·omega
    rcases instW_rest hwk h1 h2 h3 h6 with ⟨h,-⟩|⟨h,-⟩|⟨h,-⟩|⟨h,-⟩<;>dsimp only at h<;>omega
   clear hi hia him hmi hwk hb hye y0 y1 y2 y3 y4 hlow;have hk3:(1<=ik/\ik<=6)\/ik=7\/ik=8:=om;clear hk;rcases hk3 with hk6|rfl|rfl
   ·obtain ⟨fk,hmem,hcf,hcall⟩:=HDO.o (wr.alloc (.cells #[.int .u8 ik, .int .i64 ia, .int .i64 ib, .slice ep en ec, .int .i64 it] 86)) y ⟨ik,ia,ib,ie,it⟩ ep en ec (HCX.o.below (br.alloc lr _)) HIO.o hk6.1 hk6.2;have hlk:=(hU.below (br.alloc lr (.cells #[.int .u8 ik, .int .i64 ia, .int .i64 ib, .slice ep en ec, .int .i64 it] 86))).look (P:=Tryz.prog) (k:=5) (T:=164) (e:=163) Tryz.underlying5 Tryz.underlying164 (x:=ik) (v:=mfV fk R) hmem;have hnx:nextI args y ⟨ik,ia,ib,ie,it⟩ a=a+1:=by unfold nextI;rw[if_neg (fun e=>by rcases e with e|e;dsimp only at e;omega;have:=e.1;dsimp only at this;omega)]
    rw[hnx] at HRS HNG;have hk8:¬ik=8:=om;have hk7:¬ik=7:=om;clear hnx hmem hk6;unfold mfV at hlk;unfold inA at hcall;go_wp2_with (refine hcall.mono ?_;rintro e w2 ⟨rfl,hp2,hf2⟩;have HP2:=hD hp2;have HF2:=hD hf2;have hb2:=(hf2.block wr.heap.size sm (fun e=>by have:=HPSW.o _ e;omega)).trans (heap_new wr _);have j0:w2.cell? ⟨wr.heap.size,0,none⟩=some (.int .u8 ik):=(by simp[World.cell?,hb2]);have j4:w2.cell? ⟨wr.heap.size,4,none⟩=some (.int .i64 it):=(by simp[World.cell?,hb2]);clear hp2 hf2 hb2 hlk);have HF3:Hd (Fr (PS X r v f mm fs) wr w2):=(Fr.of_below (br.alloc lr _)).trans HF2.o;exact gJ3
   ·obtain ⟨N,hN⟩:=nm (evC y args ie);have hlk:=(hU.below (br.alloc lr (.cells #[.int .u8 7, .int .i64 ia, .int .i64 ib, .slice ep en ec, .int .i64 it] 86))).miss (P:=Tryz.prog) (k:=5) (T:=164) (e:=163) Tryz.underlying5 Tryz.underlying164 (Tryz.zeroValue163 _) (x:=7) dq (by simp[doesM]);have hval:=HV.o (wr.alloc (.cells #[.int .u8 7, .int .i64 ia, .int .i64 ib, .slice ep en ec, .int .i64 it] 86)) y ⟨7,ia,ib,ie,it⟩ ep en ec (HCX.o.below (br.alloc lr _)) HIO.o rfl;have hrb:RnBox wr w.heap.size s lp ln lc X gp gn gc wi:=(HFR.o.block _ hw1 (fun e=>absurd (HPSW.o _ e) (Nat.lt_irrefl _))).trans HRB1.o;have hlw:w.heap.size<wr.heap.size:=om;have hrb2:RnBox (wr.alloc (.cells #[.int .u8 7, .int .i64 ia, .int .i64 ib, .slice ep en ec, .int .i64 it] 86)) w.heap.size s lp ln lc X gp gn gc wi:=(Below.heap_alloc _ _ _ hlw).trans hrb;obtain ⟨r0,r1,r2,r3,r4,r5,r6,r7,r8,r9,r10,r11,r12,r13,r14,r15⟩:=hrb2.cells;rw[HRR.o] at hval;clear hrb hrb2;obtain ⟨y3,z3,he3,hy3,hz3⟩:=numV_parts N;have hev:evC y args (⟨7,ia,ib,ie,it⟩:Ist).e=N:=hN.symm;rw[hev,he3] at hval;have heq:∀W,(Go.binOp .eql 82 (.agg #[.int .u64 (y3:Int), .int .u64 (z3:Int)]) (.agg #[.int .u64 0, .int .u64 0])).run Tryz.prog W= .ok (.bool (decide (N=0))) W:=fun W=>by
     have h:=eqp y3 z3 0 0 W;have e:decide (y3=0/\z3=0)=decide (N=0):=by
      rw[decide_eq_decide,hy3,hz3];constructor
      ·rintro ⟨h1,h2⟩;have:=Nat.div_add_mod N B;rw[h1,h2] at this;simpa using this.symm
      ·rintro rfl;exact ⟨by simp,by simp⟩
     rw[e] at h;exact h
    have hdo:doI p (apF p l act) args y ⟨7,ia,ib,ie,it⟩=seen y ie:=by unfold doI execB;rfl
    rw[hdo] at HRS HOK;clear hev he3 hy3 hz3 hdo;unfold inA at hval;dsimp only at hval;by_cases hz:N=0
    ·have hnx:nextI args y ⟨7,ia,ib,ie,it⟩ a=it.toNat:=by unfold nextI;rw[if_pos (.inr ⟨rfl,by rw[<- hz,hN]⟩)]
     rw[hnx] at HRS HNG;obtain ⟨t,rfl⟩:∃t:Nat,it=(t:Int):=⟨it.toNat,by have:=HNG.o.1;omega⟩;have hmx:max ((a:Int)+1) (t:Int)=(t:Int):=by have:=HNG.o.1;simp only[Int.toNat_natCast] at this;omega
     have HTA:Hd (a<t/\t<=c.length):=by show _/\_;have:=HNG.o;simpa using this
     have HRT:Hd (Z=runFrom p (apF p l act) args c t (seen y ie)):=by show Z=_;have:=HRS.o;simpa using this
     have hzb:decide (N=0)=true:=decide_eq_true hz;rw[hzb] at heq;clear hnx hz hzb hN;go_wp2_with (go_at_call 94;refine hval.mono ?_;rintro e w2 ⟨rfl,hp2,hf2⟩;have HP2:=hD hp2;have HF2:=hD hf2;have hb2:=(hf2.block wr.heap.size sm (by show ¬wr.heap.size=X;omega)).trans (heap_new wr _);have j0:w2.cell? ⟨wr.heap.size,0,none⟩=some (.int .u8 7):=(by simp[World.cell?,hb2]);have j4:w2.cell? ⟨wr.heap.size,4,none⟩=some (.int .i64 (t:Int)):=(by simp[World.cell?,hb2]);clear hp2 hf2 hb2 hlk);have HF3:Hd (Fr (PS X r v f mm fs) wr w2):=(Fr.of_below (br.alloc lr _)).trans HF2.o.ps;exact ⟨⟨t,_,by have:=HTA.o;have:=HN.o;omega,by go_num,HRT.o,HCX.o.step HF3.o HP2.o HOK.o.1 HOK.o.2,HFR.o.trans HF3.o⟩,by have:=HTA.o;simp[intOf];omega⟩
    have hnx:nextI args y ⟨7,ia,ib,ie,it⟩ a=a+1:=by unfold nextI;rw[if_neg (fun e=>by rcases e with e|⟨-,e⟩;exact absurd (show (7:Int)=8 from e) dq;exact hz (by rw[hN];exact e))]
    rw[hnx] at HRS HNG;have hzb:decide (N=0)=false:=decide_eq_false hz;rw[hzb] at heq;clear hnx hz hzb hN;go_wp2_with (go_at_call 94;refine hval.mono ?_;rintro e w2 ⟨rfl,hp2,hf2⟩;have HP2:=hD hp2;have HF2:=hD hf2;have hb2:=(hf2.block wr.heap.size sm (by show ¬wr.heap.size=X;omega)).trans (heap_new wr _);have j0:w2.cell? ⟨wr.heap.size,0,none⟩=some (.int .u8 7):=(by simp[World.cell?,hb2]);have j4:w2.cell? ⟨wr.heap.size,4,none⟩=some (.int .i64 it):=(by simp[World.cell?,hb2]);clear hp2 hf2 hb2 hlk);have HF3:Hd (Fr (PS X r v f mm fs) wr w2):=(Fr.of_below (br.alloc lr _)).trans HF2.o.ps;exact gJ3
   have hnx:nextI args y ⟨8,ia,ib,ie,it⟩ a=it.toNat:=by unfold nextI;rw[if_pos (.inl rfl)]
   rw[hnx] at HRS HNG;obtain ⟨t,rfl⟩:∃t:Nat,it=(t:Int):=⟨it.toNat,by have:=HNG.o.1;omega⟩;have hmx:max ((a:Int)+1) (t:Int)=(t:Int):=by have:=HNG.o.1;simp only[Int.toNat_natCast] at this;omega
   have HTA:Hd (a<t/\t<=c.length):=by show _/\_;have:=HNG.o;simpa using this
   have hdo:doI p (apF p l act) args y ⟨8,ia,ib,ie,(t:Int)⟩=y:=by unfold doI execB;rfl
   rw[hdo] at HRS;have HRT:Hd (Z=runFrom p (apF p l act) args c t y):=by show Z=_;have:=HRS.o;simpa using this
   have hlk:=(hU.below (br.alloc lr (.cells #[.int .u8 8, .int .i64 ia, .int .i64 ib, .slice ep en ec, .int .i64 (t:Int)] 86))).miss (P:=Tryz.prog) (k:=5) (T:=164) (e:=163) Tryz.underlying5 Tryz.underlying164 (Tryz.zeroValue163 _) (x:=8) dq (by simp[doesM]);clear hnx hdo;go_wp2_with fail;have HB3:Hd (Bl wr (wr.alloc (.cells #[.int .u8 8, .int .i64 ia, .int .i64 ib, .slice ep en ec, .int .i64 (t:Int)] 86))):=br.alloc lr _;exact ⟨⟨t,_,by have:=HTA.o;have:=HN.o;omega,by go_num,HRT.o,HCX.o.below HB3.o,HFR.o.trans (Fr.of_below HB3.o)⟩,by have:=HTA.o;simp[intOf];omega⟩
  have hcnl:¬(a:Int)<(cn:Int):=om;have HEND:Hd (Z=y):=by show _=_;rw[HRA.o];exact runFrom_stop (by have:=HN.o;omega)
  go_wp2_with fail;go_end0;exact ⟨rfl,by rw[HEND.o];exact HCX.o.P,(Fr.of_below HBW.o).trans HFR.o⟩
end
end Go.Proofs.YtikilcbpogfgkaaGreat
