/- Lemmas. -/
import Derived.Test.YtikilcbpogfgkaaGreatJI15
set_option maxHeartbeats 12800000
set_option maxRecDepth 100000
namespace Go.Proofs.YtikilcbpogfgkaaGreat
open Go.RowKit
theorem may10_any (s:PgS) (p:Prg) (w:World) (hp:PgOk w s p) (hS:Sm p):Calls Tryz.prog 20 #[pgV s] w fun e w'=>e= .returned (.bool (mayP p))/\Bl w w':=
 may_any s p w hp hS fun W i h1 h2 h3=>onCycle_any s p i W h1 hS h2 h3
theorem may_tabs {p:Prg} (h:mayP p=true):∀t∈p.tabs,mayTabP p t=true:=by
 unfold mayP at h;rw[Bool.and_eq_true] at h;exact List.all_eq_true.1 h.2
theorem may_kinds {p:Prg} (h:mayP p=true):∀t∈p.tabs,t.kinds.length=t.keys.length:=fun t ht=>by
 have:=may_tabs h t ht;unfold mayTabP at this;simp only[Bool.and_eq_true,decide_eq_true_eq] at this;exact this.1.1.1.1.2.2.1
theorem ERow.el {w:World} {p:Option Addr} {n c:Nat} {l:List Ent} (h:ERow w (.slice p n c) l) {j:Nat} {x:Ent} (hj:l[j]?=some x):∃b o ep en ec gp gn gc,p=some ⟨b,o,none⟩/\b<w.heap.size/\(w.cell? ⟨b,o+j*6,none⟩=some (.int .i64 x.tab)/\w.cell? ⟨b,o+j*6+1,none⟩=some (.slice ep en ec)/\w.cell? ⟨b,o+j*6+2,none⟩=some (.int .i64 x.len)/\w.cell? ⟨b,o+j*6+3,none⟩=some (.int .i64 x.prio)/\
 w.cell? ⟨b,o+j*6+4,none⟩=some (.int .i64 x.act)/\w.cell? ⟨b,o+j*6+5,none⟩=some (.slice gp gn gc))/\PRow w (.slice ep en ec) x.pats/\NRow w (.slice gp gn gc) x.args:=by
 obtain ⟨b,o,e,h1,h2,⟨v1,h3,k3⟩,h4,h5,h6,⟨v2,h7,k7⟩⟩:=h.get hj;obtain ⟨ep,ec,rfl,-⟩:=k3.shape;obtain ⟨gp,gc,rfl,-⟩:=k7.shape;exact ⟨b,o,ep,_,ec,gp,_,gc,e,h1,⟨h2,h3,h4,h5,h6,h7⟩,k3,k7⟩
theorem may12_any (s:PgS) (p:Prg) (l:List Ent) (lp:Option Addr) (ln lc:Nat) (w:World) (hp:PgOk w s p) (hS:Sm p) (hm:mayP p=true) (hl:ERow w (.slice lp ln lc) l) (hla:∀x∈l,x.args.length<=1000000):
 Calls Tryz.prog 21 #[pgV s, .slice lp ln lc] w fun e w'=>AnsB (fun b=>b=true->∀x∈l,EntOk p x) e/\Bl w w':=by
 have HM:Hd (∀ W,Bl w W->CR 20 #[pgV s] W (.bool true)):=fun W h=>by rw[<- hm];exact may10_any s p W (hp.below h) hS
 have HO:Hd (∀ (x:Ent) W ep en ec gp gn gc,Bl w W->PRow W (.slice ep en ec) x.pats->NRow W (.slice gp gn gc) x.args->x.args.length<=1000000->Calls Tryz.prog 54 #[pgV s, .agg #[.int .i64 x.tab, .slice ep en ec, .int .i64 x.len, .int .i64 x.prio, .int .i64 x.act, .slice gp gn gc]] W fun e w'=>AnsB (fun b=>b=true->EntOk p x) e/\Bl W w'):=fun x W ep en ec gp gn gc h h1 h2 h3=>one12_any s p x ep en ec gp gn gc W (hp.below h) hS (may_kinds hm) h1 h2 (by rw[h2.ln.1];exact h3)
 have HE:Hd (ln=l.length):=hl.ln.1;have HL:=hD hl;have HLA:=hD hla;clear hp hS hm hl hla;unfold pgV at HM HO⊢;go_enter Tryz.func21,Tryz.ntmps21;go_upto_region 1 with fail;obtain ⟨W0,hW0⟩:=nm (w.alloc (.cells (pA s) 33));have HB0:Hd (Bl w W0):=by show Below _ _ _;rw[hW0];exact bL
 have HPB:Hd (PBox W0 w.heap.size s):=by show _=_;rw[hW0];exact heap_new _ _
 rw[<- hW0];clear hW0;obtain ⟨q0,q1,q2,q3,q4,q5,q6,q7,q8,q9,q10,q11⟩:=HPB.o.cells;by_cases h64:64<ln
 ·have h64i:(64:Int)<(ln:Int):=om;go_wp2_with (go_at_call 20;(with_reducible refine (HM.o _ HB0.o).mono ?_);rintro e w1 ⟨rfl,hb1⟩;have HB1:=hD hb1;clear hb1);go_ret;exact ⟨⟨_,rfl,fun h=>by cases h⟩,HB0.o.trans (HB1.o.mono HB0.o.size)⟩
 have h64i:¬(64:Int)<(ln:Int):=om;go_wp2_with (go_at_call 20;(with_reducible refine (HM.o _ HB0.o).mono ?_);rintro e w1 ⟨rfl,hb1⟩;have HB1:=hD hb1;clear hb1);clear q0 q1 q2 q3 q4 q5 q6 q7 q8 q9 q10 q11;go_loopw [5] (fun i wr=>∃k:Nat,k<=ln/\i= .int .i64 k/\Hd (∀ (j:Nat) (x:Ent),j<k->l[j]?=some x->EntOk p x)/\Hd (Bl W0 wr)) (fun i _=>ln-(intOf i).toNat)
 case atStart=>exact ⟨0,zl,rfl,fun j x hj=>absurd hj om,HB1.o⟩
 case round=>
  obtain ⟨k,hk,rfl,HJ,HW⟩:=hrel;by_cases hlt:k<ln
  ·have hki:(k:Int)<(ln:Int):=om;obtain ⟨x,hx⟩:∃x,l[k]?=some x:=⟨_,gE_ (by have:=HE.o;omega)⟩;have hbw:=HB0.o.trans (HW.o.mono HB0.o.size);obtain ⟨b,o,ep,en,ec,gp,gn,gc,rfl,hb,hcs,hy1,hy2⟩:=ERow.el (HL.o.below keepE hbw) hx;have HC:Hd (∀ W,Bl wr W->Calls Tryz.prog 54 #[.agg (pA s), .agg #[.int .i64 x.tab, .slice ep en ec, .int .i64 x.len, .int .i64 x.prio, .int .i64 x.act, .slice gp gn gc]] W fun e w'=>AnsB (fun b=>b=true->EntOk p x) e/\Bl W w'):=fun W h=>HO.o x W ep en ec gp gn gc (hbw.trans (h.mono hbw.size)) (hy1.below keepP h) (hy2.below keepN h) (HLA.o x (gM_ hx))
   obtain ⟨c0,c1,c2,c3,c4,c5⟩:=hcs;obtain ⟨xt,hxt⟩:=nm x.tab;obtain ⟨xl,hxl⟩:=nm x.len;obtain ⟨xp,hxp⟩:=nm x.prio;obtain ⟨xa,hxa⟩:=nm x.act;rw[<- hxt, <-hxl, <-hxp, <-hxa] at HC;rw[<- hxt] at c0;rw[<- hxl] at c2;rw[<- hxp] at c3;rw[<- hxa] at c4;have HCE:Hd (∀ W,Bl wr W->Pgc W w.heap.size s/\Cl W b (o+k*6) (.int .i64 xt)/\Cl W b (o+k*6+1) (.slice ep en ec)/\Cl W b (o+k*6+2) (.int .i64 xl)/\Cl W b (o+k*6+3) (.int .i64 xp)/\Cl W b (o+k*6+4) (.int .i64 xa)/\Cl W b (o+k*6+5) (.slice gp gn gc)):=fun W h=>
    ⟨(HPB.o.below (HW.o.trans (h.mono HW.o.size))).cells,(h.cell (p:=⟨b,o+k*6,none⟩) hb).trans c0,(h.cell (p:=⟨b,o+k*6+1,none⟩) hb).trans c1,(h.cell (p:=⟨b,o+k*6+2,none⟩) hb).trans c2,(h.cell (p:=⟨b,o+k*6+3,none⟩) hb).trans c3,(h.cell (p:=⟨b,o+k*6+4,none⟩) hb).trans c4,(h.cell (p:=⟨b,o+k*6+5,none⟩) hb).trans c5⟩
   have HX:=hD hx;clear hx hbw hb hy1 hy2 c0 c1 c2 c3 c4 c5 hxt hxl hxp hxa;go_upto_region 6 with fail;refine roB wr ?_;refine sq (fun aa ww ll hh=>by have:=hh.oL 2;exact ov (fC (HCE.o ww hh.inv))) ?_;refine sq (fun aa ww ll hh=>by exact ov (xmv (hh.oL 1))) ?_;refine sq (fun aa ww ll hh=>by exact ov (xmv (hh.oL 5))) ?_;refine sq (fun aa ww ll hh=>by have:=hh.gt 1 1;have:=hh.gt 2 0;exact ov gX) ?_;refine sq (fun aa ww ll hh=>by have:=hh.gt 3 0;exact ov (fC (HCE.o ww hh.inv))) ?_;refine ⟨.rel (fun _ v=>∃b,v= .bool b/\(b=true->EntOk p x)),(fun _ _ _ h _=>h),rfl,fun aa ww ll hh=>?_,?_⟩
   ·have e20:=hh.gt 0 4;have e24:=hh.gt 4 0;have ef:=evf aa;refine out_call (wanted_none rfl) ?_ ((HC.o ww hh.inv).mono ?_)
    ·clear hh;generalize aa.eval=ev at e20 e24 ef⊢;go_simp
    rintro e w1 ⟨⟨bb,rfl,h1⟩,h2⟩;exact ⟨_,rfl,⟨bb,rfl,h1⟩,h2⟩
   refine ⟨.rel (fun _ v=>∃b,v= .bool !b/\(b=true->EntOk p x)),(fun _ _ _ h _=>h),rfl,fun aa ww ll hh=>?_,?_⟩
   ·obtain ⟨x25,e25,-,p25⟩:=hh.got 5 0 kq rfl rfl rfl;obtain ⟨bb,rfl,h1⟩:=p25;refine out_new (wanted_none rfl) (w':=ww) (v:= .bool !bb) ?_ br ⟨bb,rfl,h1⟩;clear hh;generalize aa.eval=ev at e25⊢;go_simp
   intro ll w2 hS hok;have p6:=hok 6 _ rfl;clear hok;simp only[ly];obtain ⟨bo,hbo,hok⟩:=p6;rw[hbo];have HOK:=hD hok;have HW2:=hD (HW.o.trans (hS.mono HW.o.size));clear hbo hok hS;cases bo
   ·go_wp2_with fail;go_ret;exact ⟨⟨_,rfl,fun h=>by cases h⟩,HB0.o.trans (HW2.o.mono HB0.o.size)⟩
   ·go_wp2_with fail;go_roundw
    case rel=>exact ⟨k+1,om,by go_num,fun j y hj hy=>by
     rcases Nat.lt_or_ge j k with q|q
     ·exact HJ.o j y q hy
     ·obtain rfl:j=k:=om
      have:=HX.o;rw[hy] at this;cases this;exact HOK.o (by trivial),HW2.o⟩
    case measure=>exact mz
  obtain rfl:k=ln:=om;have hki:¬(k:Int)<(k:Int):=om;go_wp2_with fail;go_ret;exact ⟨⟨_,rfl,fun _ x hx=>by
   obtain ⟨j,hj⟩:=List.getElem?_of_mem hx;exact HJ.o j x (by have:=(gL_ hj).1;have:=HE.o;omega) hj⟩,HB0.o.trans (HW.o.mono HB0.o.size)⟩
open Go.RowKit
theorem all_f {α:Type} {f:α->Bool} {l:List α} {j:Nat} {x:α} (hj:l[j]?=some x) (hf:f x=false):l.all f=false:=by
 exact gH4
theorem all_t {α:Type} {f:α->Bool} {l:List α} (h:∀(j:Nat) (x:α),l[j]?=some x->f x=true):l.all f=true:=by
 rw[List.all_eq_true];intro x hx;obtain ⟨j,hj⟩:=List.getElem?_of_mem hx;exact h j x hj
theorem widths19_any (l:List Int) (p:Option Addr) (n c:Nat) (w:World) (h:IRow w (.slice p n c) l) (hl:n<=1000000):Calls Tryz.prog 45 #[.slice p n c] w fun e w'=>e= .returned (.bool (l.all okP))/\Bl w w':=by
 obtain ⟨e1,e2,e3,-⟩:=h.ln;have HH:=hD h;have HE:=hD e1;obtain ⟨R,hR⟩:=nm (l.all okP);rw[<- hR];have HR:=hD hR;clear h e1 hR;go_enter Tryz.func45,Tryz.ntmps45;go_wp2_with fail;go_loopw [3] (fun i wr=>∃k:Nat,k<=n/\i= .int .i64 k/\wr=w/\Hd (∀ j,j<k->okP (l.getD j 0)=true)) (fun i _=>n-(intOf i).toNat)
 case atStart=>exact ⟨0,zl,rfl,rfl,fun j hj=>absurd hj om⟩
 case round=>
  obtain ⟨k,hk,rfl,rfl,HJ⟩:=hrel;by_cases hlt:k<n
  ·obtain ⟨b,o,rfl,-,hc⟩:=IRow.el HH.o (j:=k) (by have:=HE.o;omega);have hxk:=some_getD (l:=l) (j:=k) 0 (by have:=HE.o;omega);obtain ⟨z,hz⟩:=nm (l.getD k 0);rw[<- hz] at hc hxk;have HZ:=hD (And.intro hz hxk);have hki:(k:Int)<(n:Int):=om;clear hz hxk;by_cases h1:1<=z/\z<=128
   ·obtain ⟨g1,g2⟩:=h1;have g3:¬z<1:=om;have g4:¬128<z:=om;have HG:=hD (And.intro g1 g2);clear g1 g2;go_wp2_with fail;go_roundw
    case rel=>exact ⟨k+1,om,by go_num,(by first|trivial|rfl),fun j hj=>by
     rcases Nat.lt_or_ge j k with q|q
     ·exact HJ.o j q
     ·obtain rfl:j=k:=om
      rw[<- HZ.o.1];have:=HG.o;unfold okP;simp;omega⟩
    case measure=>exact mz
   have hr:R=false:=HR.o.trans (all_f HZ.o.2 (by unfold okP;simp;omega));rcases (show z<1\/(¬ z<1/\128<z) by omega) with g1|⟨g1,g2⟩
   all_goals
    go_wp2_with fail;go_ret;exact ⟨by first|rfl|(rw[hr];rfl),Below.refl _ _⟩
  obtain rfl:k=n:=om;have hr:R=true:=HR.o.trans <| all_t fun j x hj=>by
   have:=HJ.o j (by have:=(gL_ hj).1;have:=HE.o;omega)
   rwa [getD_some hj] at this
  go_wp2_with fail;go_ret;exact ⟨by first|rfl|(rw[hr];rfl),Below.refl _ _⟩
open Go.RowKit
theorem bits19_any (s:PgS) (p:Prg) (k:Nat) (hd:List Int) (w:World) (hp:PgOk w s p) (hS:Sm p) (hk:p.heads[k]?=some hd):
 Calls Tryz.prog 46 #[pgV s, .int .i64 (k:Int)] w fun e w'=>e= .returned (.int .i64 (wrap64 (sumI hd)))/\Bl w w':=by
 have hki:(k:Int)<(s.hn:Int):=by have:=(gL_ hk).1;have:=hp.heads.ln.1;omega
 obtain ⟨b,o,p1,nr,c1,hps,hb,y0,hrow⟩:=IsRow.el hp.heads (j:=k) (gL_ hk).1;rw[getD_some hk] at hrow;have HNR:Hd (nr=hd.length):=hrow.ln.1;have hnl:nr<=6000:=by have:=hrow.ln.1;have:=hS.head _ (gM_ hk);omega
 have HROW:=hD hrow;have HY:Hd (∀ W,Bl w W->Cl W b (o+k) (.slice p1 nr c1)):=fun W h=>(h.cell (p:=⟨b,o+k,none⟩) hb).trans y0
 have HPS:=hD hps;clear hp hS hk hps hb y0 hrow;unfold pgV;go_enter Tryz.func46,Tryz.ntmps46;go_upto_region 1 with fail;obtain ⟨W0,hW0⟩:=nm (w.alloc (.cells (pA s) 33));have HB0:Hd (Bl w W0):=by show Below _ _ _;rw[hW0];exact bL
 have HPB:Hd (PBox W0 w.heap.size s):=by show _=_;rw[hW0];exact heap_new _ _
 rw[<- hW0];clear hW0;have HROW0:=hD (HROW.o.below keepI HB0.o);have q0:=HPB.o.cells.1;rw[HPS.o] at q0;have y0:=HY.o W0 HB0.o;go_wp2_with fail;go_loopw [5,6] (fun u i wq=>∃z:Nat,z<=nr/\i= .int .i64 z/\u= .int .i64 (wrap64 (sumI (hd.take z)))/\wq=W0) (fun _ i _=>nr-(intOf i).toNat)
 case atStart=>exact ⟨0,zl,rfl,by simp[sumI,wrap64],rfl⟩
 case round=>
  obtain ⟨z,hz,rfl,rfl,rfl⟩:=hrel;by_cases hzl:z<nr
  ·obtain ⟨rb,ro,rfl,-,hrc⟩:=IRow.el HROW0.o (j:=z) (by have:=HNR.o;omega);have hzi:(z:Int)<(nr:Int):=om;exact gK1
  obtain rfl:z=nr:=om;have hzi:¬(z:Int)<(z:Int):=om;have hall:hd.take z=hd:=List.take_of_length_le (by have:=HNR.o;omega);rw[hall];clear hall;go_wp2_with fail;go_ret;exact ⟨rfl,HB0.o⟩
theorem may19_any (s:PgS) (p:Prg) (w:World) (hp:PgOk w s p) (hS:Sm p):Calls Tryz.prog 19 #[pgV s] w fun e w'=>AnsB (fun _=>True) e/\Bl w w':=by
 have HP:=hD hp;have HSM:=hD hS;have HN:Hd (s.hn=p.heads.length/\s.en=p.emit.length):=⟨hp.heads.ln.1,hp.emit.ln.1⟩;have HMW:Hd (∀ W,Bl w W->CR 45 #[.slice s.mp s.mn s.mc] W (.bool (p.metas.all okP))):=fun W h=>widths19_any _ _ _ _ W (hp.metas.below keepI h) (by have:=hp.metas.ln.1;have:=hS.metas;omega)
 generalize p.metas.all okP=rmw at HMW;clear hp hS;have HBT:Hd (∀ (k:Nat) (hd:List Int),p.heads[k]?=some hd->∀W,Bl w W->CR 46 #[pgV s, .int .i64 (k:Int)] W (.int .i64 (wrap64 (sumI hd)))):=fun k hd hk W h=>bits19_any s p k hd W (HP.o.below h) HSM.o hk
 unfold pgV at HBT⊢;go_enter Tryz.func19,Tryz.ntmps19;go_upto_region 1 with fail;obtain ⟨W0,hW0⟩:=nm (w.alloc (.cells (pA s) 33));have HB0:Hd (Bl w W0):=by show Below _ _ _;rw[hW0];exact bL
 have HPB:Hd (PBox W0 w.heap.size s):=by show _=_;rw[hW0];exact heap_new _ _
 rw[<- hW0];clear hW0;obtain ⟨q0,q1,q2,q3,q4,q5,q6,q7,q8,q9,q10,q11⟩:=HPB.o.cells;rcases (show 8<(s.hn:Int)\/(¬ 8<(s.hn:Int)/\16<(s.mn:Int))\/(¬ 8<(s.hn:Int)/\¬16<(s.mn:Int)/\8<(s.en:Int))\/(¬ 8<(s.hn:Int)/\¬16<(s.mn:Int)/\¬8<(s.en:Int)) by omega) with g1|⟨g1,g2⟩|⟨g1,g2,g3⟩|⟨g1,g2,g3⟩
 ·exact gI4
 ·exact gI4
 ·exact gI4
 have hb8:s.hn<=8:=om;have he8:s.en<=8:=om;go_wp2_with fail;clear g1 g2 g3;go_loopw [3] (fun i wr=>∃k:Nat,k<=s.hn/\i= .int .i64 k/\Hd (Bl W0 wr)) (fun i _=>s.hn-(intOf i).toNat)
 case atStart=>exact ⟨0,zl,rfl,Below.refl _ _⟩
 case round=>
  obtain ⟨k,hk,rfl,HW⟩:=hrel;clear q0 q1 q2 q3 q4 q5 q6 q7 q8 q9 q10 q11;have q0:=(HPB.o.below HW.o).cells.1;by_cases hlt:k<s.hn
  ·obtain ⟨hd,hdq⟩:∃l,p.heads[k]?=some l:=⟨_,gE_ (by have:=HN.o.1;omega)⟩;have hbw:=HB0.o.trans (HW.o.mono HB0.o.size);obtain ⟨b,o,p1,nr,c1,hps,hbl,hcell,hrow⟩:=IsRow.el (HP.o.heads.below keepIs hbw) (j:=k) (by have:=HN.o.1;omega);rw[getD_some hdq] at hrow;have hki:(k:Int)<(s.hn:Int):=om;obtain ⟨ra,hra⟩:=nm (hd.all okP);have HWD:Hd (∀ W,Bl wr W->CR 45 #[.slice p1 nr c1] W (.bool ra)):=fun W h=>by rw[hra];exact widths19_any hd _ _ _ W (hrow.below keepI h) (by have:=hrow.ln.1;have:=HSM.o.head _ (gM_ hdq);omega)
   obtain ⟨S,hS⟩:=nm (wrap64 (sumI hd));have HBI:Hd (∀ W,Bl wr W->CR 46 #[.agg #[.slice s.hp s.hn s.hc, .slice s.mp s.mn s.mc, .slice s.sp s.sn s.sc, .slice s.ap s.an s.ac, .slice s.tp s.tn s.tc, .slice s.cp s.cn s.cc, .slice s.ep s.en s.ec, .slice s.v1 s.n1 s.c1, .slice s.v2 s.n2 s.c2, .slice s.v3 s.n3 s.c3, .slice s.v4 s.n4 s.c4, .slice s.v5 s.n5 s.c5], .int .i64 (k:Int)] W (.int .i64 S)):=fun W h=>by rw[hS];exact HBT.o k hd hdq W (hbw.trans (h.mono hbw.size))
   have HCE:Hd (∀ W,Bl wr W->(Cl W w.heap.size 0 (.slice s.hp s.hn s.hc)/\Cl W w.heap.size 1 (.slice s.mp s.mn s.mc)/\Cl W w.heap.size 2 (.slice s.sp s.sn s.sc)/\Cl W w.heap.size 3 (.slice s.ap s.an s.ac)/\Cl W w.heap.size 4 (.slice s.tp s.tn s.tc)/\Cl W w.heap.size 5 (.slice s.cp s.cn s.cc)/\Cl W w.heap.size 6 (.slice s.ep s.en s.ec)/\Cl W w.heap.size 7 (.slice s.v1 s.n1 s.c1)/\Cl W w.heap.size 8 (.slice s.v2 s.n2 s.c2)/\Cl W w.heap.size 9 (.slice s.v3 s.n3 s.c3)/\Cl W w.heap.size 10 (.slice s.v4 s.n4 s.c4)/\Cl W w.heap.size 11 (.slice s.v5 s.n5 s.c5))/\Cl W b (o+k) (.slice p1 nr c1)):=fun W h=>⟨(HPB.o.below (HW.o.trans (h.mono HW.o.size))).cells,(h.cell (p:=⟨b,o+k,none⟩) hbl).trans hcell⟩
   have HPS:=hD hps;rw[hps] at HBI HCE;clear hra hS hdq hbw hbl hcell hrow hps;clear q0;obtain ⟨⟨q0,q1,q2,q3,q4,q5,q6,q7,q8,q9,q10,q11⟩,y0⟩:=HCE.o wr br;have hcase:((nr:Int)<1)\/(¬ (nr:Int)<1/\16<(nr:Int))\/(¬ (nr:Int)<1/\¬16<(nr:Int)/\ra=false)\/(¬ (nr:Int)<1/\¬16<(nr:Int)/\ra=true/\¬S.tmod 8=0)\/(¬ (nr:Int)<1/\¬16<(nr:Int)/\ra=true/\S.tmod 8=0/\256<S)\/(¬ (nr:Int)<1/\¬16<(nr:Int)/\ra=true/\S.tmod 8=0/\¬256<S):=by
    cases ra<;>simp<;>omega
   have HBW:=hD (HB0.o.trans (HW.o.mono HB0.o.size));rcases hcase with g1|⟨g1,g2⟩|⟨g1,g2,rfl⟩|⟨g1,g2,rfl,g4⟩|⟨g1,g2,rfl,g4,g5⟩|⟨g1,g2,rfl,g4,g5⟩
   ·go_wp2_with fail;go_ret;exact ⟨⟨_,rfl,trivial⟩,HBW.o⟩
   ·go_wp2_with fail;go_ret;exact ⟨⟨_,rfl,trivial⟩,HBW.o⟩
   ·go_wp2_with (first
    |(go_at_call 45;(with_reducible refine (HWD.o _ br).mono ?_);rintro e w1 ⟨rfl,hb1⟩;have HB1:=hD hb1;clear hb1;obtain ⟨⟨q0,q1,q2,q3,q4,q5,q6,q7,q8,q9,q10,q11⟩,y0⟩:=HCE.o w1 HB1.o)
    |(go_at_call 46;(with_reducible refine (HBI.o _ HB1.o).mono ?_);rintro e w2 ⟨rfl,hb2⟩;have HB2:=hD (HB1.o.trans (hb2.mono HB1.o.size));clear hb2;obtain ⟨⟨q0,q1,q2,q3,q4,q5,q6,q7,q8,q9,q10,q11⟩,y0⟩:=HCE.o w2 HB2.o)
    |(go_at_call 46;(with_reducible refine (HBI.o _ HB2.o).mono ?_);rintro e w3 ⟨rfl,hb3⟩;have HB3:=hD (HB2.o.trans (hb3.mono HB2.o.size));clear hb3))
    go_ret;exact ⟨⟨_,rfl,trivial⟩,HBW.o.trans (HB1.o.mono HBW.o.size)⟩
   ·go_wp2_with (first
    |(go_at_call 45;(with_reducible refine (HWD.o _ br).mono ?_);rintro e w1 ⟨rfl,hb1⟩;have HB1:=hD hb1;clear hb1;obtain ⟨⟨q0,q1,q2,q3,q4,q5,q6,q7,q8,q9,q10,q11⟩,y0⟩:=HCE.o w1 HB1.o)
    |(go_at_call 46;(with_reducible refine (HBI.o _ HB1.o).mono ?_);rintro e w2 ⟨rfl,hb2⟩;have HB2:=hD (HB1.o.trans (hb2.mono HB1.o.size));clear hb2;obtain ⟨⟨q0,q1,q2,q3,q4,q5,q6,q7,q8,q9,q10,q11⟩,y0⟩:=HCE.o w2 HB2.o)
    |(go_at_call 46;(with_reducible refine (HBI.o _ HB2.o).mono ?_);rintro e w3 ⟨rfl,hb3⟩;have HB3:=hD (HB2.o.trans (hb3.mono HB2.o.size));clear hb3))
    go_ret;exact ⟨⟨_,rfl,trivial⟩,HBW.o.trans (HB2.o.mono HBW.o.size)⟩
   ·go_wp2_with (first
    |(go_at_call 45;(with_reducible refine (HWD.o _ br).mono ?_);rintro e w1 ⟨rfl,hb1⟩;have HB1:=hD hb1;clear hb1;obtain ⟨⟨q0,q1,q2,q3,q4,q5,q6,q7,q8,q9,q10,q11⟩,y0⟩:=HCE.o w1 HB1.o)
    |(go_at_call 46;(with_reducible refine (HBI.o _ HB1.o).mono ?_);rintro e w2 ⟨rfl,hb2⟩;have HB2:=hD (HB1.o.trans (hb2.mono HB1.o.size));clear hb2;obtain ⟨⟨q0,q1,q2,q3,q4,q5,q6,q7,q8,q9,q10,q11⟩,y0⟩:=HCE.o w2 HB2.o)
    |(go_at_call 46;(with_reducible refine (HBI.o _ HB2.o).mono ?_);rintro e w3 ⟨rfl,hb3⟩;have HB3:=hD (HB2.o.trans (hb3.mono HB2.o.size));clear hb3))
    go_ret;exact ⟨⟨_,rfl,trivial⟩,HBW.o.trans (HB3.o.mono HBW.o.size)⟩
   go_wp2_with (first
   |(go_at_call 45;(with_reducible refine (HWD.o _ br).mono ?_);rintro e w1 ⟨rfl,hb1⟩;have HB1:=hD hb1;clear hb1;obtain ⟨⟨q0,q1,q2,q3,q4,q5,q6,q7,q8,q9,q10,q11⟩,y0⟩:=HCE.o w1 HB1.o)
   |(go_at_call 46;(with_reducible refine (HBI.o _ HB1.o).mono ?_);rintro e w2 ⟨rfl,hb2⟩;have HB2:=hD (HB1.o.trans (hb2.mono HB1.o.size));clear hb2;obtain ⟨⟨q0,q1,q2,q3,q4,q5,q6,q7,q8,q9,q10,q11⟩,y0⟩:=HCE.o w2 HB2.o)
   |(go_at_call 46;(with_reducible refine (HBI.o _ HB2.o).mono ?_);rintro e w3 ⟨rfl,hb3⟩;have HB3:=hD (HB2.o.trans (hb3.mono HB2.o.size));clear hb3))
   go_roundw
   case rel=>exact ⟨k+1,om,by go_num,HW.o.trans (HB3.o.mono HW.o.size)⟩
   case measure=>exact mz
  obtain rfl:k=s.hn:=om;have hki:¬(s.hn:Int)<(s.hn:Int):=om;obtain ⟨q0,q1,q2,q3,q4,q5,q6,q7,q8,q9,q10,q11⟩:=(HPB.o.below HW.o).cells;go_wp2_with fail;clear q0 q1 q2 q3 q4 q5 q6 q7 q8 q9 q10 q11;go_loopw [4,5] (fun i u wr=>∃j:Nat,j<=s.en/\i= .int .i64 j/\Hd (Bl W0 wr)) (fun i u _=>s.en-(intOf i).toNat)
  case atStart=>exact ⟨0,zl,rfl,HW.o⟩
  case round=>
   clear HW;obtain ⟨j,hj,rfl,HW⟩:=hrel;obtain ⟨q0,q1,q2,q3,q4,q5,q6,q7,q8,q9,q10,q11⟩:=(HPB.o.below HW.o).cells;have hbw:=HB0.o.trans (HW.o.mono HB0.o.size);by_cases hjl:j<s.en
   ·have hji:(j:Int)<(s.en:Int):=om;obtain ⟨b,o,hps,hbl,y0⟩:=IRow.el (HP.o.emit.below keepI hbw) (j:=j) (by have:=HN.o.2;omega);obtain ⟨v,hv⟩:=nm (p.emit.getD j 0);rw[<- hv] at y0;have HAL:Hd (∀ i:Nat,i<s.en->∃v,∀W,Bl wr W->Cl W b (o+i) (.int .i64 v)):=fun i hi=>by
     obtain ⟨b',o',hps',hbl',y'⟩:=IRow.el (HP.o.emit.below keepI hbw) (j:=i) (by have:=HN.o.2;omega);rw[hps] at hps';cases hps';exact ⟨_,fun W h=>(h.cell (p:=⟨b,o+i,none⟩) hbl).trans y'⟩
    have HCE:Hd (∀ W,Bl wr W->Cl W w.heap.size 0 (.slice s.hp s.hn s.hc)/\Cl W w.heap.size 6 (.slice s.ep s.en s.ec)/\Cl W b (o+j) (.int .i64 v)):=fun W h=>⟨(HPB.o.below (HW.o.trans (h.mono HW.o.size))).cells.1,(HPB.o.below (HW.o.trans (h.mono HW.o.size))).cells.2.2.2.2.2.2.1,(h.cell (p:=⟨b,o+j,none⟩) hbl).trans y0⟩
    rw[hps] at HCE;clear hv hbw hbl y0 hps;by_cases hv0:v<0
    ·go_upto_region 11 with fail;refine roB wr ?_;refine sq (fun aa ww ll hh=>by have:=hh.oL 1;exact ov gX) ?_;refine sq (fun aa ww ll hh=>by have:=hh.gt 0 0;exact ov (fC (HCE.o ww hh.inv))) ?_;refine sq (fun aa ww ll hh=>by exact ov (xmv (hh.oL 4))) ?_;refine sq (fun aa ww ll hh=>by have:=hh.gt 1 1;have:=hh.gt 2 0;exact ov gX) ?_;refine sq (fun aa ww ll hh=>by have:=hh.gt 3 0;exact ov (fC (HCE.o ww hh.inv))) ?_;refine sq (fun aa ww ll hh=>by have:=hh.gt 4 0;have ec:=evc aa;exact ov gX) ?_;refine stm 5 0 ?_;refine stk 0 ?_;refine stk 1 ?_;refine stk 2 ?_;refine stk 3 ?_;refine stk 4 ?_;refine stk 5 ?_;refine stk 6 ?_;refine stk 7 ?_;refine stk 8 ?_;exact gW1
    by_cases hv1:(s.hn:Int)<=v
    ·go_upto_region 11 with fail;refine roB wr ?_;refine sq (fun aa ww ll hh=>by have:=hh.oL 1;exact ov gX) ?_;refine sq (fun aa ww ll hh=>by have:=hh.gt 0 0;exact ov (fC (HCE.o ww hh.inv))) ?_;refine sq (fun aa ww ll hh=>by exact ov (xmv (hh.oL 4))) ?_;refine sq (fun aa ww ll hh=>by have:=hh.gt 1 1;have:=hh.gt 2 0;exact ov gX) ?_;refine sq (fun aa ww ll hh=>by have:=hh.gt 3 0;exact ov (fC (HCE.o ww hh.inv))) ?_;refine sq (fun aa ww ll hh=>by have:=hh.gt 4 0;have ec:=evc aa;exact ov gX) ?_;refine stm 5 0 ?_;refine sq (fun aa ww ll hh=>by have:=hh.oL 1;exact hh.og 0 gX) ?_;refine sq (fun aa ww ll hh=>by have:=hh.gt 7 0;exact hh.og 1 (fC (HCE.o ww hh.inv))) ?_;refine sq (fun aa ww ll hh=>by exact hh.og 2 (xmv (hh.oL 4))) ?_;refine sq (fun aa ww ll hh=>by have:=hh.gt 8 1;have:=hh.gt 9 0;exact hh.og 3 gX) ?_;refine sq (fun aa ww ll hh=>by have:=hh.gt 10 0;exact hh.og 4 (fC (HCE.o ww hh.inv))) ?_;refine sq (fun aa ww ll hh=>by have:=hh.oL 1;exact hh.og 5 gX) ?_;refine sq (fun aa ww ll hh=>by have:=hh.gt 12 0;exact hh.og 6 (fC (HCE.o ww hh.inv))) ?_;refine sq (fun aa ww ll hh=>by have:=hh.gt 13 0;exact hh.og 7 (fC (HCE.o ww hh.inv))) ?_;refine sq (fun aa ww ll hh=>by have:=hh.gt 11 3;have:=hh.gt 14 0;exact hh.og 8 gX) ?_;exact gW1
    go_upto_region 11 with fail;refine roB wr ?_;refine sq (fun aa ww ll hh=>by have:=hh.oL 1;exact ov gX) ?_;refine sq (fun aa ww ll hh=>by have:=hh.gt 0 0;exact ov (fC (HCE.o ww hh.inv))) ?_;refine sq (fun aa ww ll hh=>by exact ov (xmv (hh.oL 4))) ?_;refine sq (fun aa ww ll hh=>by have:=hh.gt 1 1;have:=hh.gt 2 0;exact ov gX) ?_;refine sq (fun aa ww ll hh=>by have:=hh.gt 3 0;exact ov (fC (HCE.o ww hh.inv))) ?_;refine sq (fun aa ww ll hh=>by have:=hh.gt 4 0;have ec:=evc aa;exact ov gX) ?_;refine stm 5 0 ?_;refine sq (fun aa ww ll hh=>by have:=hh.oL 1;exact hh.og 0 gX) ?_;refine sq (fun aa ww ll hh=>by have:=hh.gt 7 0;exact hh.og 1 (fC (HCE.o ww hh.inv))) ?_;refine sq (fun aa ww ll hh=>by exact hh.og 2 (xmv (hh.oL 4))) ?_;refine sq (fun aa ww ll hh=>by have:=hh.gt 8 1;have:=hh.gt 9 0;exact hh.og 3 gX) ?_;refine sq (fun aa ww ll hh=>by have:=hh.gt 10 0;exact hh.og 4 (fC (HCE.o ww hh.inv))) ?_;refine sq (fun aa ww ll hh=>by have:=hh.oL 1;exact hh.og 5 gX) ?_;refine sq (fun aa ww ll hh=>by have:=hh.gt 12 0;exact hh.og 6 (fC (HCE.o ww hh.inv))) ?_;refine sq (fun aa ww ll hh=>by have:=hh.gt 13 0;exact hh.og 7 (fC (HCE.o ww hh.inv))) ?_;refine sq (fun aa ww ll hh=>by have:=hh.gt 11 3;have:=hh.gt 14 0;exact hh.og 8 gX) ?_;refine sq (fun aa ww ll hh=>by have:=hh.gt 6 9;have:=hh.gt 15 0;have ec:=evc aa;exact ov gX) ?_;intro ll w2 hS hok;clear hok;simp only[ly];clear q0 q1 q2 q3 q4 q5 q6 q7 q8 q9 q10 q11;have HB2:=hD hS;clear hS;go_wp2_with fail;go_loopw [5] (fun u wq=>∃i:Nat,i<=j/\u= .int .i64 i/\Hd (Bl wr wq)) (fun u _=>j-(intOf u).toNat)
    case atStart=>exact ⟨0,zl,rfl,HB2.o⟩
    case round=>
     obtain ⟨i,hi,rfl,HQ⟩:=hrel;by_cases hil:i<j
     ·have hili:(i:Int)<(j:Int):=om;have hile:(i:Int)<(s.en:Int):=om;obtain ⟨x,hx⟩:=HAL.o i om;have HX:=hD hx;clear hx;obtain ⟨q0,q6,y0⟩:=HCE.o _ HQ.o;have y1:=HX.o _ HQ.o;go_upto_region 16 with fail;go_quiet (fail);have HQ2:=hD (below_drewN HQ.o nq);go_wp2_with fail;all_goals first
       |(go_ret;exact ⟨⟨_,rfl,trivial⟩,HB0.o.trans ((HW.o.trans (HQ2.o.mono HW.o.size)).mono HB0.o.size)⟩)
       |(
        go_roundw
        case rel=>exact ⟨i+1,om,by go_num,HQ2.o⟩
        case measure=>simp[intOf];omega)
     obtain rfl:i=j:=om;have hili:¬(i:Int)<(i:Int):=om;go_wp2_with fail;go_roundw
     case rel=>exact ⟨i+1,om,by go_num,HW.o.trans (HQ.o.mono HW.o.size)⟩
     case measure=>exact mz
   obtain rfl:j=s.en:=om;have hji:¬(s.en:Int)<(s.en:Int):=om;clear hbw;go_wp2_with (go_at_call 45;(with_reducible refine (HMW.o _ (HB0.o.trans (HW.o.mono HB0.o.size))).mono ?_);rintro e w1 ⟨rfl,hb1⟩;have HB1:=hD hb1;clear hb1);go_ret;exact ⟨⟨_,rfl,trivial⟩,HB0.o.trans ((HW.o.trans (HB1.o.mono HW.o.size)).mono HB0.o.size)⟩
end Go.Proofs.YtikilcbpogfgkaaGreat
