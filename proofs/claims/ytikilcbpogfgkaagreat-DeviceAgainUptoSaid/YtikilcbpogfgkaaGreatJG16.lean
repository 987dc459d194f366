/- Lemmas. -/
import Derived.Test.YtikilcbpogfgkaaGreatJG15
set_option maxHeartbeats 6400000
set_option maxRecDepth 100000
namespace Go.Proofs.YtikilcbpogfgkaaGreat
open Go.RowKit
theorem may10_any (s:PgS) (p:Prg) (w:World) (hp:PgOk w s p) (hS:Sm p):Calls Tryz.prog 20 #[pgV s] w fun e w'=>e= .returned (.bool (mayP p))/\Bl w w':=
 may_any s p w hp hS fun W i h1 h2 h3=>onCycle_any s p i W h1 hS h2 h3
theorem may_tabs {p:Prg} (h:mayP p=true):∀t∈p.tabs,mayTabP p t=true:=by
 unfold mayP at h;rw[Bool.and_eq_true] at h;exact List.all_eq_true.1 h.2
theorem may_kinds {p:Prg} (h:mayP p=true):∀t∈p.tabs,t.kinds.length=t.keys.length:=fun t ht=>by
 have:=may_tabs h t ht;unfold mayTabP at this;simp only[Bool.and_eq_true,decide_eq_true_eq] at this;exact this.1.1.1.1.2.2.1
theorem ERow.el {w:World} {p:Option Addr} {n c:Nat} {l:List Ent} (h:ERow w (.slice p n c) l) {j:Nat} {x:Ent} (hj:l[j]?=some x):∃b o ep en ec gp gn gc,p=some ⟨b,o,none⟩/\b<w.heap.size/\(w.cell? ⟨b,o+j*6,none⟩=some (.int .i64 x.tab)/\w.cell? ⟨b,o+j*6+1,none⟩=some (.slice ep en ec)/\w.cell? ⟨b,o+j*6+2,none⟩=some (.int .i64 x.len)/\w.cell? ⟨b,o+j*6+3,none⟩=some (.int .i64 x.prio)/\
 w.cell? ⟨b,o+j*6+4,none⟩=some (.int .i64 x.act)/\w.cell? ⟨b,o+j*6+5,none⟩=some (.slice gp gn gc))/\PRow w (.slice ep en ec) x.pats/\NRow w (.slice gp gn gc) x.args:=by
 obtain ⟨b,o,e,h1,h2,⟨v1,h3,k3⟩,h4,h5,h6,⟨v2,h7,k7⟩⟩:=h.get hj;obtain ⟨ep,ec,rfl,-⟩:=k3.shape;obtain ⟨gp,gc,rfl,-⟩:=k7.shape;exact ⟨b,o,ep,_,ec,gp,_,gc,e,h1,⟨h2,h3,h4,h5,h6,h7⟩,k3,k7⟩
theorem may12_any (s:PgS) (p:Prg) (l:List Ent) (lp:Option Addr) (ln lc:Nat) (w:World) (hp:PgOk w s p) (hS:Sm p) (hm:mayP p=true) (hl:ERow w (.slice lp ln lc) l) (hla:∀x∈l,x.args.length<=1000000):
 Calls Tryz.prog 21 #[pgV s, .slice lp ln lc] w fun e w'=>AnsB (fun b=>b=true->∀x∈l,EntOk p x) e/\Bl w w':=by
 have HM:Hd (∀ W,Bl w W->CR 20 #[pgV s] W (.bool true)):=fun W h=>by rw[<- hm];exact may10_any s p W (hp.below h) hS
 have HO:Hd (∀ (x:Ent) W ep en ec gp gn gc,Bl w W->PRow W (.slice ep en ec) x.pats->NRow W (.slice gp gn gc) x.args->x.args.length<=1000000->Calls Tryz.prog 54 #[pgV s, .agg #[.int .i64 x.tab, .slice ep en ec, .int .i64 x.len, .int .i64 x.prio, .int .i64 x.act, .slice gp gn gc]] W fun e w'=>AnsB (fun b=>b=true->EntOk p x) e/\Bl W w'):=fun x W ep en ec gp gn gc h h1 h2 h3=>one12_any s p x ep en ec gp gn gc W (hp.below h) hS (may_kinds hm) h1 h2 (by rw[h2.ln.1];exact h3)
 have HE:Hd (ln=l.length):=hl.ln.1;have HL:=hD hl;have HLA:=hD hla;clear hp hS hm hl hla;unfold pgV at HM HO⊢;go_enter Tryz.func21,Tryz.ntmps21;go_upto_region 1 with fail
 obtain ⟨W0,hW0⟩:=nm (w.alloc (.cells (pA s) 33));have HB0:Hd (Bl w W0):=by show Below _ _ _;rw[hW0];exact bL
 have HPB:Hd (PBox W0 w.heap.size s):=by show _=_;rw[hW0];exact heap_new _ _
 rw[<- hW0];clear hW0;obtain ⟨q0,q1,q2,q3,q4,q5,q6,q7,q8,q9,q10,q11⟩:=HPB.o.cells;by_cases h64:64<ln
 ·have h64i:(64:Int)<(ln:Int):=om
  go_wp2_with (go_at_call 20;(with_reducible refine (HM.o _ HB0.o).mono ?_);rintro e w1 ⟨rfl,hb1⟩;have HB1:=hD hb1;clear hb1);go_ret;exact ⟨⟨_,rfl,fun h=>by cases h⟩,HB0.o.trans (HB1.o.mono HB0.o.size)⟩
 ·have h64i:¬(64:Int)<(ln:Int):=om
  go_wp2_with (go_at_call 20;(with_reducible refine (HM.o _ HB0.o).mono ?_);rintro e w1 ⟨rfl,hb1⟩;have HB1:=hD hb1;clear hb1);clear q0 q1 q2 q3 q4 q5 q6 q7 q8 q9 q10 q11;go_loopw [5] (fun i wr=>∃k:Nat,k<=ln/\i= .int .i64 k/\Hd (∀ (j:Nat) (x:Ent),j<k->l[j]?=some x->EntOk p x)/\Hd (Bl W0 wr)) (fun i _=>ln-(intOf i).toNat)
  case atStart=>exact ⟨0,zl,rfl,fun j x hj=>absurd hj om,HB1.o⟩
  case round=>
   obtain ⟨k,hk,rfl,HJ,HW⟩:=hrel;by_cases hlt:k<ln
   ·have hki:(k:Int)<(ln:Int):=om
    obtain ⟨x,hx⟩:∃x,l[k]?=some x:=⟨_,gE_ (by have:=HE.o;omega)⟩;have hbw:=HB0.o.trans (HW.o.mono HB0.o.size);obtain ⟨b,o,ep,en,ec,gp,gn,gc,rfl,hb,hcs,hy1,hy2⟩:=ERow.el (HL.o.below keepE hbw) hx;have HC:Hd (∀ W,Bl wr W->Calls Tryz.prog 54 #[.agg (pA s), .agg #[.int .i64 x.tab, .slice ep en ec, .int .i64 x.len, .int .i64 x.prio, .int .i64 x.act, .slice gp gn gc]] W fun e w'=>AnsB (fun b=>b=true->EntOk p x) e/\Bl W w'):=fun W h=>HO.o x W ep en ec gp gn gc (hbw.trans (h.mono hbw.size)) (hy1.below keepP h) (hy2.below keepN h) (HLA.o x (gM_ hx))
    obtain ⟨c0,c1,c2,c3,c4,c5⟩:=hcs;obtain ⟨xt,hxt⟩:=nm x.tab;obtain ⟨xl,hxl⟩:=nm x.len;obtain ⟨xp,hxp⟩:=nm x.prio;obtain ⟨xa,hxa⟩:=nm x.act;rw[<- hxt, <-hxl, <-hxp, <-hxa] at HC;rw[<- hxt] at c0;rw[<- hxl] at c2;rw[<- hxp] at c3;rw[<- hxa] at c4;have HCE:Hd (∀ W,Bl wr W->Pgc W w.heap.size s/\Cl W b (o+k*6) (.int .i64 xt)/\Cl W b (o+k*6+1) (.slice ep en ec)/\Cl W b (o+k*6+2) (.int .i64 xl)/\Cl W b (o+k*6+3) (.int .i64 xp)/\Cl W b (o+k*6+4) (.int .i64 xa)/\Cl W b (o+k*6+5) (.slice gp gn gc)):=fun W h=>
     ⟨(HPB.o.below (HW.o.trans (h.mono HW.o.size))).cells,(h.cell (p:=⟨b,o+k*6,none⟩) hb).trans c0,(h.cell (p:=⟨b,o+k*6+1,none⟩) hb).trans c1,(h.cell (p:=⟨b,o+k*6+2,none⟩) hb).trans c2,(h.cell (p:=⟨b,o+k*6+3,none⟩) hb).trans c3,(h.cell (p:=⟨b,o+k*6+4,none⟩) hb).trans c4,(h.cell (p:=⟨b,o+k*6+5,none⟩) hb).trans c5⟩
    have HX:=hD hx;clear hx hbw hb hy1 hy2 c0 c1 c2 c3 c4 c5 hxt hxl hxp hxa;go_upto_region 6 with fail
    refine roB wr ?_;refine sq (fun aa ww ll hh=>by have:=hh.oL 2;exact ov (fC (HCE.o ww hh.inv))) ?_;refine sq (fun aa ww ll hh=>by exact ov (xmv (hh.oL 1))) ?_;refine sq (fun aa ww ll hh=>by exact ov (xmv (hh.oL 5))) ?_;refine sq (fun aa ww ll hh=>by have:=hh.gt 1 1;have:=hh.gt 2 0;exact ov gX) ?_;refine sq (fun aa ww ll hh=>by have:=hh.gt 3 0;exact ov (fC (HCE.o ww hh.inv))) ?_;refine ⟨.rel (fun _ v=>∃b,v= .bool b/\(b=true->EntOk p x)),(fun _ _ _ h _=>h),rfl,fun aa ww ll hh=>?_,?_⟩
    ·have e20:=hh.gt 0 4;have e24:=hh.gt 4 0;have ef:=evf aa;refine out_call (wanted_none rfl) ?_ ((HC.o ww hh.inv).mono ?_)
     ·clear hh;generalize aa.eval=ev at e20 e24 ef⊢;go_simp
     ·rintro e w1 ⟨⟨bb,rfl,h1⟩,h2⟩;exact ⟨_,rfl,⟨bb,rfl,h1⟩,h2⟩
    refine ⟨.rel (fun _ v=>∃b,v= .bool !b/\(b=true->EntOk p x)),(fun _ _ _ h _=>h),rfl,fun aa ww ll hh=>?_,?_⟩
    ·obtain ⟨x25,e25,-,p25⟩:=hh.got 5 0 kq rfl rfl rfl;obtain ⟨bb,rfl,h1⟩:=p25;refine out_new (wanted_none rfl) (w':=ww) (v:= .bool !bb) ?_ br ⟨bb,rfl,h1⟩;clear hh;generalize aa.eval=ev at e25⊢;go_simp
    intro ll w2 hS hok;have p6:=hok 6 _ rfl;clear hok;simp only[ly];obtain ⟨bo,hbo,hok⟩:=p6;rw[hbo];have HOK:=hD hok;have HW2:=hD (HW.o.trans (hS.mono HW.o.size));clear hbo hok hS;cases bo
    ·go_wp2_with fail;go_ret;exact ⟨⟨_,rfl,fun h=>by cases h⟩,HB0.o.trans (HW2.o.mono HB0.o.size)⟩
    ·go_wp2_with fail;go_roundw
     case rel=>exact ⟨k+1,om,by go_num,fun j y hj hy=>by
      rcases Nat.lt_or_ge j k with q|q
      ·exact HJ.o j y q hy
      ·obtain rfl:j=k:=om
       have:=HX.o;rw[hy] at this;cases this;exact HOK.o (by trivial),HW2.o⟩
     case measure=>exact mz
   ·obtain rfl:k=ln:=om
    have hki:¬(k:Int)<(k:Int):=om
    go_wp2_with fail;go_ret;exact ⟨⟨_,rfl,fun _ x hx=>by
     obtain ⟨j,hj⟩:=List.getElem?_of_mem hx;exact HJ.o j x (by have:=(gL_ hj).1;have:=HE.o;omega) hj⟩,HB0.o.trans (HW.o.mono HB0.o.size)⟩
open Go.RowKit
theorem all_f {α:Type} {f:α->Bool} {l:List α} {j:Nat} {x:α} (hj:l[j]?=some x) (hf:f x=false):l.all f=false:=by
 rw[Bool.eq_false_iff];intro h;rw[List.all_eq_true] at h;have:=h x (gM_ hj);rw[hf] at this;cases this
theorem all_t {α:Type} {f:α->Bool} {l:List α} (h:∀(j:Nat) (x:α),l[j]?=some x->f x=true):l.all f=true:=by
 rw[List.all_eq_true];intro x hx;obtain ⟨j,hj⟩:=List.getElem?_of_mem hx;exact h j x hj
theorem widths19_any (l:List Int) (p:Option Addr) (n c:Nat) (w:World) (h:IRow w (.slice p n c) l) (hl:n<=1000000):Calls Tryz.prog 45 #[.slice p n c] w fun e w'=>e= .returned (.bool (l.all okP))/\Bl w w':=by
 obtain ⟨e1,e2,e3,-⟩:=h.ln;have HH:=hD h;have HE:=hD e1;obtain ⟨R,hR⟩:=nm (l.all okP);rw[<- hR];have HR:=hD hR;clear h e1 hR;go_enter Tryz.func45,Tryz.ntmps45;go_wp2_with fail;go_loopw [3] (fun i wr=>∃k:Nat,k<=n/\i= .int .i64 k/\wr=w/\Hd (∀ j,j<k->okP (l.getD j 0)=true)) (fun i _=>n-(intOf i).toNat)
 case atStart=>exact ⟨0,zl,rfl,rfl,fun j hj=>absurd hj om⟩
 case round=>
  obtain ⟨k,hk,rfl,rfl,HJ⟩:=hrel;by_cases hlt:k<n
  ·obtain ⟨b,o,rfl,-,hc⟩:=IRow.el HH.o (j:=k) (by have:=HE.o;omega);have hxk:=some_getD (l:=l) (j:=k) 0 (by have:=HE.o;omega);obtain ⟨z,hz⟩:=nm (l.getD k 0);rw[<- hz] at hc hxk;have HZ:=hD (And.intro hz hxk);have hki:(k:Int)<(n:Int):=om
   clear hz hxk;by_cases h1:1<=z/\z<=128
   ·obtain ⟨g1,g2⟩:=h1;have g3:¬z<1:=om
    have g4:¬128<z:=om
    have HG:=hD (And.intro g1 g2);clear g1 g2;go_wp2_with fail;go_roundw
    case rel=>exact ⟨k+1,om,by go_num,(by first|trivial|rfl),fun j hj=>by
     rcases Nat.lt_or_ge j k with q|q
     ·exact HJ.o j q
     ·obtain rfl:j=k:=om
      rw[<- HZ.o.1];have:=HG.o;unfold okP;simp;omega⟩
    case measure=>exact mz
   ·have hr:R=false:=HR.o.trans (all_f HZ.o.2 (by unfold okP;simp;omega));rcases (show z<1\/(¬ z<1/\128<z) by omega) with g1|⟨g1,g2⟩
    all_goals
     go_wp2_with fail;go_ret;exact ⟨by first|rfl|(rw[hr];rfl),Below.refl _ _⟩
  ·obtain rfl:k=n:=om
   have hr:R=true:=HR.o.trans <| all_t fun j x hj=>by
    have:=HJ.o j (by have:=(gL_ hj).1;have:=HE.o;omega)
    rwa [getD_some hj] at this
   go_wp2_with fail;go_ret;exact ⟨by first|rfl|(rw[hr];rfl),Below.refl _ _⟩
theorem numbers19_any (args:List Nat) (gp:Option Addr) (gn gc:Nat) (ps:List Int) (pp:Option Addr) (pn pc:Nat) (w:World) (hg:NRow w (.slice gp gn gc) args) (hp:IRow w (.slice pp pn pc) ps) (hgn:pn<=1000000):
 Calls Tryz.prog 28 #[.slice gp gn gc, .slice pp pn pc] w fun e w'=>e= .returned (.bool (numsP args ps))/\Bl w w':=by
 obtain ⟨g1,g2,g3,-⟩:=hg.ln;obtain ⟨p1,p2,p3,-⟩:=hp.ln;obtain ⟨R,hR⟩:=nm (numsP args ps);rw[<- hR];have HR:=hD hR;have HG:=hD hg;have HPS:=hD hp;have HE:=hD (And.intro g1 p1);clear hR hg hp g1 p1;by_cases hlen:gn=pn
 ·subst hlen;go_enter Tryz.func28,Tryz.ntmps28;go_wp2_with fail;go_loopw [5] (fun i wr=>∃k:Nat,k<=gn/\i= .int .i64 k/\Hd (Bl w wr)/\Hd (∀ q,q<k->fitsP (args.getD q 0) (ps.getD q 0)=true)) (fun i _=>gn-(intOf i).toNat)
  case atStart=>exact ⟨0,zl,rfl,Below.refl _ _,fun q hq=>absurd hq om⟩
  case round=>
   obtain ⟨k,hk,rfl,HW,HQ⟩:=hrel;by_cases hlt:k<gn
   ·obtain ⟨gb,go,rfl,hgb,hnv,hc0,hc1⟩:=(HG.o.below keepN HW.o).get (some_getD 0 (by have:=HE.o.1;omega:k<args.length));obtain ⟨pb,po,rfl,hpb,hpc⟩:=IRow.el (HPS.o.below keepI HW.o) (j:=k) (by have:=HE.o.2;omega);obtain ⟨va,hva⟩:=nm (args.getD k 0);obtain ⟨vp,hvp⟩:=nm (ps.getD k 0);rw[<- hva] at hc0 hc1 hnv;rw[<- hvp] at hpc;have HFI:Hd (∀ W,CR 70 #[.agg #[.int .u64 ((va/B:Nat):Int), .int .u64 ((va%B:Nat):Int)], .int .i64 vp] W (.bool (fitsP va vp))):=fun W=>fits01_any va vp W hnv
    generalize ((va/B:Nat):Int)=x1 at*;generalize ((va%B:Nat):Int)=x2 at*;obtain ⟨rf,hrf⟩:=nm (fitsP va vp);rw[<- hrf] at HFI;rw[hva,hvp] at hrf;have HRF:=hD hrf;have HCF:Hd (∀ W,Bl wr W->Cl W gb (go+k*2) (.int .u64 x1)/\Cl W gb (go+k*2+1) (.int .u64 x2)/\Cl W pb (po+k) (.int .i64 vp)):=fun W h=>
     ⟨(h.cell (p:=⟨gb,go+k*2,none⟩) hgb).trans hc0,(h.cell (p:=⟨gb,go+k*2+1,none⟩) hgb).trans hc1,(h.cell (p:=⟨pb,po+k,none⟩) hpb).trans hpc⟩
    have hki:(k:Int)<(gn:Int):=om
    clear hva hvp hnv hc0 hc1 hpc hrf;go_upto_region 6 with fail
    cases rf
    ·skip;refine roB wr ?_;refine sq (fun aa ww ll hh=>by exact ov (xmv (hh.oL 0))) ?_;refine sq (fun aa ww ll hh=>by exact ov (xmv (hh.oL 5))) ?_;refine sq (fun aa ww ll hh=>by have:=hh.gt 0 1;have:=hh.gt 1 0;exact ov gX) ?_;refine sq (fun aa ww ll hh=>by have:=hh.gt 2 0;exact ov (fC (HCF.o ww hh.inv))) ?_;refine sq (fun aa ww ll hh=>by exact ov (xmv (hh.oL 1))) ?_;refine sq (fun aa ww ll hh=>by exact ov (xmv (hh.oL 5))) ?_;refine sq (fun aa ww ll hh=>by have:=hh.gt 4 1;have:=hh.gt 5 0;exact ov gX) ?_;refine sq (fun aa ww ll hh=>by have:=hh.gt 6 0;exact ov (fC (HCF.o ww hh.inv))) ?_;refine ⟨.eq (.bool false),trivial,rfl,fun aa ww ll hh=>?_,?_⟩
     ·have e20:=hh.gt 3 4;have e24:=hh.gt 7 0;have ef:=evf aa;refine out_call_eq (wanted_none rfl) ?_ (HFI.o ww);exact gX
     refine sq (fun aa ww ll hh=>by have:=hh.gt 8 0;exact ov gX) ?_;intro ll w3 hS hok;clear hok;simp only[ly];go_wp2_with fail;go_ret;refine ⟨?_,HW.o.trans (hS.mono HW.o.size)⟩;have e:R=false:=by
      rw[HR.o];unfold numsP;rw[Bool.and_eq_false_iff];refine .inr ?_;rw[Bool.eq_false_iff];intro hc;have:=(zip_all (by have:=HE.o;omega)).1 hc k (by have:=HE.o;omega);rw[<- HRF.o] at this;cases this
     rw[e];rfl
    ·skip;refine roB wr ?_;refine sq (fun aa ww ll hh=>by exact ov (xmv (hh.oL 0))) ?_;refine sq (fun aa ww ll hh=>by exact ov (xmv (hh.oL 5))) ?_;refine sq (fun aa ww ll hh=>by have:=hh.gt 0 1;have:=hh.gt 1 0;exact ov gX) ?_;refine sq (fun aa ww ll hh=>by have:=hh.gt 2 0;exact ov (fC (HCF.o ww hh.inv))) ?_;refine sq (fun aa ww ll hh=>by exact ov (xmv (hh.oL 1))) ?_;refine sq (fun aa ww ll hh=>by exact ov (xmv (hh.oL 5))) ?_;refine sq (fun aa ww ll hh=>by have:=hh.gt 4 1;have:=hh.gt 5 0;exact ov gX) ?_;refine sq (fun aa ww ll hh=>by have:=hh.gt 6 0;exact ov (fC (HCF.o ww hh.inv))) ?_;refine ⟨.eq (.bool true),trivial,rfl,fun aa ww ll hh=>?_,?_⟩
     ·have e20:=hh.gt 3 4;have e24:=hh.gt 7 0;have ef:=evf aa;refine out_call_eq (wanted_none rfl) ?_ (HFI.o ww);exact gX
     refine sq (fun aa ww ll hh=>by have:=hh.gt 8 0;exact ov gX) ?_;intro ll w3 hS hok;clear hok;simp only[ly];go_wp2_with fail;go_roundw
     case rel=>exact ⟨k+1,om,by go_num,HW.o.trans (hS.mono HW.o.size),fun q hq=>by
      rcases Nat.lt_or_ge q k with h|h
      ·exact HQ.o q h
      ·obtain rfl:q=k:=om
       exact HRF.o.symm⟩
     case measure=>exact mz
   ·obtain rfl:k=gn:=om
    go_wp2_with fail;go_ret;refine ⟨?_,HW.o⟩;have e:R=true:=by
     rw[HR.o];unfold numsP;rw[decide_eq_true (by have:=HE.o;omega),Bool.true_and];exact (zip_all (by have:=HE.o;omega)).2 fun q hq=>HQ.o q (by have:=HE.o;omega)
    rw[e];rfl
 ·have hr:R=false:=by rw[HR.o];unfold numsP;rw[decide_eq_false (by have:=HE.o;omega)];rfl
  have h9:((gn:Int)!=(pn:Int))=true:=bne_iff_ne.2 om;have h8:¬(gn:Int)=(pn:Int):=om
  go_enter Tryz.func28,Tryz.ntmps28;go_wp2_with fail;go_ret;exact ⟨by first|rfl|(rw[hr];rfl),Below.refl _ _⟩
end Go.Proofs.YtikilcbpogfgkaaGreat
