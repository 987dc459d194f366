/-
  Lemmas, joined: EntC, FitA.
-/
import Derived.Test.YtjfhfaodbjecdaaGreatJC14
import Derived.Test.YtjfhfaodbjecdaaGreatJC15
import Derived.Test.YtjfhfaodbjecdaaGreatJC08
import Derived.Test.YtjfhfaodbjecdaaGreatJC04
import Derived.LoopN
set_option maxHeartbeats 6400000
set_option maxRecDepth 100000
namespace Go.Proofs.YtjfhfaodbjecdaaGreat
open Go.RowKit
theorem may10_any (s:PgS) (p:Prg) (w:World) (hp:PgOk w s p) (hS:Sm p):Calls Tryz.prog 16 #[pgV s] w fun e w'=>e= .returned (.bool (mayP p))/\Below w.heap.size w w':=
 may_any s p w hp hS fun W i h1 h2 h3=>onCycle_any s p i W h1 hS h2 h3
theorem may_tabs {p:Prg} (h:mayP p=true):∀t∈p.tabs,mayTabP p t=true:=by
 unfold mayP at h;rw[Bool.and_eq_true] at h;exact List.all_eq_true.1 h.2
theorem may_kinds {p:Prg} (h:mayP p=true):∀t∈p.tabs,t.kinds.length=t.keys.length:=fun t ht=>by
 have:=may_tabs h t ht;unfold mayTabP at this;simp only[Bool.and_eq_true,decide_eq_true_eq] at this;exact this.1.1.1.1.2.2.1
theorem ERow.el {w:World} {p:Option Addr} {n c:Nat} {l:List Ent} (h:ERow w (.slice p n c) l) {j:Nat} {x:Ent} (hj:l[j]?=some x):∃b o ep en ec gp gn gc,p=some ⟨b,o,none⟩/\b<w.heap.size/\(w.cell? ⟨b,o+j*6,none⟩=some (.int .i64 x.tab)/\w.cell? ⟨b,o+j*6+1,none⟩=some (.slice ep en ec)/\w.cell? ⟨b,o+j*6+2,none⟩=some (.int .i64 x.len)/\w.cell? ⟨b,o+j*6+3,none⟩=some (.int .i64 x.prio)/\
 w.cell? ⟨b,o+j*6+4,none⟩=some (.int .i64 x.act)/\w.cell? ⟨b,o+j*6+5,none⟩=some (.slice gp gn gc))/\PRow w (.slice ep en ec) x.pats/\NRow w (.slice gp gn gc) x.args:=by
 obtain ⟨b,o,e,h1,h2,⟨v1,h3,k3⟩,h4,h5,h6,⟨v2,h7,k7⟩⟩:=h.get hj;obtain ⟨ep,ec,rfl,-⟩:=k3.shape;obtain ⟨gp,gc,rfl,-⟩:=k7.shape;exact ⟨b,o,ep,_,ec,gp,_,gc,e,h1,⟨h2,h3,h4,h5,h6,h7⟩,k3,k7⟩
theorem may12_any (s:PgS) (p:Prg) (l:List Ent) (lp:Option Addr) (ln lc:Nat) (w:World) (hp:PgOk w s p) (hS:Sm p) (hm:mayP p=true) (hl:ERow w (.slice lp ln lc) l) (hla:∀x∈l,x.args.length<=1000000):
 Calls Tryz.prog 17 #[pgV s, .slice lp ln lc] w fun e w'=>AnsB (fun b=>b=true->∀x∈l,EntOk p x) e/\Below w.heap.size w w':=by
 have HM:Hid (∀ W,Below w.heap.size w W->Calls Tryz.prog 16 #[pgV s] W fun e w'=>e= .returned (.bool true)/\Below W.heap.size W w'):=fun W h=>by rw[<- hm];exact may10_any s p W (hp.below h) hS
 have HO:Hid (∀ (x:Ent) W ep en ec gp gn gc,Below w.heap.size w W->PRow W (.slice ep en ec) x.pats->NRow W (.slice gp gn gc) x.args->x.args.length<=1000000->Calls Tryz.prog 40 #[pgV s, .agg #[.int .i64 x.tab, .slice ep en ec, .int .i64 x.len, .int .i64 x.prio, .int .i64 x.act, .slice gp gn gc]] W fun e w'=>AnsB (fun b=>b=true->EntOk p x) e/\Below W.heap.size W w'):=fun x W ep en ec gp gn gc h h1 h2 h3=>one12_any s p x ep en ec gp gn gc W (hp.below h) hS (may_kinds hm) h1 h2 (by rw[h2.ln.1];exact h3)
 have HE:Hid (ln=l.length):=hl.ln.1;have HL:=hD hl;have HLA:=hD hla;clear hp hS hm hl hla;unfold pgV at HM HO⊢;go_enter Tryz.func17,Tryz.ntmps17;go_upto_region 1 with fail
 obtain ⟨W0,hW0⟩:∃W0,W0=w.alloc (.cells #[.slice s.hp s.hn s.hc, .slice s.mp s.mn s.mc, .slice s.sp s.sn s.sc, .slice s.ap s.an s.ac, .slice s.tp s.tn s.tc, .slice s.cp s.cn s.cc, .slice s.ep s.en s.ec, .slice s.v1 s.n1 s.c1, .slice s.v2 s.n2 s.c2, .slice s.v3 s.n3 s.c3, .slice s.v4 s.n4 s.c4, .slice s.v5 s.n5 s.c5] 33):=⟨_,rfl⟩;have HB0:Hid (Below w.heap.size w W0):=by show Below _ _ _;rw[hW0];exact (by repeat (first|exact Below.refl _ _|assumption|refine Below.drew ?_|refine blA ?_|refine blS ?_|refine blT ?_ (by assumption)))
 have HPB:Hid (PBox W0 w.heap.size s):=by show _=_;rw[hW0];exact heap_new _ _
 rw[<- hW0];clear hW0;obtain ⟨q0,q1,q2,q3,q4,q5,q6,q7,q8,q9,q10,q11⟩:=HPB.out.cells;by_cases h64:64<ln
 ·have h64i:(64:Int)<(ln:Int):=by omega
  go_wp2_with (go_at_call 16;(with_reducible refine (HM.out _ HB0.out).mono ?_);rintro e w1 ⟨rfl,hb1⟩;have HB1:=hD hb1;clear hb1);go_ret;exact ⟨⟨_,rfl,fun h=>by cases h⟩,HB0.out.trans (HB1.out.mono HB0.out.size)⟩
 ·have h64i:¬(64:Int)<(ln:Int):=by omega
  go_wp2_with (go_at_call 16;(with_reducible refine (HM.out _ HB0.out).mono ?_);rintro e w1 ⟨rfl,hb1⟩;have HB1:=hD hb1;clear hb1);clear q0 q1 q2 q3 q4 q5 q6 q7 q8 q9 q10 q11;go_loopw [5] (fun i wr=>∃k:Nat,k<=ln/\i= .int .i64 k/\Hid (∀ (j:Nat) (x:Ent),j<k->l[j]?=some x->EntOk p x)/\Hid (Below W0.heap.size W0 wr)) (fun i _=>ln-(intOf i).toNat)
  case atStart=>exact ⟨0,Nat.zero_le _,rfl,fun j x hj=>absurd hj (by omega),HB1.out⟩
  case round=>
   obtain ⟨k,hk,rfl,HJ,HW⟩:=hrel;by_cases hlt:k<ln
   ·have hki:(k:Int)<(ln:Int):=by omega
    obtain ⟨x,hx⟩:∃x,l[k]?=some x:=⟨_,List.getElem?_eq_getElem (by have:=HE.out;omega)⟩;have hbw:=HB0.out.trans (HW.out.mono HB0.out.size);obtain ⟨b,o,ep,en,ec,gp,gn,gc,rfl,hb,hcs,hy1,hy2⟩:=ERow.el (HL.out.below keepE hbw) hx;have HC:Hid (∀ W,Below wr.heap.size wr W->Calls Tryz.prog 40 #[.agg #[.slice s.hp s.hn s.hc, .slice s.mp s.mn s.mc, .slice s.sp s.sn s.sc, .slice s.ap s.an s.ac, .slice s.tp s.tn s.tc, .slice s.cp s.cn s.cc, .slice s.ep s.en s.ec, .slice s.v1 s.n1 s.c1, .slice s.v2 s.n2 s.c2, .slice s.v3 s.n3 s.c3, .slice s.v4 s.n4 s.c4, .slice s.v5 s.n5 s.c5], .agg #[.int .i64 x.tab, .slice ep en ec, .int .i64 x.len, .int .i64 x.prio, .int .i64 x.act, .slice gp gn gc]] W fun e w'=>AnsB (fun b=>b=true->EntOk p x) e/\Below W.heap.size W w'):=fun W h=>HO.out x W ep en ec gp gn gc (hbw.trans (h.mono hbw.size)) (hy1.below keepP h) (hy2.below keepN h) (HLA.out x (List.mem_of_getElem? hx))
    obtain ⟨c0,c1,c2,c3,c4,c5⟩:=hcs;obtain ⟨xt,hxt⟩:∃z,z=x.tab:=⟨_,rfl⟩;obtain ⟨xl,hxl⟩:∃z,z=x.len:=⟨_,rfl⟩;obtain ⟨xp,hxp⟩:∃z,z=x.prio:=⟨_,rfl⟩;obtain ⟨xa,hxa⟩:∃z,z=x.act:=⟨_,rfl⟩;rw[<- hxt, <-hxl, <-hxp, <-hxa] at HC;rw[<- hxt] at c0;rw[<- hxl] at c2;rw[<- hxp] at c3;rw[<- hxa] at c4;have HCE:Hid (∀ W,Below wr.heap.size wr W->(W.cell? ⟨w.heap.size,0,none⟩=some (.slice s.hp s.hn s.hc)/\W.cell? ⟨w.heap.size,1,none⟩=some (.slice s.mp s.mn s.mc)/\W.cell? ⟨w.heap.size,2,none⟩=some (.slice s.sp s.sn s.sc)/\W.cell? ⟨w.heap.size,3,none⟩=some (.slice s.ap s.an s.ac)/\W.cell? ⟨w.heap.size,4,none⟩=some (.slice s.tp s.tn s.tc)/\W.cell? ⟨w.heap.size,5,none⟩=some (.slice s.cp s.cn s.cc)/\W.cell? ⟨w.heap.size,6,none⟩=some (.slice s.ep s.en s.ec)/\W.cell? ⟨w.heap.size,7,none⟩=some (.slice s.v1 s.n1 s.c1)/\W.cell? ⟨w.heap.size,8,none⟩=some (.slice s.v2 s.n2 s.c2)/\W.cell? ⟨w.heap.size,9,none⟩=some (.slice s.v3 s.n3 s.c3)/\W.cell? ⟨w.heap.size,10,none⟩=some (.slice s.v4 s.n4 s.c4)/\W.cell? ⟨w.heap.size,11,none⟩=some (.slice s.v5 s.n5 s.c5))/\W.cell? ⟨b,o+k*6,none⟩=some (.int .i64 xt)/\W.cell? ⟨b,o+k*6+1,none⟩=some (.slice ep en ec)/\W.cell? ⟨b,o+k*6+2,none⟩=some (.int .i64 xl)/\W.cell? ⟨b,o+k*6+3,none⟩=some (.int .i64 xp)/\W.cell? ⟨b,o+k*6+4,none⟩=some (.int .i64 xa)/\W.cell? ⟨b,o+k*6+5,none⟩=some (.slice gp gn gc)):=fun W h=>
     ⟨(HPB.out.below (HW.out.trans (h.mono HW.out.size))).cells,(h.cell (p:=⟨b,o+k*6,none⟩) hb).trans c0,(h.cell (p:=⟨b,o+k*6+1,none⟩) hb).trans c1,(h.cell (p:=⟨b,o+k*6+2,none⟩) hb).trans c2,(h.cell (p:=⟨b,o+k*6+3,none⟩) hb).trans c3,(h.cell (p:=⟨b,o+k*6+4,none⟩) hb).trans c4,(h.cell (p:=⟨b,o+k*6+5,none⟩) hb).trans c5⟩
    have HX:=hD hx;clear hx hbw hb hy1 hy2 c0 c1 c2 c3 c4 c5 hxt hxl hxp hxa;go_upto_region 6 with fail
    refine roB wr ?_;refine stq ?_ (fun aa ww ll hh=>?_) ?_;rotate_left
    ·have e2:=hh.oL 2;obtain ⟨⟨q0,q1,q2,q3,q4,q5,q6,q7,q8,q9,q10,q11⟩,c0,c1,c2,c3,c4,c5⟩:=HCE.out ww hh.inv;exact ov gX
    refine stq ?_ (fun aa ww ll hh=>?_) ?_;rotate_left
    ·have e1:=hh.oL 1;refine ov ?_;rw[xmv e1]
    refine stq ?_ (fun aa ww ll hh=>?_) ?_;rotate_left
    ·have e5:=hh.oL 5;refine ov ?_;rw[xmv e5]
    refine stq ?_ (fun aa ww ll hh=>?_) ?_;rotate_left
    ·have e21:=hh.gt 1 1;have e22:=hh.gt 2 0;exact ov gX
    refine stq ?_ (fun aa ww ll hh=>?_) ?_;rotate_left
    ·have e23:=hh.gt 3 0;obtain ⟨⟨q0,q1,q2,q3,q4,q5,q6,q7,q8,q9,q10,q11⟩,c0,c1,c2,c3,c4,c5⟩:=HCE.out ww hh.inv;exact ov gX
    refine ⟨.rel (fun _ v=>∃b,v= .bool b/\(b=true->EntOk p x)),(fun _ _ _ h _=>h),rfl,fun aa ww ll hh=>?_,?_⟩
    ·have e20:=hh.gt 0 4;have e24:=hh.gt 4 0;have ef:=evf aa;refine out_call (wanted_none rfl) ?_ ((HC.out ww hh.inv).mono ?_)
     ·clear hh;generalize aa.eval=ev at e20 e24 ef⊢;go_simp
     ·rintro e w1 ⟨⟨bb,rfl,h1⟩,h2⟩;exact ⟨_,rfl,⟨bb,rfl,h1⟩,h2⟩
    refine ⟨.rel (fun _ v=>∃b,v= .bool !b/\(b=true->EntOk p x)),(fun _ _ _ h _=>h),rfl,fun aa ww ll hh=>?_,?_⟩
    ·obtain ⟨x25,e25,-,p25⟩:=hh.got 5 0 (by kernel_rfl) rfl rfl rfl;obtain ⟨bb,rfl,h1⟩:=p25;refine out_new (wanted_none rfl) (w':=ww) (v:= .bool !bb) ?_ (Below.refl _ _) ⟨bb,rfl,h1⟩;clear hh;generalize aa.eval=ev at e25⊢;go_simp
    intro ll w2 hS hok;have p6:=hok 6 _ rfl;clear hok;simp only[List.reverse_cons,List.reverse_nil,List.nil_append,List.cons_append,layO,Out.val,Act.put,List.setIfInBounds_toArray,List.set_cons_zero,List.set_cons_succ];obtain ⟨bo,hbo,hok⟩:=p6;rw[hbo];have HOK:=hD hok;have HW2:Hid (Below W0.heap.size W0 w2):=HW.out.trans (hS.mono HW.out.size);clear hbo hok hS;cases bo
    ·go_wp2_with fail;go_ret;exact ⟨⟨_,rfl,fun h=>by cases h⟩,HB0.out.trans (HW2.out.mono HB0.out.size)⟩
    ·go_wp2_with fail;go_roundw
     case rel=>exact ⟨k+1,by omega,by go_num,fun j y hj hy=>by
      rcases Nat.lt_or_ge j k with q|q
      ·exact HJ.out j y q hy
      ·obtain rfl:j=k:=by omega
       have:=HX.out;rw[hy] at this;cases this;exact HOK.out (by trivial),HW2.out⟩
     case measure=>simp[intOf];omega
   ·obtain rfl:k=ln:=by omega
    have hki:¬(k:Int)<(k:Int):=by omega
    go_wp2_with fail;go_ret;exact ⟨⟨_,rfl,fun _ x hx=>by
     obtain ⟨j,hj⟩:=List.getElem?_of_mem hx;exact HJ.out j x (by have:=(List.getElem?_eq_some_iff.1 hj).1;have:=HE.out;omega) hj⟩,HB0.out.trans (HW.out.mono HB0.out.size)⟩
open Go.RowKit
theorem all_f {α:Type} {f:α->Bool} {l:List α} {j:Nat} {x:α} (hj:l[j]?=some x) (hf:f x=false):l.all f=false:=by
 rw[Bool.eq_false_iff];intro h;rw[List.all_eq_true] at h;have:=h x (List.mem_of_getElem? hj);rw[hf] at this;cases this
theorem all_t {α:Type} {f:α->Bool} {l:List α} (h:∀(j:Nat) (x:α),l[j]?=some x->f x=true):l.all f=true:=by
 rw[List.all_eq_true];intro x hx;obtain ⟨j,hj⟩:=List.getElem?_of_mem hx;exact h j x hj
theorem widths19_any (l:List Int) (p:Option Addr) (n c:Nat) (w:World) (h:IRow w (.slice p n c) l) (hl:n<=1000000):Calls Tryz.prog 31 #[.slice p n c] w fun e w'=>e= .returned (.bool (l.all okP))/\Below w.heap.size w w':=by
 obtain ⟨e1,e2,e3,-⟩:=h.ln;have HH:=hD h;have HE:=hD e1;obtain ⟨R,hR⟩:∃R,R=l.all okP:=⟨_,rfl⟩;rw[<- hR];have HR:=hD hR;clear h e1 hR;go_enter Tryz.func31,Tryz.ntmps31;go_wp2_with fail;go_loopw [3] (fun i wr=>∃k:Nat,k<=n/\i= .int .i64 k/\wr=w/\Hid (∀ j,j<k->okP (l.getD j 0)=true)) (fun i _=>n-(intOf i).toNat)
 case atStart=>exact ⟨0,Nat.zero_le _,rfl,rfl,fun j hj=>absurd hj (by omega)⟩
 case round=>
  obtain ⟨k,hk,rfl,rfl,HJ⟩:=hrel;by_cases hlt:k<n
  ·obtain ⟨b,o,rfl,-,hc⟩:=IRow.el HH.out (j:=k) (by have:=HE.out;omega);have hxk:=some_getD (l:=l) (j:=k) 0 (by have:=HE.out;omega);obtain ⟨z,hz⟩:∃z,z=l.getD k 0:=⟨_,rfl⟩;rw[<- hz] at hc hxk;have HZ:=hD (And.intro hz hxk);have hki:(k:Int)<(n:Int):=by omega
   clear hz hxk;by_cases h1:1<=z/\z<=128
   ·obtain ⟨g1,g2⟩:=h1;have g3:¬z<1:=by omega
    have g4:¬128<z:=by omega
    have HG:=hD (And.intro g1 g2);clear g1 g2;go_wp2_with fail;go_roundw
    case rel=>exact ⟨k+1,by omega,by go_num,(by first|trivial|rfl),fun j hj=>by
     rcases Nat.lt_or_ge j k with q|q
     ·exact HJ.out j q
     ·obtain rfl:j=k:=by omega
      rw[<- HZ.out.1];have:=HG.out;unfold okP;simp;omega⟩
    case measure=>simp[intOf];omega
   ·have hr:R=false:=HR.out.trans (all_f HZ.out.2 (by unfold okP;simp;omega));rcases (show z<1\/(¬ z<1/\128<z) by omega) with g1|⟨g1,g2⟩
    all_goals
     go_wp2_with fail;go_ret;exact ⟨by first|rfl|(rw[hr];rfl),Below.refl _ _⟩
  ·obtain rfl:k=n:=by omega
   have hr:R=true:=HR.out.trans <| all_t fun j x hj=>by
    have:=HJ.out j (by have:=(List.getElem?_eq_some_iff.1 hj).1;have:=HE.out;omega)
    rwa [getD_some hj] at this
   go_wp2_with fail;go_ret;exact ⟨by first|rfl|(rw[hr];rfl),Below.refl _ _⟩
theorem numbers19_any (args:List Nat) (gp:Option Addr) (gn gc:Nat) (ps:List Int) (pp:Option Addr) (pn pc:Nat) (w:World) (hg:NRow w (.slice gp gn gc) args) (hp:IRow w (.slice pp pn pc) ps) (hgn:pn<=1000000):
 Calls Tryz.prog 28 #[.slice gp gn gc, .slice pp pn pc] w fun e w'=>e= .returned (.bool (numsP args ps))/\Below w.heap.size w w':=by
 obtain ⟨g1,g2,g3,-⟩:=hg.ln;obtain ⟨p1,p2,p3,-⟩:=hp.ln;obtain ⟨R,hR⟩:∃R,R=numsP args ps:=⟨_,rfl⟩;rw[<- hR];have HR:=hD hR;have HG:=hD hg;have HPS:=hD hp;have HE:=hD (And.intro g1 p1);clear hR hg hp g1 p1;by_cases hlen:gn=pn
 ·subst hlen;go_enter Tryz.func28,Tryz.ntmps28;go_wp2_with fail;go_loopw [5] (fun i wr=>∃k:Nat,k<=gn/\i= .int .i64 k/\Hid (Below w.heap.size w wr)/\Hid (∀ q,q<k->fitsP (args.getD q 0) (ps.getD q 0)=true)) (fun i _=>gn-(intOf i).toNat)
  case atStart=>exact ⟨0,Nat.zero_le _,rfl,Below.refl _ _,fun q hq=>absurd hq (by omega)⟩
  case round=>
   obtain ⟨k,hk,rfl,HW,HQ⟩:=hrel;by_cases hlt:k<gn
   ·obtain ⟨gb,go,rfl,hgb,hnv,hc0,hc1⟩:=(HG.out.below keepN HW.out).get (some_getD 0 (by have:=HE.out.1;omega:k<args.length));obtain ⟨pb,po,rfl,hpb,hpc⟩:=IRow.el (HPS.out.below keepI HW.out) (j:=k) (by have:=HE.out.2;omega);obtain ⟨va,hva⟩:∃va,va=args.getD k 0:=⟨_,rfl⟩;obtain ⟨vp,hvp⟩:∃vp,vp=ps.getD k 0:=⟨_,rfl⟩;rw[<- hva] at hc0 hc1 hnv;rw[<- hvp] at hpc;have HFI:Hid (∀ W,Calls Tryz.prog 55 #[.agg #[.int .u64 ((va/B:Nat):Int), .int .u64 ((va%B:Nat):Int)], .int .i64 vp] W fun e w'=>e= .returned (.bool (fitsP va vp))/\Below W.heap.size W w'):=fun W=>fits01_any va vp W hnv
    generalize ((va/B:Nat):Int)=x1 at*;generalize ((va%B:Nat):Int)=x2 at*;obtain ⟨rf,hrf⟩:∃rf,rf=fitsP va vp:=⟨_,rfl⟩;rw[<- hrf] at HFI;rw[hva,hvp] at hrf;have HRF:=hD hrf;have HCF:Hid (∀ W,Below wr.heap.size wr W->W.cell? ⟨gb,go+k*2,none⟩=some (.int .u64 x1)/\W.cell? ⟨gb,go+k*2+1,none⟩=some (.int .u64 x2)/\W.cell? ⟨pb,po+k,none⟩=some (.int .i64 vp)):=fun W h=>
     ⟨(h.cell (p:=⟨gb,go+k*2,none⟩) hgb).trans hc0,(h.cell (p:=⟨gb,go+k*2+1,none⟩) hgb).trans hc1,(h.cell (p:=⟨pb,po+k,none⟩) hpb).trans hpc⟩
    have hki:(k:Int)<(gn:Int):=by omega
    clear hva hvp hnv hc0 hc1 hpc hrf;go_upto_region 6 with fail
    cases rf
    ·skip;refine roB wr ?_;refine stq ?_ (fun aa ww ll hh=>?_) ?_;rotate_left
     ·have e0:=hh.oL 0;refine ov ?_;rw[xmv e0]
     refine stq ?_ (fun aa ww ll hh=>?_) ?_;rotate_left
     ·have e5:=hh.oL 5;refine ov ?_;rw[xmv e5]
     refine stq ?_ (fun aa ww ll hh=>?_) ?_;rotate_left
     ·have e17:=hh.gt 0 1;have e18:=hh.gt 1 0;exact ov gX
     refine stq ?_ (fun aa ww ll hh=>?_) ?_;rotate_left
     ·have e19:=hh.gt 2 0;obtain ⟨c0,c1,c2⟩:=HCF.out ww hh.inv;exact ov gX
     refine stq ?_ (fun aa ww ll hh=>?_) ?_;rotate_left
     ·have e1:=hh.oL 1;refine ov ?_;rw[xmv e1]
     refine stq ?_ (fun aa ww ll hh=>?_) ?_;rotate_left
     ·have e5:=hh.oL 5;refine ov ?_;rw[xmv e5]
     refine stq ?_ (fun aa ww ll hh=>?_) ?_;rotate_left
     ·have e21:=hh.gt 4 1;have e22:=hh.gt 5 0;exact ov gX
     refine stq ?_ (fun aa ww ll hh=>?_) ?_;rotate_left
     ·have e23:=hh.gt 6 0;obtain ⟨c0,c1,c2⟩:=HCF.out ww hh.inv;exact ov gX
     refine ⟨.eq (.bool false),trivial,rfl,fun aa ww ll hh=>?_,?_⟩
     ·have e20:=hh.gt 3 4;have e24:=hh.gt 7 0;have ef:=evf aa;refine out_call_eq (wanted_none rfl) ?_ (HFI.out ww);exact gX
     refine stq ?_ (fun aa ww ll hh=>?_) ?_;rotate_left
     ·have e25:=hh.gt 8 0;exact ov gX
     intro ll w3 hS hok;clear hok;simp only[List.reverse_cons,List.reverse_nil,List.nil_append,List.cons_append,layO,Out.val,Act.put,List.setIfInBounds_toArray,List.set_cons_zero,List.set_cons_succ];go_wp2_with fail;go_ret;refine ⟨?_,HW.out.trans (hS.mono HW.out.size)⟩;have e:R=false:=by
      rw[HR.out];unfold numsP;rw[Bool.and_eq_false_iff];refine .inr ?_;rw[Bool.eq_false_iff];intro hc;have:=(zip_all (by have:=HE.out;omega)).1 hc k (by have:=HE.out;omega);rw[<- HRF.out] at this;cases this
     rw[e];rfl
    ·skip;refine roB wr ?_;refine stq ?_ (fun aa ww ll hh=>?_) ?_;rotate_left
     ·have e0:=hh.oL 0;refine ov ?_;rw[xmv e0]
     refine stq ?_ (fun aa ww ll hh=>?_) ?_;rotate_left
     ·have e5:=hh.oL 5;refine ov ?_;rw[xmv e5]
     refine stq ?_ (fun aa ww ll hh=>?_) ?_;rotate_left
     ·have e17:=hh.gt 0 1;have e18:=hh.gt 1 0;exact ov gX
     refine stq ?_ (fun aa ww ll hh=>?_) ?_;rotate_left
     ·have e19:=hh.gt 2 0;obtain ⟨c0,c1,c2⟩:=HCF.out ww hh.inv;exact ov gX
     refine stq ?_ (fun aa ww ll hh=>?_) ?_;rotate_left
     ·have e1:=hh.oL 1;refine ov ?_;rw[xmv e1]
     refine stq ?_ (fun aa ww ll hh=>?_) ?_;rotate_left
     ·have e5:=hh.oL 5;refine ov ?_;rw[xmv e5]
     refine stq ?_ (fun aa ww ll hh=>?_) ?_;rotate_left
     ·have e21:=hh.gt 4 1;have e22:=hh.gt 5 0;exact ov gX
     refine stq ?_ (fun aa ww ll hh=>?_) ?_;rotate_left
     ·have e23:=hh.gt 6 0;obtain ⟨c0,c1,c2⟩:=HCF.out ww hh.inv;exact ov gX
     refine ⟨.eq (.bool true),trivial,rfl,fun aa ww ll hh=>?_,?_⟩
     ·have e20:=hh.gt 3 4;have e24:=hh.gt 7 0;have ef:=evf aa;refine out_call_eq (wanted_none rfl) ?_ (HFI.out ww);exact gX
     refine stq ?_ (fun aa ww ll hh=>?_) ?_;rotate_left
     ·have e25:=hh.gt 8 0;exact ov gX
     intro ll w3 hS hok;clear hok;simp only[List.reverse_cons,List.reverse_nil,List.nil_append,List.cons_append,layO,Out.val,Act.put,List.setIfInBounds_toArray,List.set_cons_zero,List.set_cons_succ];go_wp2_with fail;go_roundw
     case rel=>exact ⟨k+1,by omega,by go_num,HW.out.trans (hS.mono HW.out.size),fun q hq=>by
      rcases Nat.lt_or_ge q k with h|h
      ·exact HQ.out q h
      ·obtain rfl:q=k:=by omega
       exact HRF.out.symm⟩
     case measure=>simp[intOf];omega
   ·obtain rfl:k=gn:=by omega
    go_wp2_with fail;go_ret;refine ⟨?_,HW.out⟩;have e:R=true:=by
     rw[HR.out];unfold numsP;rw[decide_eq_true (by have:=HE.out;omega),Bool.true_and];exact (zip_all (by have:=HE.out;omega)).2 fun q hq=>HQ.out q (by have:=HE.out;omega)
    rw[e];rfl
 ·have hr:R=false:=by rw[HR.out];unfold numsP;rw[decide_eq_false (by have:=HE.out;omega)];rfl
  have h9:((gn:Int)!=(pn:Int))=true:=bne_iff_ne.2 (by omega);have h8:¬(gn:Int)=(pn:Int):=by omega
  go_enter Tryz.func28,Tryz.ntmps28;go_wp2_with fail;go_ret;exact ⟨by first|rfl|(rw[hr];rfl),Below.refl _ _⟩
end Go.Proofs.YtjfhfaodbjecdaaGreat
