/- Lemmas. -/
import Derived.Test.YtikilcbpogfgkaaGreatJI09
set_option maxHeartbeats 12800000
set_option maxRecDepth 100000
namespace Go.Proofs.YtikilcbpogfgkaaGreat
open Go.RowKit
variable {w:World} {n c:Nat}
abbrev Pgc (W:World) (g:Nat) (s:PgS):Prop:=Cl W g 0 (.slice s.hp s.hn s.hc)/\Cl W g 1 (.slice s.mp s.mn s.mc)/\Cl W g 2 (.slice s.sp s.sn s.sc)/\Cl W g 3 (.slice s.ap s.an s.ac)/\Cl W g 4 (.slice s.tp s.tn s.tc)/\Cl W g 5 (.slice s.cp s.cn s.cc)/\Cl W g 6 (.slice s.ep s.en s.ec)/\Cl W g 7 (.slice s.v1 s.n1 s.c1)/\Cl W g 8 (.slice s.v2 s.n2 s.c2)/\Cl W g 9 (.slice s.v3 s.n3 s.c3)/\Cl W g 10 (.slice s.v4 s.n4 s.c4)/\Cl W g 11 (.slice s.v5 s.n5 s.c5)
theorem IstRow.el {p:Option Addr} {l:List Ist} (h:IstRow w (.slice p n c) l) {j:Nat} {x:Ist} (hj:l[j]?=some x):∃b o ep en ec,p=some ⟨b,o,none⟩/\b<w.heap.size/\w.cell? ⟨b,o+j*5,none⟩=some (.int .u8 x.k)/\w.cell? ⟨b,o+j*5+1,none⟩=some (.int .i64 x.a)/\w.cell? ⟨b,o+j*5+2,none⟩=some (.int .i64 x.b)/\w.cell? ⟨b,o+j*5+3,none⟩=some (.slice ep en ec)/\w.cell? ⟨b,o+j*5+4,none⟩=some (.int .i64 x.to)/\CRow w (.slice ep en ec) x.e:=by
 obtain ⟨b,o,e,h1,c0,c1,c2,⟨ep,en,ec,c3,hr⟩,c4⟩:=h.get hj;exact ⟨b,o,ep,en,ec,e,h1,c0,c1,c2,c3,c4,hr⟩
theorem mayInsts_any (s:PgS) (p:Prg) (act:Int) (l:List Ist) (lp:Option Addr) (n lc:Nat) (w:World) (hp:PgOk w s p) (hS:Sm p) (hl:IstRow w (.slice lp n lc) l) (hn:n<=6000) (hcs:∀x∈l,x.e.length<=6000):
 Calls Tryz.prog 50 #[pgV s, .int .i64 act, .slice lp n lc] w fun e w'=>e= .returned (.bool (mayInstsP p act l))/\Bl w w':=by
 obtain ⟨R,hR⟩:=nm (mayInstsP p act l);rw[<- hR];obtain ⟨hl1,hl2,hl3,-⟩:=hl.ln;have hR2:R=allIdx (fun i x=>mayInstP p act x i n) 0 l:=by
  rw[hR];unfold mayInstsP;rw[decide_eq_true om,Bool.true_and,hl1]
 have HR:=hD hR2;have HL:=hD hl;have HN:=hD hl1;have HCS:=hD hcs;have HMI:Hd (∀ W k x ep en ec,Bl w W->CRow W (.slice ep en ec) x.e->en<=6000->CR 81 #[pgV s, .int .i64 act,isV x.k x.a x.b ep en ec x.to, .int .i64 ((k:Nat):Int), .int .i64 (n:Int)] W (.bool (mayInstP p act x k n))):=fun W k x ep en ec h hc he=>mayInst_any s p act x ep en ec k n W (hp.below h) hS hc he
 have hbig:¬(65536:Int)<(n:Int):=om;clear hR hR2 hp hS hl hl1 hcs;unfold pgV isV at HMI;unfold pgV;go_enter Tryz.func50,Tryz.ntmps50;go_wp2_with fail;obtain ⟨W0,hW0⟩:=nm (w.alloc (.cells (pA s) 33));have HB0:Hd (Bl w W0):=by show Below _ _ _;rw[hW0];exact bL
 have HPB:Hd (PBox W0 w.heap.size s):=by show _=_;rw[hW0];exact heap_new _ _
 rw[<- hW0];clear hW0;go_loopw [7] (fun i wr=>∃k:Nat,k<=n/\i= .int .i64 k/\Hd (Bl W0 wr)/\Hd (∀ j x,j<k->l[j]?=some x->mayInstP p act x j n=true)) (fun i _=>n-(intOf i).toNat)
 case atStart=>exact ⟨0,zl,rfl,Below.refl _ _,fun j _ hj=>absurd hj om⟩
 case round=>
  obtain ⟨k,hk,rfl,HW,HQ⟩:=hrel;by_cases hlt:k<n
  ·obtain ⟨x,hx⟩:∃x,l[k]?=some x:=⟨_,gE_ (by have:=HN.o;omega)⟩;have hbw:=HB0.o.trans (HW.o.mono HB0.o.size);obtain ⟨b,o,ep,en,ec,rfl,hb,c0,c1,c2,c3,c4,hcr⟩:=IstRow.el (HL.o.below keepIst hbw) hx;have hen:en<=6000:=by have:=HCS.o x (gM_ hx);have:=hcr.ln.1;omega
   obtain ⟨r,hr⟩:=nm (mayInstP p act x k n);have HC:Hd (∀ W,Bl wr W->CR 81 #[.agg (pA s), .int .i64 act, .agg #[.int .u8 x.k, .int .i64 x.a, .int .i64 x.b, .slice ep en ec, .int .i64 x.to], .int .i64 (k:Int), .int .i64 (n:Int)] W (.bool r)):=fun W h=>by rw[hr];exact HMI.o W k x ep en ec (hbw.trans (h.mono hbw.size)) (hcr.below keepNd h) hen
   have HRX:=hD (And.intro hx hr);obtain ⟨x0,e0⟩:=nm x.k;obtain ⟨x1,e1⟩:=nm x.a;obtain ⟨x2,e2⟩:=nm x.b;obtain ⟨x4,e4⟩:=nm x.to;rw[<- e0, <-e1, <-e2, <-e4] at HC;rw[<- e0] at c0;rw[<- e1] at c1;rw[<- e2] at c2;rw[<- e4] at c4;have HCE:Hd (∀ W,Bl wr W->Pgc W w.heap.size s/\Cl W b (o+k*5) (.int .u8 x0)/\Cl W b (o+k*5+1) (.int .i64 x1)/\Cl W b (o+k*5+2) (.int .i64 x2)/\Cl W b (o+k*5+3) (.slice ep en ec)/\Cl W b (o+k*5+4) (.int .i64 x4)):=fun W h=>
    ⟨(HPB.o.below (HW.o.trans (h.mono HW.o.size))).cells,(h.cell (p:=⟨b,o+k*5,none⟩) hb).trans c0,(h.cell (p:=⟨b,o+k*5+1,none⟩) hb).trans c1,(h.cell (p:=⟨b,o+k*5+2,none⟩) hb).trans c2,(h.cell (p:=⟨b,o+k*5+3,none⟩) hb).trans c3,(h.cell (p:=⟨b,o+k*5+4,none⟩) hb).trans c4⟩
   have hki:(k:Int)<(n:Int):=om;clear e0 e1 e2 e4 hx hr hcr c0 c1 c2 c3 c4 hbw;go_upto_region 6 with fail;cases r
   ·skip;refine roB wr ?_;refine sq (fun aa ww ll hh=>by have:=hh.oL 3;exact ov (fC (HCE.o ww hh.inv))) ?_;refine sq (fun aa ww ll hh=>by exact ov (xmv (hh.oL 1))) ?_;refine sq (fun aa ww ll hh=>by exact ov (xmv (hh.oL 2))) ?_;refine sq (fun aa ww ll hh=>by exact ov (xmv (hh.oL 7))) ?_;refine sq (fun aa ww ll hh=>by have:=hh.gt 2 1;have:=hh.gt 3 0;exact ov gX) ?_;refine sq (fun aa ww ll hh=>by have:=hh.gt 4 0;exact ov (fC (HCE.o ww hh.inv))) ?_;refine sq (fun aa ww ll hh=>by exact ov (xmv (hh.oL 7))) ?_;refine sq (fun aa ww ll hh=>by exact ov (xmv (hh.oL 2))) ?_;refine sq (fun aa ww ll hh=>by have:=hh.gt 7 0;exact ov (fC (HCE.o ww hh.inv))) ?_;refine ⟨.eq (.bool false),trivial,rfl,fun aa ww ll hh=>?_,?_⟩
    ·exact gT3
    refine sq (fun aa ww ll hh=>by have:=hh.gt 9 0;exact ov gX) ?_;intro ll w3 hS hok;clear hok;simp only[ly];go_wp2_with fail;go_ret;refine ⟨?_,HB0.o.trans ((HW.o.trans (hS.mono HW.o.size)).mono HB0.o.size)⟩;have e:R=false:=by
     rw[HR.o,Bool.eq_false_iff];intro hc;have:=(allIdx_iff.1 hc) k x HRX.o.1;rw[Nat.zero_add, <-HRX.o.2] at this;cases this
    rw[e];rfl
   ·skip;refine roB wr ?_;refine sq (fun aa ww ll hh=>by have:=hh.oL 3;exact ov (fC (HCE.o ww hh.inv))) ?_;refine sq (fun aa ww ll hh=>by exact ov (xmv (hh.oL 1))) ?_;refine sq (fun aa ww ll hh=>by exact ov (xmv (hh.oL 2))) ?_;refine sq (fun aa ww ll hh=>by exact ov (xmv (hh.oL 7))) ?_;refine sq (fun aa ww ll hh=>by have:=hh.gt 2 1;have:=hh.gt 3 0;exact ov gX) ?_;refine sq (fun aa ww ll hh=>by have:=hh.gt 4 0;exact ov (fC (HCE.o ww hh.inv))) ?_;refine sq (fun aa ww ll hh=>by exact ov (xmv (hh.oL 7))) ?_;refine sq (fun aa ww ll hh=>by exact ov (xmv (hh.oL 2))) ?_;refine sq (fun aa ww ll hh=>by have:=hh.gt 7 0;exact ov (fC (HCE.o ww hh.inv))) ?_;refine ⟨.eq (.bool true),trivial,rfl,fun aa ww ll hh=>?_,?_⟩
    ·exact gT3
    refine sq (fun aa ww ll hh=>by have:=hh.gt 9 0;exact ov gX) ?_;intro ll w3 hS hok;clear hok;simp only[ly];go_wp2_with fail;go_roundw
    case rel=>exact ⟨k+1,om,by go_num,HW.o.trans (hS.mono HW.o.size),fun j y hj hy=>by
     rcases Nat.lt_or_ge j k with h|h
     ·exact HQ.o j y h hy
     ·obtain rfl:j=k:=om
      rw[HRX.o.1] at hy;cases hy
      exact HRX.o.2.symm⟩
    case measure=>exact mz
  obtain rfl:k=n:=om;go_wp2_with fail;go_ret;refine ⟨?_,HB0.o.trans (HW.o.mono HB0.o.size)⟩;have e:R=true:=by
   rw[HR.o];exact allIdx_iff.2 fun j x hj=>by
    rw[Nat.zero_add];exact HQ.o j x (by have:=(gL_ hj).1;have:=HN.o;omega) hj
  rw[e];rfl
open Go.RowKit
def headOk (p:Prg) (i:Nat) (l:List Int):Bool:=decide (1<=l.length/\l.length<=16)&&l.all okP&&decide (sumI l%8=0/\sumI l<=256/\(p.nf.getD i []).length=l.length)
theorem foldl_add (a:Int):∀l:List Int,l.foldl (·+·) a=a+l.foldl (·+·) 0
 |[]=>by simp
 |x::l=>by
  rw[List.foldl_cons,List.foldl_cons,foldl_add (a+x) l,foldl_add (0+x) l];omega
theorem sumI_snoc {l:List Int} {k:Nat} (hk:k<l.length):sumI (l.take (k+1))=sumI (l.take k)+l.getD k 0:=by
 rw[List.take_add_one,gE_ hk];unfold sumI;rw[List.foldl_append,List.getD_eq_getElem?_getD,gE_ hk];rfl
theorem sumI_ok:∀{l:List Int},l.all okP=true->0<=sumI l/\sumI l<=128*(l.length:Int)
 |[],_=>by simp[sumI]
 |x::l,h=>by
  rw[List.all_cons,Bool.and_eq_true] at h;obtain ⟨h1,h2⟩:=h;have h3:0<x/\x<129:=by unfold okP at h1;simpa using h1
  have h4:=sumI_ok h2;have e:sumI (x::l)=x+sumI l:=by unfold sumI;rw[List.foldl_cons,foldl_add (0+x)];omega
  rw[e,List.length_cons];omega
theorem wrap_add (a b:Int):wrap64 (wrap64 a+b)=wrap64 (a+b):=by unfold wrap64;omega
theorem StsRow.el {p:Option Addr} {l:List (List ByteArray)} (h:StsRow w (.slice p n c) l) {j:Nat} (hj:j<l.length):∃b o p1 n1 c1,p=some ⟨b,o,none⟩/\b<w.heap.size/\w.cell? ⟨b,o+j,none⟩=some (.slice p1 n1 c1)/\n1=(l.getD j []).length:=by
 obtain ⟨b,o,e,h1,p1,n1,c1,h2,h3⟩:=h.get (some_getD [] hj);rw[Nat.mul_one] at h2;exact ⟨b,o,p1,n1,c1,e,h1,h2,h3.ln.1⟩
theorem heads_any (s:PgS) (p:Prg) (w:World) (hp:PgOk w s p) (hS:Sm p):
 Calls Tryz.prog 47 #[pgV s] w fun e w'=>e= .returned (.bool (headsP p))/\Bl w w':=by
 obtain ⟨R,hR⟩:=nm (headsP p);rw[<- hR];have HP:=hD hp;have HS:=hD hS;have HR:=hD hR;obtain ⟨hd1,hd2,hd3,-⟩:=hp.heads.ln;obtain ⟨hh1,hh2,hh3,-⟩:=hp.nh.ln;obtain ⟨hf1,hf2,hf3,-⟩:=hp.nf.ln;have hds:=hS.heads;rw[<- hd1] at hds;have HL:=hD (And.intro hd1 (And.intro hh1 hf1));clear hR hp hS hd1 hh1 hf1;unfold pgV;go_enter Tryz.func47,Tryz.ntmps47;go_upto_region 1 with fail;obtain ⟨W0,hW0⟩:=nm (w.alloc (.cells (pA s) 33));have HB0:Hd (Bl w W0):=by show Below _ _ _;rw[hW0];exact bL
 have HPB:Hd (PBox W0 w.heap.size s):=by show _=_;rw[hW0];exact heap_new _ _
 rw[<- hW0];clear hW0;obtain ⟨q0,-,-,-,-,-,-,q7,q8,-,-,-⟩:=HPB.o.cells;by_cases hbig:s.hn<=8/\s.n1=s.hn/\s.n2=s.hn
 ·obtain ⟨hb1,hb2,hb3⟩:=hbig;have hbi:¬(8:Int)<(s.hn:Int):=om;have hR2:R=allIdx (headOk p) 0 p.heads:=by
   obtain ⟨l1,l2,l3⟩:=HL.o;rw[HR.o];unfold headsP;rw[decide_eq_true om,Bool.true_and];rfl
  have HR2:=hD hR2;have hb2i:(s.n1:Int)=(s.hn:Int):=om;have hb3i:(s.n2:Int)=(s.hn:Int):=om;clear hR2 hb2 hb3;go_wp2_with fail;go_loopw [3] (fun i wr=>∃k:Nat,k<=s.hn/\i= .int .i64 k/\Hd (Bl W0 wr)/\Hd (∀ j l,j<k->p.heads[j]?=some l->headOk p j l=true)) (fun i _=>s.hn-(intOf i).toNat)
  case atStart=>exact ⟨0,zl,rfl,Below.refl _ _,fun j _ hj=>absurd hj om⟩
  case round=>
   obtain ⟨k,hk,rfl,HW,HQ⟩:=hrel;clear q0 q7 q8;obtain ⟨q0,-,-,-,-,-,-,q7,q8,-,-,-⟩:=(HPB.o.below HW.o).cells;by_cases hlt:k<s.hn
   ·obtain ⟨hd,hdq⟩:∃l,p.heads[k]?=some l:=⟨_,gE_ (by have:=HL.o.1;omega)⟩;have hbw:=HB0.o.trans (HW.o.mono HB0.o.size);obtain ⟨b,o,p1,nr,c1,hps,hbl,hcell,hrow⟩:=IsRow.el (HP.o.heads.below keepIs hbw) (j:=k) (by have:=HL.o.1;omega);rw[getD_some hdq] at hrow;obtain ⟨fb,fo,fp,fn,fc,hfs,hfb,hfc,hfn⟩:=StsRow.el (HP.o.nf.below keepSts hbw) (j:=k) (by have:=HL.o;omega);obtain ⟨hnr,hn2,hn3,-⟩:=hrow.ln;have hnl:nr<=6000:=by rw[hnr];exact HS.o.head _ (gM_ hdq)
    have HROW:=hD hrow;have HNR:=hD hnr;have HFN:=hD hfn;have HDQ:=hD hdq;obtain ⟨ra,hra⟩:=nm (hd.all okP);have HWD:Hd (∀ W,Bl wr W->CR 48 #[.slice p1 nr c1] W (.bool ra)):=fun W h=>by rw[hra];exact widths10_any hd _ _ _ W (hrow.below keepI h) om
    have HRA:=hD hra;rw[hps] at q0;rw[hfs] at q8;have HFS:=hD hfs;have hkn:(k:Int)<(s.n2:Int):=om;have hki:(k:Int)<(s.hn:Int):=om;clear hrow hnr hfn hdq hra hps hfs hbw;go_wp2_with fail;go_loopw [5,6] (fun u i wq=>∃z:Nat,z<=nr/\i= .int .i64 z/\u= .int .i64 (wrap64 (sumI (hd.take z)))/\wq=wr) (fun _ i _=>nr-(intOf i).toNat)
    case atStart=>exact ⟨0,zl,rfl,by simp[sumI,wrap64],rfl⟩
    case round=>
     obtain ⟨z,hz,rfl,rfl,rfl⟩:=hrel;by_cases hzl:z<nr
     ·obtain ⟨rb,ro,rfl,-,hrc⟩:=IRow.el HROW.o (j:=z) (by have:=HNR.o;omega);exact gK1
     obtain rfl:z=nr:=om;have hall:hd.take z=hd:=List.take_of_length_le (by have:=HNR.o;omega);rw[hall];clear hall;have hbel:=HB0.o.trans (HW.o.mono HB0.o.size);have HBE:=hD hbel;clear hbel;by_cases h1:1<=z/\z<=16
     ·have h1a:¬(z:Int)<1:=om;have h1b:¬(16:Int)<(z:Int):=om;cases ra
      ·have hr:R=false:=by
        rw[HR2.o,Bool.eq_false_iff];intro hc;have:=(allIdx_iff.1 hc) k hd HDQ.o;unfold headOk at this;rw[<- HRA.o] at this;simp at this
       go_wp2_with (go_at_call 48;refine (HWD.o _ br).mono ?_;rintro e w1 ⟨rfl,hb1⟩;have HB1:=hD hb1;clear hb1);go_ret;exact ⟨by first|rfl|(rw[hr];rfl),HBE.o.trans (HB1.o.mono HBE.o.size)⟩
      ·obtain ⟨S,hSq⟩:=nm (sumI hd);have hso:=sumI_ok HRA.o.symm;rw[<- hSq] at hso;have hsz:0<=S/\S<=2048:=by have:=HNR.o;omega
       have hws:wrap64 S=S:=wrapS om om;rw[<- hSq,hws];have HSQ:=hD hSq;have hsm:S.tmod 8=S%8:=Int.tmod_eq_emod_of_nonneg om;have hok:headOk p k hd=decide (S%8=0/\S<=256/\fn=z):=by
        unfold headOk;rw[decide_eq_true (by have:=HNR.o;omega), <-HRA.o, <-hSq,HFN.o,HNR.o];rfl
       have HOK:=hD hok;have HSZ:=hD hsz;clear hso hSq hok;by_cases hg:S%8=0/\S<=256/\fn=z
       ·obtain ⟨g1,g2,g3⟩:=hg;have g2b:¬256<S:=om;have g3i:(fn:Int)=(z:Int):=om;have HG:=hD (And.intro g1 (And.intro g2 g3));clear g3;have hm8:S.tmod 8=0:=hsm.trans g1;go_wp2_with (go_at_call 48;refine (HWD.o _ br).mono ?_;rintro e w1 ⟨rfl,hb1⟩;have HB1:=hD hb1;have hpc:=(HPB.o.below (HW.o.trans (hb1.mono HW.o.size))).cells;obtain ⟨q0,-,-,-,-,-,-,q7,q8,-,-,-⟩:=hpc;have hfc1:=(hb1.cell (p:=⟨fb,fo+k,none⟩) (Nat.lt_of_lt_of_le hfb lr)).trans hfc;rw[HFS.o] at q8;clear hb1);go_roundw
        case rel=>exact ⟨k+1,om,by go_num,HW.o.trans (HB1.o.mono HW.o.size),fun j l hj hl=>by
         rcases Nat.lt_or_ge j k with h|h
         ·exact HQ.o j l h hl
         ·obtain rfl:j=k:=om
          rw[HDQ.o] at hl;cases hl
          rw[HOK.o];exact decide_eq_true HG.o⟩
        case measure=>exact mz
       have hr:R=false:=by
        rw[HR2.o,Bool.eq_false_iff];intro hc;have:=(allIdx_iff.1 hc) k hd HDQ.o;rw[Nat.zero_add,HOK.o] at this;exact hg (of_decide_eq_true this)
       have hbad:(¬ S%8=0/\¬S.tmod 8=0)\/(S%8=0/\S.tmod 8=0/\256<S)\/(S%8=0/\S.tmod 8=0/\¬256<S/\¬(fn:Int)=(z:Int)):=by rw[hsm];omega
       clear hsm;rcases hbad with ⟨g1,g2⟩|⟨g1,g2,g3⟩|⟨g1,g2,g3,g4⟩
       all_goals
        try have g9:((fn:Int)!=(z:Int))=true:=bne_iff_ne.2 g4
        go_wp2_with (go_at_call 48;refine (HWD.o _ br).mono ?_;rintro e w1 ⟨rfl,hb1⟩;have HB1:=hD hb1;have hpc:=(HPB.o.below (HW.o.trans (hb1.mono HW.o.size))).cells;obtain ⟨q0,-,-,-,-,-,-,q7,q8,-,-,-⟩:=hpc;have hfc1:=(hb1.cell (p:=⟨fb,fo+k,none⟩) (Nat.lt_of_lt_of_le hfb lr)).trans hfc;rw[HFS.o] at q8;clear hb1);go_ret;exact ⟨by first|rfl|(rw[hr];rfl),HBE.o.trans (HB1.o.mono HBE.o.size)⟩
     have hr:R=false:=by
      rw[HR2.o,Bool.eq_false_iff];intro hc;have:=(allIdx_iff.1 hc) k hd HDQ.o;unfold headOk at this;rw[decide_eq_false (by have:=HNR.o;omega)] at this;simp at this
     rcases (show (z:Int)<1\/(¬ (z:Int)<1/\16<(z:Int)) by omega) with g1|⟨g1,g2⟩
     all_goals
      go_wp2_with fail;go_ret;exact ⟨by first|rfl|(rw[hr];rfl),HBE.o⟩
   obtain rfl:k=s.hn:=om;go_wp2_with fail;go_ret;refine ⟨?_,HB0.o.trans (HW.o.mono HB0.o.size)⟩;have e:R=true:=by
    rw[HR2.o];exact allIdx_iff.2 fun j l hj=>by
     rw[Nat.zero_add];exact HQ.o j l (by have:=(gL_ hj).1;have:=HL.o.1;omega) hj
   rw[e];rfl
 have hr:R=false:=by
  obtain ⟨l1,l2,l3⟩:=HL.o;rw[HR.o];unfold headsP;rw[decide_eq_false om];rfl
 rcases (show 8<(s.hn:Int)\/(¬ 8<(s.hn:Int)/\¬(s.n1:Int)=(s.hn:Int))\/(¬ 8<(s.hn:Int)/\(s.n1:Int)=(s.hn:Int)/\¬(s.n2:Int)=(s.hn:Int)) by omega) with g1|⟨g1,g2⟩|⟨g1,g2,g3⟩
 all_goals
  go_wp2_with fail;go_ret;exact ⟨by first|rfl|(rw[hr];rfl),HB0.o⟩
open Go.RowKit
def TBox (w:World) (g:Nat) (kp:Option Addr) (kn kc:Nat) (up:Option Addr) (un uc:Nat) (lp:Option Addr) (ln lc:Nat) (da:Int) (gp:Option Addr) (gn gc:Nat):Prop:=w.heap[g]?=some (.cells #[.slice kp kn kc, .slice up un uc, .slice lp ln lc, .int .i64 da, .slice gp gn gc] 121 (0,0))
section
variable {w w':World} {g:Nat} {kp up lp gp:Option Addr} {kn kc un uc ln lc gn gc:Nat} {da:Int}
theorem TBox.cells (h:TBox w g kp kn kc up un uc lp ln lc da gp gn gc):w.cell? ⟨g,0,none⟩=some (.slice kp kn kc)/\w.cell? ⟨g,1,none⟩=some (.slice up un uc)/\w.cell? ⟨g,2,none⟩=some (.slice lp ln lc)/\w.cell? ⟨g,3,none⟩=some (.int .i64 da)/\w.cell? ⟨g,4,none⟩=some (.slice gp gn gc):=by
 unfold TBox at h;exact gQ3
theorem TBox.below (h:TBox w g kp kn kc up un uc lp ln lc da gp gn gc) (hb:Bl w w'):TBox w' g kp kn kc up un uc lp ln lc da gp gn gc:=(hb.block g (gA_ h).1).trans h
end
theorem filter_snoc {l:List Int} {k:Nat} (hk:k<l.length):((l.take (k+1)).filter fun z=>decide (z=2)).length=((l.take k).filter fun z=>decide (z=2)).length+(if l.getD k 0=2 then 1 else 0):=by
 rw[List.take_add_one,gE_ hk,List.filter_append,List.length_append,List.getD_eq_getElem?_getD,gE_ hk];congr 1;simp only[Option.toList,Option.getD,List.filter_cons,List.filter_nil];by_cases h:l[k]=2<;>simp[h]
theorem CsRow.el {p:Option Addr} {l:List (List Nod)} (h:CsRow w (.slice p n c) l) {j:Nat} {x:List Nod} (hj:l[j]?=some x):∃b o p1 n1 c1,p=some ⟨b,o,none⟩/\b<w.heap.size/\w.cell? ⟨b,o+j,none⟩=some (.slice p1 n1 c1)/\CRow w (.slice p1 n1 c1) x:=by
 exact gB5
theorem URow.el {p:Option Addr} {l:List Int} (h:URow w (.slice p n c) l) {j:Nat} (hj:j<l.length):∃b o,p=some ⟨b,o,none⟩/\b<w.heap.size/\w.cell? ⟨b,o+j,none⟩=some (.int .u8 (l.getD j 0)):=by
 obtain ⟨b,o,e,h1,h2⟩:=h.get (some_getD 0 hj);rw[Nat.mul_one] at h2;exact ⟨b,o,e,h1,h2⟩
def keyOk (p:Prg) (kinds:List Int) (i:Nat) (c:List Nod):Bool:=(widthP p (-1) c).isSome&&decide (1<=kinds.getD i 0/\kinds.getD i 0<=3)
theorem mayTab_any (s:PgS) (p:Prg) (t:Tbl) (kp:Option Addr) (kn kc:Nat) (up:Option Addr) (un uc:Nat) (lp:Option Addr) (ln lc:Nat) (gp:Option Addr) (gn gc:Nat) (w:World) (hp:PgOk w s p) (hS:Sm p)
 (hk:CsRow w (.slice kp kn kc) t.keys) (hu:URow w (.slice up un uc) t.kinds) (hl:IRow w (.slice lp ln lc) t.acts) (hg:NRow w (.slice gp gn gc) t.dargs) (hkn:kn<=6000) (hcs:∀c∈t.keys,c.length<=6000) (hln:ln<=6000) (hgn:gn<=6000):
 Calls Tryz.prog 53 #[pgV s, .agg #[.slice kp kn kc, .slice up un uc, .slice lp ln lc, .int .i64 t.dact, .slice gp gn gc]] w fun e w'=>e= .returned (.bool (mayTabP p t))/\Bl w w':=by
 obtain ⟨R,hR⟩:=nm (mayTabP p t);rw[<- hR];obtain ⟨hk1,hk2,hk3,-⟩:=hk.ln;obtain ⟨hu1,hu2,hu3,-⟩:=hu.ln;obtain ⟨hl1,hl2,hl3,-⟩:=hl.ln;obtain ⟨ha1,-,-,-⟩:=hp.acts.ln;obtain ⟨rl,hrl⟩:=nm (listsP (p.acts.length:Int) [] t.acts);obtain ⟨rm,hrm⟩:=nm (mayRunP p t.acts t.dact t.dargs);have hR2:R=(decide (1<=kn/\kn<=4/\un=kn/\1<=ln/\ln<=16)&&rl&&allIdx (keyOk p t.kinds) 0 t.keys&&decide ((t.kinds.filter fun z=>decide (z=2)).length<2)&&rm):=by
  rw[hR,hrl,hrm,hk1,hu1,hl1];rfl
 have HR:=hD hR2;have HP:=hD hp;have HK:=hD hk;have HU:=hD hu;have HE:=hD (And.intro hk1 hu1);have HCS:=hD hcs;obtain ⟨da,hda⟩:=nm t.dact;have HLI:Hd (∀ W,Bl w W->CR 49 #[.slice lp ln lc, .int .i64 (s.an:Int)] W (.bool rl)):=fun W h=>by rw[hrl,ha1];exact lists_any t.acts lp ln lc _ W (hl.below keepI h) hln
 have HMR:Hd (∀ W,Bl w W->CR 84 #[pgV s, .slice lp ln lc, .agg #[.int .i64 da, .slice gp gn gc]] W (.bool rm)):=fun W h=>by rw[hrm,hda];exact mayRun_any s p t.acts lp ln lc _ t.dargs gp gn gc W (hp.below h) hS (hl.below keepI h) hln (hg.below keepN h) om
 have HWD:Hd (∀ W c cp cn cc,Bl w W->CRow W (.slice cp cn cc) c->cn<=6000->CR 82 #[pgV s, .int .i64 (-1), .slice cp cn cc] W (wRes (widthP p (-1) c))):=fun W c cp cn cc h hc hn=>width_any s p (-1) c cp cn cc W (hp.below h) hS hc hn
 rw[<- hda];clear hR hR2 hrl hrm hp hS hk hu hl hg hcs hda hk1 hu1 hl1 ha1;unfold pgV at HMR HWD⊢;go_enter Tryz.func53,Tryz.ntmps53;go_upto_region 1 with fail;obtain ⟨W0,hW0⟩:=nm ((w.alloc (.cells (pA s) 33)).alloc (.cells #[.slice kp kn kc, .slice up un uc, .slice lp ln lc, .int .i64 da, .slice gp gn gc] 121));have HB0:Hd (Bl w W0):=by show Below _ _ _;rw[hW0];exact bL
 have HPB:Hd (PBox W0 w.heap.size s):=by show _=_;rw[hW0,Below.heap_alloc _ _ _ sm];exact heap_new _ _
 have HTB:Hd (TBox W0 (w.heap.size+1) kp kn kc up un uc lp ln lc da gp gn gc):=by
  exact gZ
 rw[<- hW0];clear hW0;obtain ⟨q0,q1,q2,q3,q4,q5,q6,q7,q8,q9,q10,q11⟩:=HPB.o.cells;obtain ⟨t0,t1,t2,t3,t4⟩:=HTB.o.cells;by_cases hA:1<=kn/\kn<=4/\un=kn/\1<=ln/\ln<=16
 ·obtain ⟨a1,a2,a3,a4,a5⟩:=hA;have HA:=hD (And.intro a1 (And.intro a2 (And.intro a3 (And.intro a4 a5))));have b1:¬(kn:Int)<1:=om;have b2:¬(4:Int)<(kn:Int):=om;have b3:(un:Int)=(kn:Int):=om;have b4:¬(ln:Int)<1:=om;have b5:¬(16:Int)<(ln:Int):=om;have HUN:=hD a3;clear a3;cases rl
  ·have hr:R=false:=by rw[HR.o];simp
   go_wp2_with (go_at_call 49;refine (HLI.o _ HB0.o).mono ?_;rintro e w1 ⟨rfl,hb1⟩;have HB1:=hD hb1;clear hb1);go_ret;exact ⟨by first|rfl|(rw[hr];rfl),HB0.o.trans (HB1.o.mono HB0.o.size)⟩
  ·have hR3:R=(allIdx (keyOk p t.kinds) 0 t.keys&&decide ((t.kinds.filter fun z=>decide (z=2)).length<2)&&rm):=by
    rw[HR.o,decide_eq_true HA.o];rfl
   have HR3:=hD hR3;clear hR3;go_upto_region 3 with (go_at_call 49;refine (HLI.o _ HB0.o).mono ?_;rintro e w1 ⟨rfl,hb1⟩;have HB1:=hD hb1;clear hb1);clear q0 q1 q2 q3 q4 q5 q6 q7 q8 q9 q10 q11 t0 t1 t2 t3 t4;go_wp2_with fail;go_loopw [5,6] (fun u i wr=>∃k:Nat,k<=kn/\i= .int .i64 k/\u= .int .i64 (((t.kinds.take k).filter fun z=>decide (z=2)).length:Int)/\Hd (Bl W0 wr)/\Hd (∀ j c,j<k->t.keys[j]?=some c->keyOk p t.kinds j c=true)) (fun _ i _=>kn-(intOf i).toNat)
   case atStart=>exact ⟨0,zl,rfl,by simp,HB1.o,fun j _ hj=>absurd hj om⟩
   case round=>
    obtain ⟨k,hkk,rfl,rfl,HW,HQ⟩:=hrel;have hbw:=HB0.o.trans (HW.o.mono HB0.o.size);obtain ⟨q0,q1,q2,q3,q4,q5,q6,q7,q8,q9,q10,q11⟩:=(HPB.o.below HW.o).cells;obtain ⟨t0,t1,t2,t3,t4⟩:=(HTB.o.below HW.o).cells;obtain ⟨F,hF⟩:=nm (((t.kinds.take k).filter fun z=>decide (z=2)).length);have hFk:F<=k:=by rw[hF];exact Nat.le_trans (List.length_filter_le _ _) (by rw[List.length_take];omega)
    rw[<- hF];have HF:=hD hF;clear hF;by_cases hlt:k<kn
    ·obtain ⟨c,hc⟩:∃c,t.keys[k]?=some c:=⟨_,gE_ (by have:=HE.o.1;omega)⟩;obtain ⟨kb,ko,cp,cn,cc,hkp,hkb,hkc,hcr⟩:=CsRow.el (HK.o.below keepCs hbw) hc;obtain ⟨ub,uo,hup,hub,huc⟩:=URow.el (HU.o.below keepU hbw) (j:=k) (by have:=HE.o.2;have:=HUN.o;omega);have hcn:cn<=6000:=by have:=HCS.o c (gM_ hc);have:=hcr.ln.1;omega
     obtain ⟨u,hu⟩:=nm (t.kinds.getD k 0);rw[<- hu] at huc;obtain ⟨o,ho⟩:=nm (widthP p (-1) c);have hko:keyOk p t.kinds k c=(o.isSome&&decide (1<=u/\u<=3)):=by rw[ho,hu];rfl
     have hfs:=filter_snoc (l:=t.kinds) (k:=k) (by have:=HE.o.2;have:=HUN.o;omega);rw[<- HF.o, <-hu] at hfs;have HFS:=hD hfs;have HKO:=hD (And.intro hc hko);have HC:Hd (∀ W,Bl wr W->CR 82 #[.agg (pA s), .int .i64 (-1), .slice cp cn cc] W (wRes o)):=fun W h=>by rw[ho];exact HWD.o W c cp cn cc (hbw.trans (h.mono hbw.size)) (hcr.below keepNd h) hcn
     have HCE:Hd (∀ W,Bl wr W->Pgc W w.heap.size s/\Cl W (w.heap.size+1) 0 (.slice (some ⟨kb,ko,none⟩) kn kc)/\Cl W (w.heap.size+1) 1 (.slice (some ⟨ub,uo,none⟩) un uc)/\Cl W kb (ko+k) (.slice cp cn cc)/\Cl W ub (uo+k) (.int .u8 u)):=fun W h=>by
      obtain ⟨x0,x1,-,-,-⟩:=(HTB.o.below (HW.o.trans (h.mono HW.o.size))).cells;rw[hkp] at x0;rw[hup] at x1;exact ⟨(HPB.o.below (HW.o.trans (h.mono HW.o.size))).cells,x0,x1,(h.cell (p:=⟨kb,ko+k,none⟩) hkb).trans hkc,(h.cell (p:=⟨ub,uo+k,none⟩) hub).trans huc⟩
     have hki:(k:Int)<(kn:Int):=om;have hku:(k:Int)<(un:Int):=om;have hwF:wrap64 ((F:Int)+1)=(F:Int)+1:=wrapS om om;rw[hkp] at t0;clear hc hcr hkc huc hu ho hko hfs hbw hkp hup;go_upto_region 7 with fail;clear q0 q1 q2 q3 q4 q5 q6 q7 q8 q9 q10 q11 t0 t1 t2 t3 t4;cases o with
     |none=>
      have hr:R=false:=by
       rw[HR3.o];have:allIdx (keyOk p t.kinds) 0 t.keys=false:=by
        rw[Bool.eq_false_iff];intro hc;have:=(allIdx_iff.1 hc) k c HKO.o.1;rw[Nat.zero_add,HKO.o.2] at this;cases this
       rw[this];rfl
      refine roB wr ?_;refine sq (fun aa ww ll hh=>by have:=hh.oL 2;exact ov (fC (HCE.o ww hh.inv))) ?_;refine sq (fun aa ww ll hh=>by have:=hh.oL 3;exact ov gX) ?_;refine sq (fun aa ww ll hh=>by have:=hh.gt 1 0;exact ov (fC (HCE.o ww hh.inv))) ?_;refine sq (fun aa ww ll hh=>by exact ov (xmv (hh.oL 6))) ?_;refine sq (fun aa ww ll hh=>by have:=hh.gt 2 1;have:=hh.gt 3 0;exact ov gX) ?_;refine sq (fun aa ww ll hh=>by have:=hh.gt 4 0;exact ov (fC (HCE.o ww hh.inv))) ?_;refine ⟨.eq (.tuple #[.int .i64 0, .bool false]),trivial,rfl,fun aa ww ll hh=>?_,?_⟩
      ·have e57:=hh.gt 0 5;have e62:=hh.gt 5 0;exact gI3
      refine stm 6 0 ?_;refine sq (fun aa ww ll hh=>by have:=hh.gt 7 0;exact ov gX) ?_;refine sq (fun aa ww ll hh=>by have:=hh.gt 7 1;exact ov gX) ?_;refine stm 8 1 ?_;refine stm 9 1 ?_;intro ll w3 hS hok;clear hok;simp only[ly];go_wp2_with fail;go_ret;exact ⟨by first|rfl|(rw[hr];rfl),HB0.o.trans ((HW.o.trans (hS.mono HW.o.size)).mono HB0.o.size)⟩
     |some v=>
      refine roB wr ?_;refine sq (fun aa ww ll hh=>by have:=hh.oL 2;exact ov (fC (HCE.o ww hh.inv))) ?_;refine sq (fun aa ww ll hh=>by have:=hh.oL 3;exact ov gX) ?_;refine sq (fun aa ww ll hh=>by have:=hh.gt 1 0;exact ov (fC (HCE.o ww hh.inv))) ?_;refine sq (fun aa ww ll hh=>by exact ov (xmv (hh.oL 6))) ?_;refine sq (fun aa ww ll hh=>by have:=hh.gt 2 1;have:=hh.gt 3 0;exact ov gX) ?_;refine sq (fun aa ww ll hh=>by have:=hh.gt 4 0;exact ov (fC (HCE.o ww hh.inv))) ?_;refine ⟨.eq (.tuple #[.int .i64 v, .bool true]),trivial,rfl,fun aa ww ll hh=>?_,?_⟩
      ·have e57:=hh.gt 0 5;have e62:=hh.gt 5 0;exact gI3
      refine stm 6 0 ?_;refine sq (fun aa ww ll hh=>by have:=hh.gt 7 0;exact ov gX) ?_;refine sq (fun aa ww ll hh=>by have:=hh.gt 7 1;exact ov gX) ?_;refine stm 8 1 ?_;refine stm 9 1 ?_;intro ll w3 hS hok;clear hok;simp only[ly];have HS3:=hD hS;obtain ⟨-,t0,t1,t2,t3⟩:=HCE.o w3 hS;clear hS;by_cases hu13:1<=u/\u<=3
      ·obtain ⟨u1,u2⟩:=hu13;have u1n:¬u<1:=om;have u2n:¬3<u:=om;have HU13:=hD (And.intro u1 u2);clear u1 u2;by_cases u22:u=2
       ·subst u22;go_wp2_with fail;go_roundw
        case rel=>exact ⟨k+1,om,by go_num,by rw[HFS.o,if_pos rfl];first|rfl|(simp;done)|(simp[hwF];done)|(simp;exact wrapS om om),HW.o.trans (HS3.o.mono HW.o.size),fun j c' hj hc'=>by
         rcases Nat.lt_or_ge j k with h|h
         ·exact HQ.o j c' h hc'
         ·obtain rfl:j=k:=om
          rw[HKO.o.1] at hc';cases hc'
          rw[HKO.o.2];rfl⟩
        case measure=>exact mz
       go_wp2_with fail;go_roundw
       case rel=>exact ⟨k+1,om,by go_num,by rw[HFS.o,if_neg u22];first|rfl|(simp;done)|(congr 1;omega),HW.o.trans (HS3.o.mono HW.o.size),fun j c' hj hc'=>by
        rcases Nat.lt_or_ge j k with h|h
        ·exact HQ.o j c' h hc'
        ·obtain rfl:j=k:=om
         rw[HKO.o.1] at hc';cases hc'
         rw[HKO.o.2,decide_eq_true HU13.o];rfl⟩
       case measure=>exact mz
      have hr:R=false:=by
       rw[HR3.o];have:allIdx (keyOk p t.kinds) 0 t.keys=false:=by
        rw[Bool.eq_false_iff];intro hc;have:=(allIdx_iff.1 hc) k c HKO.o.1;rw[Nat.zero_add,HKO.o.2,decide_eq_false hu13] at this;cases this
       rw[this];rfl
      rcases (show u<1\/(¬ u<1/\3<u) by omega) with g1|⟨g1,g2⟩
      all_goals
       go_wp2_with fail;go_ret;exact ⟨by first|rfl|(rw[hr];rfl),HB0.o.trans ((HW.o.trans (HS3.o.mono HW.o.size)).mono HB0.o.size)⟩
    obtain rfl:k=kn:=om;have hal:allIdx (keyOk p t.kinds) 0 t.keys=true:=allIdx_iff.2 fun j c hj=>by
     rw[Nat.zero_add];exact HQ.o j c (by have:=(gL_ hj).1;have:=HE.o.1;omega) hj
    have hFF:F=(t.kinds.filter fun z=>decide (z=2)).length:=by rw[HF.o,List.take_of_length_le (by have:=HE.o.2;have:=HUN.o;omega)]
    have hR4:R=(decide (F<2)&&rm):=by rw[HR3.o,hal,hFF];rfl
    have HR4:=hD hR4;clear hR4 hFF hal;by_cases hF2:F<2
    ·have hF2i:(F:Int)<2:=om;go_wp2_with (go_at_call 84;refine (HMR.o _ hbw).mono ?_;rintro e w5 ⟨rfl,hb5⟩;have HB5:=hD hb5;clear hb5);go_ret;refine ⟨?_,hbw.trans (HB5.o.mono hbw.size)⟩;rw[HR4.o,decide_eq_true hF2];cases rm<;>rfl
    have hF2i:¬(F:Int)<2:=om;go_wp2_with fail;go_ret;refine ⟨?_,hbw⟩;rw[HR4.o,decide_eq_false hF2];rfl
 have hr:R=false:=by rw[HR.o,decide_eq_false hA];rfl
 rcases (show (kn:Int)<1\/(¬ (kn:Int)<1/\4<(kn:Int))\/(¬ (kn:Int)<1/\¬4<(kn:Int)/\¬(un:Int)=(kn:Int))\/(¬ (kn:Int)<1/\¬4<(kn:Int)/\(un:Int)=(kn:Int)/\(ln:Int)<1)\/(¬ (kn:Int)<1/\¬4<(kn:Int)/\(un:Int)=(kn:Int)/\¬(ln:Int)<1/\16<(ln:Int)) by omega) with g1|⟨g1,g2⟩|⟨g1,g2,g3⟩|⟨g1,g2,g3,g4⟩|⟨g1,g2,g3,g4,g5⟩
 all_goals
  try have g9:((un:Int)!=(kn:Int))=true:=bne_iff_ne.2 (by assumption)
  go_wp2_with fail;go_ret;exact ⟨by first|rfl|(rw[hr];rfl),HB0.o⟩
end Go.Proofs.YtikilcbpogfgkaaGreat
