/- Find, May. -/
import Derived.Test.YtikilcbpogfgkaaGreatJI43
set_option maxHeartbeats 12800000
set_option maxRecDepth 100000
namespace Go.Proofs.YtikilcbpogfgkaaGreat
open Go.RowKit
structure NtMay (n:Net):Prop where
 few:n.sws.length<=8
 same:n.ports.length=n.sws.length
 ports:∀j,j<n.ports.length->∀x∈n.ports.getD j [],1<=x/\x<=511
 links:∀q∈n.links,ntThere n q.a=true/\ntThere n q.b=true
def NetX (W:World) (g:Nat) (v0 v1 v2:Value):Prop:=W.heap[g]?=some (.cells #[v0,v1,v2] 52 (0,0))
theorem NetX.cells {W:World} {g:Nat} {v0 v1 v2:Value} (h:NetX W g v0 v1 v2):W.cell? ⟨g,0,none⟩=some v0/\W.cell? ⟨g,1,none⟩=some v1/\W.cell? ⟨g,2,none⟩=some v2:=by
 unfold NetX at h;simp[World.cell?,h]
theorem NetX.below {W W':World} {g:Nat} {v0 v1 v2:Value} (h:NetX W g v0 v1 v2) (hb:Bl W W'):NetX W' g v0 v1 v2:=(hb.block g (gA_ h).1).trans h
def findN (x:ByteArray):List ByteArray->Nat->Int
 |[],_=>-1
 |y::l,i=>if y.toList==x.toList then (i:Int) else findN x l (i+1)
theorem findN_drop {x:ByteArray} {l:List ByteArray} {k:Nat} {y:ByteArray} (h:l[k]?=some y):findN x (l.drop k) k=if y.toList==x.toList then (k:Int) else findN x (l.drop (k+1)) (k+1):=by
 obtain ⟨h1,h2⟩:=gL_ h;rw[List.drop_eq_getElem_cons h1,h2];rfl
theorem find13_any (s:NtS) (n:Net) (x:ByteArray) (w:World) (h:NtOk w s n):
 Calls Tryz.prog 73 #[ntV s, .string x] w fun e w'=>e= .returned (.int .i64 (findN x n.sws 0))/\Bl w w':=by
 obtain ⟨R,hR⟩:=nm (findN x (n.sws.drop 0) 0);rw[show findN x n.sws 0=R from hR.symm];have HR:=hD hR;clear hR;have HN:Hd (s.sn=n.sws.length):=h.sws.ln.1;have hmx:s.sn<=9223372036854775807:=by obtain ⟨h1,h2,h3,-⟩:=h.sws.ln;unfold maxLen at h3;omega
 have HS:=hD h.sws;clear h;unfold ntV;go_enter Tryz.func73,Tryz.ntmps73;go_upto_region 1 with fail;obtain ⟨W0,hW0⟩:=nm (w.alloc (.cells #[.slice s.sp s.sn s.sc, .slice s.pp s.pn s.pc, .slice s.lp s.ln s.lc] 52));have HB0:Hd (Bl w W0):=by show Below _ _ _;rw[hW0];exact bL
 have HX0:Hd (NetX W0 w.heap.size (.slice s.sp s.sn s.sc) (.slice s.pp s.pn s.pc) (.slice s.lp s.ln s.lc)):=by show _=_;rw[hW0];exact heap_new _ _
 rw[<- hW0];clear hW0;go_wp2_with fail;go_loopw [5] (fun i wr=>∃k:Nat,k<=s.sn/\i= .int .i64 (k:Int)/\Hd (R=findN x (n.sws.drop k) k)/\Hd (Bl W0 wr)) (fun i _=>s.sn-(intOf i).toNat)
 case atStart=>exact ⟨0,zl,rfl,HR.o,Below.refl _ _⟩
 case round=>
  obtain ⟨k,hk,rfl,HI,HB⟩:=hrel;have HB2:=hD (HB0.o.trans (HB.o.mono HB0.o.size));obtain ⟨c0,c1,c2⟩:=(HX0.o.below HB.o).cells;by_cases hlt:k<s.sn
  ·have hki:(k:Int)<(s.sn:Int):=om;obtain ⟨y,hy⟩:∃y,n.sws[k]?=some y:=⟨_,gE_ (by have:=HN.o;omega)⟩;obtain ⟨b,o,hps,hb,y0⟩:=(HS.o.below keepS HB2.o).get hy;have y0:wr.cell? ⟨b,o+k*1,none⟩=some (.string y):=y0;rw[Nat.mul_one] at y0;have HI2:Hd (R=if y.toList==x.toList then (k:Int) else findN x (n.sws.drop (k+1)) (k+1)):=HI.o.trans (findN_drop hy);clear hy;generalize s.sp=spp at*;subst hps;cases hx:(y.toList==x.toList)
   ·have HI3:Hd (R=findN x (n.sws.drop (k+1)) (k+1)):=by show _=_;rw[HI2.o,hx];rfl
    go_wp2_with fail;go_roundw
    case rel=>exact ⟨k+1,om,by go_num,HI3.o,HB.o⟩
    case measure=>exact mz
   ·obtain rfl:R=(k:Int):=by rw[HI2.o,hx];rfl
    go_wp2_with fail;go_ret;exact ⟨rfl,HB2.o⟩
  obtain rfl:k=s.sn:=om;have hki:¬(s.sn:Int)<(s.sn:Int):=om;obtain rfl:R= -1:=by rw[HI.o,List.drop_eq_nil_of_le (by have:=HN.o;omega)];rfl
  go_wp2_with fail;go_ret;exact ⟨rfl,HB2.o⟩
def LQ (sa pa sb pb:Int):List Ed:=[⟨sa,pa⟩,⟨sb,pb⟩]
def NS (B sn pn ln sc pc lc:Nat) (lp:Option Addr) (n1 x1:Nat) (p1:Option Addr) (b o b2 o2 k:Nat) (y:ByteArray) (W:World):Prop:=
 W.cell? ⟨B,0,none⟩=some (.slice (some ⟨b,o,none⟩) sn sc)/\W.cell? ⟨B,1,none⟩=some (.slice (some ⟨b2,o2,none⟩) pn pc)/\W.cell? ⟨B,2,none⟩=some (.slice lp ln lc)/\W.cell? ⟨b,o+k,none⟩=some (.string y)/\W.cell? ⟨b2,o2+k,none⟩=some (.slice p1 n1 x1)
theorem may13_any (s:NtS) (n:Net) (w:World) (h:NtOk w s n) (hln:n.links.length<=1048576):
 Calls Tryz.prog 31 #[ntV s] w fun e w'=>AnsB (fun b=>b=true->NtMay n) e/\Bl w w':=by
 have HS:Hd (s.sn=n.sws.length):=h.sws.ln.1;have HP:Hd (s.pn=n.ports.length):=h.ports.ln.1;have HL:Hd (s.ln=n.links.length):=h.links.ln.1;have hmx:s.ln<=1048576:=by have:=HL.o;omega
 have HFI:Hd (∀ x W,Bl w W->CR 73 #[ntV s, .string x] W (.int .i64 (findN x n.sws 0))):=fun x W hb=>find13_any s n x W (h.below hb)
 have HTH:Hd (∀ e W,Bl w W->Calls Tryz.prog 74 #[ntV s,EdV e] W fun r w'=>r= .returned (.bool (ntThere n e))/\Bl W w'):=fun e W hb=>there13_any s n e W (h.below hb)
 have HH:=hD h;clear h;unfold ntV at HFI HTH⊢;go_enter Tryz.func31,Tryz.ntmps31;go_upto_region 1 with fail;obtain ⟨W0,hW0⟩:=nm (w.alloc (.cells #[.slice s.sp s.sn s.sc, .slice s.pp s.pn s.pc, .slice s.lp s.ln s.lc] 52));have HB0:Hd (Bl w W0):=by show Below _ _ _;rw[hW0];exact bL
 have HX0:Hd (NetX W0 w.heap.size (.slice s.sp s.sn s.sc) (.slice s.pp s.pn s.pc) (.slice s.lp s.ln s.lc)):=by show _=_;rw[hW0];exact heap_new _ _
 rw[<- hW0];clear hW0;obtain ⟨c0,c1,c2⟩:=HX0.o.cells;by_cases h8:(8:Int)<(s.sn:Int)
 ·go_wp2_with fail;go_ret;exact ⟨⟨_,rfl,fun h=>by cases h⟩,HB0.o⟩
 by_cases hpn:(s.pn:Int)=(s.sn:Int);rotate_left
 ·go_wp2_with fail;go_ret;exact ⟨⟨_,rfl,fun h=>by cases h⟩,HB0.o⟩
 go_upto_region 3 with fail;clear c0 c1 c2;go_wp2_with fail;go_loopw [3] (fun i wr=>∃k:Nat,k<=s.sn/\i= .int .i64 (k:Int)/\Hd (∀ j,j<k->∀x∈n.ports.getD j [],1<=x/\x<=511)/\Hd (Bl W0 wr)) (fun i _=>s.sn-(intOf i).toNat)
 case atStart=>exact ⟨0,zl,rfl,fun j hj=>absurd hj (Nat.not_lt_zero _),Below.refl _ _⟩
 case round=>
  obtain ⟨k,hk,rfl,HI,HB⟩:=hrel;have HB2:=hD (HB0.o.trans (HB.o.mono HB0.o.size));obtain ⟨c0,c1,c2⟩:=(HX0.o.below HB.o).cells;by_cases hlt:k<s.sn
  ·have hki:(k:Int)<(s.sn:Int):=om;have hki2:(k:Int)<(s.pn:Int):=om;obtain ⟨y,hy⟩:∃y,n.sws[k]?=some y:=⟨_,gE_ (by have:=HS.o;omega)⟩;obtain ⟨b,o,hps,hb,y0⟩:=HH.o.sws.get hy;have y0:w.cell? ⟨b,o+k*1,none⟩=some (.string y):=y0;rw[Nat.mul_one] at y0;obtain ⟨b2,o2,p1,n1,x1,hps2,hb3,z0,hz⟩:=HH.o.ports.elT (j:=k) (by have:=HP.o;omega);have HC:Hd (∀ W,Bl W0 W->NetX W w.heap.size (.slice s.sp s.sn s.sc) (.slice s.pp s.pn s.pc) (.slice s.lp s.ln s.lc)/\Cl W b (o+k) (.string y)/\Cl W b2 (o2+k) (.slice p1 n1 x1)/\IRow W (.slice p1 n1 x1) (n.ports.getD k [])):=fun W hW=>by
    have hw:=HB0.o.trans (hW.mono HB0.o.size);exact ⟨HX0.o.below hW,(hw.cell (p:=⟨b,o+k,none⟩) hb).trans y0,(hw.cell (p:=⟨b2,o2+k,none⟩) hb3).trans z0,hz.below keepI hw⟩
   clear hy y0 z0 hz hb hb3 c0 c1 c2;generalize s.sp=spp at*;subst hps;generalize s.pp=ppp at*;subst hps2;obtain ⟨⟨c0,c1,c2⟩,y1,z1⟩:(wr.cell? ⟨w.heap.size,0,none⟩=some (.slice (some ⟨b,o,none⟩) s.sn s.sc)/\wr.cell? ⟨w.heap.size,1,none⟩=some (.slice (some ⟨b2,o2,none⟩) s.pn s.pc)/\wr.cell? ⟨w.heap.size,2,none⟩=some (.slice s.lp s.ln s.lc))/\wr.cell? ⟨b,o+k,none⟩=some (.string y)/\wr.cell? ⟨b2,o2+k,none⟩=some (.slice p1 n1 x1):=⟨(HC.o wr HB.o).1.cells,(HC.o wr HB.o).2.1,(HC.o wr HB.o).2.2.1⟩;go_upto_region 6 with fail;have HSA:Hd (NS w.heap.size s.sn s.pn s.ln s.sc s.pc s.lc s.lp n1 x1 p1 b o b2 o2 k y wr.drew):=⟨c0,c1,c2,y1,z1⟩;have HSB:Hd (∀ W,Bl W0 W->NS w.heap.size s.sn s.pn s.ln s.sc s.pc s.lc s.lp n1 x1 p1 b o b2 o2 k y W):=fun W hW=>⟨(HC.o W hW).1.cells.1,(HC.o W hW).1.cells.2.1,(HC.o W hW).1.cells.2.2,(HC.o W hW).2.1,(HC.o W hW).2.2.1⟩
   obtain ⟨nM,hnm⟩:=isname03_is y;have HNM:=hD hnm;obtain ⟨kf,hkf⟩:=nm (findN y n.sws 0);have HFK:=hD (HFI.o y);rw[<- hkf] at HFK;clear hnm hkf HFI c0 c1 c2 y1 z1;have HSC:=hD fun W (h:Bl wr W)=>(show _/\_/\_/\_/\_ from HSB.o W (HB.o.trans (h.mono HB.o.size)));cases nM
   ·refine roB wr ?_;refine sq (fun aa ww ll hh=>by have:=hh.oL 1;exact ov gX) ?_;refine sq (fun aa ww ll hh=>by have:=hh.gt 0 0;exact ov (fC (HSC.o ww hh.inv))) ?_;refine sq (fun aa ww ll hh=>by exact ov (xmv (hh.oL 3))) ?_;refine sq (fun aa ww ll hh=>by have:=hh.gt 1 1;have:=hh.gt 2 0;exact ov gX) ?_;refine sq (fun aa ww ll hh=>by have:=hh.gt 3 0;exact ov (fC (HSC.o ww hh.inv))) ?_;refine ⟨.eq (.bool false),trivial,rfl,fun aa ww ll hh=>?_,?_⟩
    ·exact gR2
    refine sq (fun aa ww ll hh=>by have:=hh.gt 5 0;exact ov gX) ?_;refine stm 6 0 ?_;refine stk 0 ?_;refine stk 1 ?_;refine stk 2 ?_;refine stk 3 ?_;refine stk 4 ?_;refine stk 5 ?_;refine stk 6 ?_;refine stk 7 ?_;refine stk 8 ?_;exact gD1
   ·by_cases hkf:kf=(k:Int);rotate_left
    ·refine roB wr ?_;refine sq (fun aa ww ll hh=>by have:=hh.oL 1;exact ov gX) ?_;refine sq (fun aa ww ll hh=>by have:=hh.gt 0 0;exact ov (fC (HSC.o ww hh.inv))) ?_;refine sq (fun aa ww ll hh=>by exact ov (xmv (hh.oL 3))) ?_;refine sq (fun aa ww ll hh=>by have:=hh.gt 1 1;have:=hh.gt 2 0;exact ov gX) ?_;refine sq (fun aa ww ll hh=>by have:=hh.gt 3 0;exact ov (fC (HSC.o ww hh.inv))) ?_;refine ⟨.eq (.bool true),trivial,rfl,fun aa ww ll hh=>?_,?_⟩
     ·exact gR2
     refine sq (fun aa ww ll hh=>by have:=hh.gt 5 0;exact ov gX) ?_;refine stm 6 0 ?_;refine sq (fun aa ww ll hh=>by have:=hh.oL 1;exact hh.og 0 (fC (HSC.o ww hh.inv))) ?_;refine sq (fun aa ww ll hh=>by have:=hh.oL 1;exact hh.og 1 gX) ?_;refine sq (fun aa ww ll hh=>by have:=hh.gt 9 0;exact hh.og 2 (fC (HSC.o ww hh.inv))) ?_;refine sq (fun aa ww ll hh=>by exact hh.og 3 (xmv (hh.oL 3))) ?_;refine sq (fun aa ww ll hh=>by have:=hh.gt 10 1;have:=hh.gt 11 0;exact hh.og 4 gX) ?_;refine sq (fun aa ww ll hh=>by have:=hh.gt 12 0;exact hh.og 5 (fC (HSC.o ww hh.inv))) ?_;refine ⟨.eq (.int .i64 kf),trivial,rfl,fun aa ww ll hh=>?_,?_⟩
     ·exact gN2
     refine sq (fun aa ww ll hh=>by exact hh.og 7 (xmv (hh.oL 3))) ?_;refine ⟨.eq (.bool true),trivial,rfl,fun aa ww ll hh=>?_,?_⟩
     ·have e44:=hh.gt 14 1;have e45:=hh.gt 15 0;refine hh.og 8 ?_;clear hh;generalize aa.eval=ev at e44 e45⊢;go_simp;try simp[hkf]
     exact gD1
    ·subst hkf;refine roB wr ?_;refine sq (fun aa ww ll hh=>by have:=hh.oL 1;exact ov gX) ?_;refine sq (fun aa ww ll hh=>by have:=hh.gt 0 0;exact ov (fC (HSC.o ww hh.inv))) ?_;refine sq (fun aa ww ll hh=>by exact ov (xmv (hh.oL 3))) ?_;refine sq (fun aa ww ll hh=>by have:=hh.gt 1 1;have:=hh.gt 2 0;exact ov gX) ?_;refine sq (fun aa ww ll hh=>by have:=hh.gt 3 0;exact ov (fC (HSC.o ww hh.inv))) ?_;refine ⟨.eq (.bool true),trivial,rfl,fun aa ww ll hh=>?_,?_⟩
     ·exact gR2
     refine sq (fun aa ww ll hh=>by have:=hh.gt 5 0;exact ov gX) ?_;refine stm 6 0 ?_;refine sq (fun aa ww ll hh=>by have:=hh.oL 1;exact hh.og 0 (fC (HSC.o ww hh.inv))) ?_;refine sq (fun aa ww ll hh=>by have:=hh.oL 1;exact hh.og 1 gX) ?_;refine sq (fun aa ww ll hh=>by have:=hh.gt 9 0;exact hh.og 2 (fC (HSC.o ww hh.inv))) ?_;refine sq (fun aa ww ll hh=>by exact hh.og 3 (xmv (hh.oL 3))) ?_;refine sq (fun aa ww ll hh=>by have:=hh.gt 10 1;have:=hh.gt 11 0;exact hh.og 4 gX) ?_;refine sq (fun aa ww ll hh=>by have:=hh.gt 12 0;exact hh.og 5 (fC (HSC.o ww hh.inv))) ?_;refine ⟨.eq (.int .i64 k),trivial,rfl,fun aa ww ll hh=>?_,?_⟩
     ·exact gN2
     refine sq (fun aa ww ll hh=>by exact hh.og 7 (xmv (hh.oL 3))) ?_;refine sq (fun aa ww ll hh=>by have:=hh.gt 14 1;have:=hh.gt 15 0;exact hh.og 8 gX) ?_;refine sq (fun aa ww ll hh=>by have:=hh.gt 7 9;have:=hh.gt 16 0;have ec:=evc aa;exact ov gX) ?_;refine stm 17 0 ?_;refine sq (fun aa ww ll hh=>by have:=hh.oL 1;exact hh.og 0 gX) ?_;refine sq (fun aa ww ll hh=>by have:=hh.gt 19 0;exact hh.og 1 (fC (HSC.o ww hh.inv))) ?_;refine sq (fun aa ww ll hh=>by exact hh.og 2 (xmv (hh.oL 3))) ?_;refine sq (fun aa ww ll hh=>by have:=hh.gt 20 1;have:=hh.gt 21 0;exact hh.og 3 gX) ?_;refine sq (fun aa ww ll hh=>by have:=hh.gt 22 0;exact hh.og 4 (fC (HSC.o ww hh.inv))) ?_;refine sq (fun aa ww ll hh=>by have:=hh.gt 23 0;exact hh.og 5 (fC (HSC.o ww hh.inv))) ?_;refine sq (fun aa ww ll hh=>by have:=hh.gt 24 0;have ec:=evc aa;exact hh.og 6 gX) ?_;refine sq (fun aa ww ll hh=>by have:=hh.gt 18 7;have:=hh.gt 25 0;have ec:=evc aa;exact ov gX) ?_;intro ll w3 hS3 hok;clear hok;simp only[ly];have HB3:=hD (HB.o.trans (hS3.mono HB.o.size));clear hS3;by_cases h81:(8:Int)<(n1:Int)
     ·exact gU4
     have HIR:Hd (∀ W,Bl W0 W->IRow W (.slice p1 n1 x1) (n.ports.getD k [])):=fun W hW=>(HC.o W hW).2.2.2
     have HNL:Hd (n1=(n.ports.getD k []).length):=(HIR.o w3 HB3.o).ln.1;clear HNM HFK HSA;go_wp2_with fail;go_loopw [4,5] (fun la qq wq=>∃(a:Int) (j:Nat),la= .int .i64 a/\qq= .int .i64 (j:Int)/\j<=n1/\0<=a/\Hd (∀ i,i<j->1<=(n.ports.getD k []).getD i 0/\(n.ports.getD k []).getD i 0<=511)/\Hd (Bl W0 wq)) (fun la qq _=>n1-(intOf qq).toNat)
     case atStart=>exact ⟨0,0,rfl,rfl,zl,Int.le_refl _,fun i hi=>absurd hi (Nat.not_lt_zero _),HB3.o⟩
     case round=>
      obtain ⟨a,j,rfl,rfl,hj,ha,HI5,HB5⟩:=hrel;obtain ⟨c0,c1,c2,y1,z1⟩:=HSB.o wr HB5.o;clear y1;by_cases hjl:j<n1
      ·have hji:(j:Int)<(n1:Int):=om;obtain ⟨bp,op,rfl,hbp,u0⟩:=IRow.el (HIR.o wr HB5.o) (j:=j) (by have:=HNL.o;omega);have HZ:Hd ((n.ports.getD k []).getD j 0=(n.ports.getD k []).getD j 0):=rfl;obtain ⟨z,hz⟩:=nm ((n.ports.getD k []).getD j 0);rw[<- hz] at u0;have HZ2:=hD hz;clear hz HZ;by_cases hza:z<=a
       ·exact gV4
       by_cases hz5:(511:Int)<z
       ·exact gV4
       go_wp2_with fail;go_roundw
       case rel=>exact ⟨z,j+1,rfl,by go_num,om,om,fun i hi=>by
        by_cases e:i=j
        ·subst e;rw[<- HZ2.o];omega
        ·exact HI5.o i om,HB5.o⟩
       case measure=>exact mz
      obtain rfl:j=n1:=om;have hji:¬(j:Int)<(j:Int):=om;go_wp2_with fail;go_roundw
      case rel=>exact ⟨k+1,om,by go_num,fun i hi x hx=>by
       by_cases e:i=k
       ·subst e;obtain ⟨m,hm,rfl⟩:=List.getElem_of_mem hx;have:=HI5.o m (by have:=HNL.o;omega);rw[List.getD_eq_getElem?_getD,gE_ hm,Option.getD_some] at this;exact this
       ·exact HI.o i om x hx,HB5.o⟩
      case measure=>exact mz
  obtain rfl:k=s.sn:=om;have hki:¬(s.sn:Int)<(s.sn:Int):=om;go_wp2_with fail;clear c0 c1 c2 HB2 hki hlt hk;have HLB:Hd (Bl W0 wr):=HB.o;clear HB;go_loopw [6,7] (fun en i wq=>∃k:Nat,k<=s.ln/\i= .int .i64 (k:Int)/\Hd (wq.ownsRow W0.heap.size 54 2 en (lkE (n.links.take k)).length ((lkE (n.links.take k)).flatMap edC))/\Hd (Bl W0 wq)) (fun _ i _=>s.ln-(intOf i).toNat)
  case atStart=>exact ⟨0,zl,rfl,World.ownsRow_nil _ _ _ _,HLB.o⟩
  case round=>
   obtain ⟨k,hk,rfl,HE,HB⟩:=hrel;have HB2:=hD (HB0.o.trans (HB.o.mono HB0.o.size));obtain ⟨c0,c1,c2⟩:=(HX0.o.below HB.o).cells;by_cases hlt:k<s.ln
   ·have hki:(k:Int)<(s.ln:Int):=om;obtain ⟨q,hq⟩:∃q,n.links[k]?=some q:=⟨_,gE_ (by have:=HL.o;omega)⟩;obtain ⟨b,o,hps,hb,y0⟩:=HH.o.links.el hq;have HC:Hd (∀ W,Bl W0 W->NetX W w.heap.size (.slice s.sp s.sn s.sc) (.slice s.pp s.pn s.pc) (.slice s.lp s.ln s.lc)/\LAt W b (o+k*4) q):=fun W hW=>⟨HX0.o.below hW,keepL w W b (o+k*4) q (HB0.o.trans (hW.mono HB0.o.size)) hb y0⟩
    have HLT:Hd (lkE (n.links.take (k+1))=lkE (n.links.take k)++[q.a,q.b]):=lkE_take hq;have hlk:(lkE (n.links.take k)).length<=2097152:=by rw[lkE_len,List.length_take];omega
    clear hq y0 c0 c1;obtain ⟨⟨sa,pa⟩,sb,pb⟩:=q;generalize s.lp=lpp at*;subst hps;go_upto_region 19 with fail;clear c2;have HQ:Hd (LQ sa pa sb pb=[⟨sa,pa⟩,⟨sb,pb⟩]):=rfl;refine OutE.region_outE (YR W0.heap.size (lkE (n.links.take k)) (LQ sa pa sb pb)) (YR.refl _ _ _) kq (fun W=>Below W0.heap.size wr W/\W.ownsRow W0.heap.size 54 2 u6 (lkE (n.links.take k)).length ((lkE (n.links.take k)).flatMap edC)) (fun _ _ h hr=>⟨h.1.trans hr.low,hr.s _ h.2⟩) kq (⟨Below.drew br,HE.o⟩) ?_;refine OutE.stq ?_ (fun aa ww ll hh=>?_) ?_;rotate_left
    ·have e6:=hh.oL 6;refine OutE.out_val (YR.refl _ _ _) (wanted_none rfl) ?_;rw[ex_moveO (by first|exact .inl rfl|exact .inr rfl) e6]
    refine OutE.sq (fun aa ww ll hh=>by have:=hh.oL 1;exact OutE.out_val (YR.refl _ _ _) (wanted_none rfl) gX) ?_;refine OutE.sq (fun aa ww ll hh=>by have:=hh.gt 1 0;have hcc:=HC.o ww (HB.o.trans hh.inv.1);obtain ⟨c0,c1,c2⟩:=hcc.1.cells;obtain ⟨y0,y1,y2,y3⟩:=hcc.2;clear hcc;exact OutE.out_val (YR.refl _ _ _) (wanted_none rfl) gX) ?_;refine OutE.stq ?_ (fun aa ww ll hh=>?_) ?_;rotate_left
    ·exact gP3
    refine OutE.sq (fun aa ww ll hh=>by have:=hh.gt 2 1;have:=hh.gt 3 0;exact OutE.out_val (YR.refl _ _ _) (wanted_none rfl) gX) ?_;refine OutE.sq (fun aa ww ll hh=>by have:=hh.gt 4 0;exact OutE.out_val (YR.refl _ _ _) (wanted_none rfl) gX) ?_;refine OutE.sq (fun aa ww ll hh=>by have:=hh.gt 5 0;have hcc:=HC.o ww (HB.o.trans hh.inv.1);obtain ⟨c0,c1,c2⟩:=hcc.1.cells;obtain ⟨y0,y1,y2,y3⟩:=hcc.2;clear hcc;exact OutE.out_val (YR.refl _ _ _) (wanted_none rfl) gX) ?_;refine OutE.sq (fun aa ww ll hh=>by have:=hh.oL 1;exact OutE.out_val (YR.refl _ _ _) (wanted_none rfl) gX) ?_;refine OutE.sq (fun aa ww ll hh=>by have:=hh.gt 7 0;have hcc:=HC.o ww (HB.o.trans hh.inv.1);obtain ⟨c0,c1,c2⟩:=hcc.1.cells;obtain ⟨y0,y1,y2,y3⟩:=hcc.2;clear hcc;exact OutE.out_val (YR.refl _ _ _) (wanted_none rfl) gX) ?_;refine OutE.stq ?_ (fun aa ww ll hh=>?_) ?_;rotate_left
    ·exact gP3
    refine OutE.sq (fun aa ww ll hh=>by have:=hh.gt 8 1;have:=hh.gt 9 0;exact OutE.out_val (YR.refl _ _ _) (wanted_none rfl) gX) ?_;refine OutE.sq (fun aa ww ll hh=>by have:=hh.gt 10 0;exact OutE.out_val (YR.refl _ _ _) (wanted_none rfl) gX) ?_;refine OutE.sq (fun aa ww ll hh=>by have:=hh.gt 11 0;have hcc:=HC.o ww (HB.o.trans hh.inv.1);obtain ⟨c0,c1,c2⟩:=hcc.1.cells;obtain ⟨y0,y1,y2,y3⟩:=hcc.2;clear hcc;exact OutE.out_val (YR.refl _ _ _) (wanted_none rfl) gX) ?_;refine ⟨.rel (fun W v=>∃g:Nat,v= .slice (some ⟨g,0,none⟩) 2 2/\W0.heap.size<=g/\W.heap[g]?=some (.cells ((LQ sa pa sb pb).flatMap edC).toArray 54 (0,0))),(fun W W' v ⟨g,h1,h2,h3⟩ hr=>⟨g,h1,h2,hr.o g h2 h3⟩),rfl,fun aa ww ll hh=>?_,?_⟩
    ·have e109:=hh.gt 6 6;have e115:=hh.gt 12 0;have hsz:W0.heap.size<=ww.heap.size:=Nat.le_trans HB.o.size hh.inv.1.size;clear hh;refine OutE.out_new (wanted_none rfl) (w':=ww.alloc (.cells #[.int .i64 sa, .int .i64 pa, .int .i64 sb, .int .i64 pb] 54)) (v:= .slice (some ⟨ww.heap.size,0,none⟩) 2 2) ?_ (YR.of_below hsz (br.alloc lr _)) ⟨_,rfl,hsz,heap_new _ _⟩;generalize aa.eval=ev at e109 e115⊢;go_simp;try rfl
    refine ⟨.rel (fun W v=>W.ownsRow W0.heap.size 54 2 v ((lkE (n.links.take k)).length+(LQ sa pa sb pb).length) ((lkE (n.links.take k)).flatMap edC++(LQ sa pa sb pb).flatMap edC)),(fun W W' v h hr=>hr.t v h),rfl,fun aa ww ll hh=>?_,?_⟩
    ·have e103:=hh.gt 0 13;obtain ⟨x116,e116,-,p116⟩:=hh.got 13 0 kq rfl rfl rfl;obtain ⟨gq,rfl,hgq,hq0⟩:=p116;have hsz:W0.heap.size<=ww.heap.size:=Nat.le_trans HB.o.size hh.inv.1.size;exact ends_app (by show 0<2;omega) (wanted_none rfl) (.tmp 103) (.tmp 116) rfl e103 hh.inv.2 rfl e116 hq0 (by show _+2<=4194304;omega) hsz
    refine ⟨.rel (fun W v=>W.ownsRow W0.heap.size 54 2 v ((lkE (n.links.take k)).length+(LQ sa pa sb pb).length) ((lkE (n.links.take k)).flatMap edC++(LQ sa pa sb pb).flatMap edC)),(fun W W' v h hr=>hr.t v h),rfl,fun aa ww ll hh=>?_,?_⟩
    ·obtain ⟨x117,e117,-,p117⟩:=hh.got 14 0 kq rfl rfl rfl;refine OutE.out_new (v:=x117) (wanted_none rfl) ?_ (YR.refl _ _ _ _) p117;rw[ex_moveO (by first|exact .inl rfl|exact .inr rfl) e117]
    intro ll w3 hS3 hok;have p15:=hok 15 _ rfl;clear hok;simp only[List.reverse_cons,List.reverse_nil,List.nil_append,List.cons_append,OutE.layO,OutE.Out.val,Act.put,List.setIfInBounds_toArray,List.set_cons_zero,List.set_cons_succ];have p15:w3.ownsRow W0.heap.size 54 2 (ll 15) ((lkE (n.links.take k)).length+(LQ sa pa sb pb).length) ((lkE (n.links.take k)).flatMap edC++(LQ sa pa sb pb).flatMap edC):=p15;have HE3:Hd (w3.ownsRow W0.heap.size 54 2 (ll 15) (lkE (n.links.take (k+1))).length ((lkE (n.links.take (k+1))).flatMap edC)):=by
     have h:=p15;show World.ownsRow _ _ _ _ _ _ _;rw[HLT.o,List.length_append,List.flatMap_append];exact h
    clear p15;have HB3:=hD (HB.o.trans hS3.1);clear hS3;go_wp2_with fail;go_roundw
    case rel=>exact ⟨k+1,om,by go_num,HE3.o,HB3.o⟩
    case measure=>exact mz
   obtain rfl:k=s.ln:=om;have hki:¬(s.ln:Int)<(s.ln:Int):=om;go_wp2_with fail;clear c0 c1 c2 HB2 hki hlt hk HLB HFI;obtain ⟨EL,hEL⟩:=nm (lkE n.links);have hrow:EdRow wr u6 EL:=by
    have h:=ends_row2 HE.o;rw[List.take_of_length_le (by have:=HL.o;omega), <-hEL] at h;exact h
   have hmxE:EL.length<=2097152:=by rw[hEL,lkE_len];have:=HL.o;omega
   obtain ⟨ep,ec,rfl,-⟩:=hrow.shape;have HRW:=hD hrow;have HEL:=hD hEL;clear hrow hEL HE;generalize wr=wE at*;go_loopw [8] (fun i wq=>∃k:Nat,k<=EL.length/\i= .int .i64 (k:Int)/\Hd (∀ j x,j<k->EL[j]?=some x->ntThere n x=true)/\Hd (Bl wE wq)) (fun i _=>EL.length-(intOf i).toNat)
   case atStart=>exact ⟨0,zl,rfl,fun j x hj=>absurd hj (Nat.not_lt_zero _),Below.refl _ _⟩
   case round=>
    obtain ⟨k,hk,rfl,HT,HB5⟩:=hrel;by_cases hlt:k<EL.length
    ·have hki:(k:Int)<(EL.length:Int):=om;obtain ⟨x,hx⟩:∃x,EL[k]?=some x:=⟨_,gE_ hlt⟩;obtain ⟨T,hT⟩:=nm (ntThere n x);have HTX:=hD (HTH.o x);rw[<- hT] at HTX;have HX:=hD hx;have HTT:=hD hT;have hrw:=HRW.o;obtain ⟨b,o,hps,hb,y0,y1⟩:=hrw.get hx;clear hx hT;generalize ep=epp at*;subst hps;obtain ⟨sx,px⟩:=x;unfold EdV at HTX;dsimp only at HTX y0 y1;have HC:Hd (∀ W,Bl wr W->NetX W w.heap.size (.slice s.sp s.sn s.sc) (.slice s.pp s.pn s.pc) (.slice s.lp s.ln s.lc)/\Cl W b (o+k*2) (.int .i64 sx)/\Cl W b (o+k*2+1) (.int .i64 px)/\Bl wE W/\Bl w W):=fun W hW=>by
      have h1:=HB5.o.trans (hW.mono HB5.o.size);exact ⟨HX0.o.below (HB.o.trans (h1.mono HB.o.size)),(h1.cell (p:=⟨b,o+k*2,none⟩) hb).trans y0,(h1.cell (p:=⟨b,o+k*2+1,none⟩) hb).trans y1,h1,HB0.o.trans ((HB.o.trans (h1.mono HB.o.size)).mono HB0.o.size)⟩
     clear y0 y1;go_upto_region 23 with fail;refine roB wr ?_;refine sq (fun aa ww ll hh=>by have:=hh.oL 1;obtain ⟨hx3,z0,z1,-,-⟩:=HC.o ww hh.inv;obtain ⟨c0,c1,c2⟩:=hx3.cells;exact ov gX) ?_;refine sq (fun aa ww ll hh=>by exact ov (xmv (hh.oL 6))) ?_;refine sq (fun aa ww ll hh=>by exact ov (xmv (hh.oL 8))) ?_;refine sq (fun aa ww ll hh=>by have:=hh.gt 1 1;have:=hh.gt 2 0;exact ov gX) ?_;refine sq (fun aa ww ll hh=>by have:=hh.gt 3 0;obtain ⟨hx3,z0,z1,-,-⟩:=HC.o ww hh.inv;obtain ⟨c0,c1,c2⟩:=hx3.cells;exact ov gX) ?_;refine ⟨.eq (.bool T),trivial,rfl,fun aa ww ll hh=>?_,?_⟩
     ·have e124:=hh.gt 0 4;have e128:=hh.gt 4 0;have ef:=evf aa;refine out_call_eq (wanted_none rfl) ?_ (HTX.o ww (HC.o ww hh.inv).2.2.2.2);exact gX
     refine sq (fun aa ww ll hh=>by have:=hh.gt 5 0;exact ov gX) ?_;intro ll w3 hS3 hok;clear hok;simp only[ly];obtain ⟨-,z0,z1,HB6,HB7⟩:=HC.o w3 hS3;have HB6:=hD HB6;have HB7:=hD HB7;clear hS3 z0 z1;cases T
     ·go_wp2_with fail;go_ret;exact ⟨⟨_,rfl,fun h=>by cases h⟩,HB7.o⟩
     ·go_wp2_with fail;have HB8:Hd (Bl wE w3):=HB6.o;clear HTX HB6 HB7;go_loopw [9] (fun i wq=>∃m:Nat,m<=k/\i= .int .i64 (m:Int)/\Hd (Bl wE wq)) (fun i _=>k-(intOf i).toNat)
      case atStart=>exact ⟨0,zl,rfl,HB8.o⟩
      case round=>
       obtain ⟨m,hm,rfl,HB9⟩:=hrel;by_cases hml:m<k
       ·have hmi:(m:Int)<(k:Int):=om;have hmi2:(m:Int)<(EL.length:Int):=om;obtain ⟨y,hy⟩:∃y,EL[m]?=some y:=⟨_,gE_ om⟩;obtain ⟨b2,o2,hps2,-,y0,y1⟩:=(HRW.o.below keepEd HB9.o).get hy;obtain ⟨b3,o3,hps3,-,x0,x1⟩:=(HRW.o.below keepEd HB9.o).get HX.o;obtain ⟨sy,py⟩:=y;dsimp only at y0 y1 x0 x1;simp only[Option.some.injEq,Addr.mk.injEq,and_true] at hps2 hps3;obtain ⟨rfl,rfl⟩:=hps2;obtain ⟨rfl,rfl⟩:=hps3;clear hy hrw;have HCC:Hd (∀ W,Bl wr W->Cl W b (o+m*2) (.int .i64 sy)/\Cl W b (o+m*2+1) (.int .i64 py)/\Cl W b (o+k*2) (.int .i64 sx)/\Cl W b (o+k*2+1) (.int .i64 px)):=fun W hW=>⟨(hW.cell (cell_there y0).1).trans y0,(hW.cell (cell_there y1).1).trans y1,(hW.cell (cell_there x0).1).trans x0,(hW.cell (cell_there x1).1).trans x1⟩
        clear y0 y1 x0 x1;go_upto_region 28 with fail;refine roB wr ?_;refine sq (fun aa ww ll hh=>by exact ov (xmv (hh.oL 6))) ?_;refine sq (fun aa ww ll hh=>by exact ov (xmv (hh.oL 9))) ?_;refine sq (fun aa ww ll hh=>by have:=hh.gt 0 1;have:=hh.gt 1 0;exact ov gX) ?_;refine sq (fun aa ww ll hh=>by have:=hh.gt 2 0;exact ov (fC (HCC.o ww hh.inv))) ?_;refine sq (fun aa ww ll hh=>by exact ov (xmv (hh.oL 6))) ?_;refine sq (fun aa ww ll hh=>by exact ov (xmv (hh.oL 8))) ?_;refine sq (fun aa ww ll hh=>by have:=hh.gt 4 1;have:=hh.gt 5 0;exact ov gX) ?_;refine sq (fun aa ww ll hh=>by have:=hh.gt 6 0;exact ov (fC (HCC.o ww hh.inv))) ?_;refine ⟨.eq (.bool (decide (sy=sx/\py=px))),trivial,rfl,fun aa ww ll hh=>?_,?_⟩
        ·have e139:=hh.gt 3 4;have e143:=hh.gt 7 0;refine ov ?_;clear hh;generalize aa.eval=ev at e139 e143⊢;go_simp;by_cases h1:sy=sx<;>by_cases h2:py=px<;>simp[go_sem,h1,h2]
        intro ll w4 hS4 hok;clear hok;simp only[ly];have HB4:=hD (HB9.o.trans (hS4.mono HB9.o.size));clear hS4;obtain ⟨D,hD⟩:=nm (decide (sy=sx/\py=px));rw[<- hD];clear hD;cases D
        ·go_wp2_with fail;go_roundw
         case rel=>exact ⟨m+1,om,by go_num,HB4.o⟩
         case measure=>exact mz
        ·go_wp2_with fail;go_ret;exact ⟨⟨_,rfl,fun h=>by cases h⟩,HB0.o.trans ((HB.o.trans (HB4.o.mono HB.o.size)).mono HB0.o.size)⟩
       obtain rfl:m=k:=om;have hmi:¬(m:Int)<(m:Int):=om;go_wp2_with fail;go_roundw
       case rel=>exact ⟨m+1,om,by go_num,fun j x hj hx=>by
        by_cases e:j=m
        ·subst e;have:=HX.o;rw[hx] at this;cases this;exact HTT.o.symm
        ·exact HT.o j x om hx,HB9.o⟩
       case measure=>exact mz
    obtain rfl:k=EL.length:=om;have hki:¬(EL.length:Int)<(EL.length:Int):=om;go_wp2_with fail;go_ret;refine ⟨⟨_,rfl,fun _=>⟨by have:=HS.o;omega,by have:=HS.o;have:=HP.o;omega,fun j hj=>HI.o j (by have:=HP.o;omega),fun q hq=>?_⟩⟩,HB0.o.trans ((HB.o.trans (HB5.o.mono HB.o.size)).mono HB0.o.size)⟩;have hm:=lkE_mem hq;rw[<- HEL.o] at hm;obtain ⟨⟨i,hi,e1⟩,j,hj,e2⟩:=And.intro (List.getElem_of_mem hm.1) (List.getElem_of_mem hm.2);exact ⟨HT.o i _ hi ((gE_ hi).trans (congrArg some e1)),HT.o j _ hj ((gE_ hj).trans (congrArg some e2))⟩
end Go.Proofs.YtikilcbpogfgkaaGreat
