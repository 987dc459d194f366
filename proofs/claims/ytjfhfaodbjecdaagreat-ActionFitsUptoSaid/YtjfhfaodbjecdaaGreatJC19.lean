/-
  Lemmas, joined: TabP, StabM, StabR, StabS, StabT, StabU.
-/
import Derived.Test.YtjfhfaodbjecdaaGreatJC18
import Derived.Deep.RegionHeld3
import Derived.BigRegion
import Derived.BigQuiet
import Derived.IntWalk
import Derived.Deep.AppendLies
import Derived.Outline
import Derived.Deep.DeepCutAuto
set_option maxHeartbeats 3200000
set_option maxRecDepth 100000
namespace Go.Proofs.YtjfhfaodbjecdaaGreat
open Stab
def eAt (l:List Ent) (x:Int):Ent:=l.getD x.toNat ⟨0,[],0,0,0,[]⟩
theorem eAt_nat (l:List Ent) (k:Nat) (h:k<l.length):l[k]?=some (eAt l k):=by
 unfold eAt;simp[List.getElem?_eq_getElem h,List.getD_eq_getElem?_getD]
def lts (l:List Ent) (x y:Int):Bool:=ahd (eAt l x).prio (eAt l x).len (eAt l y).prio (eAt l y).len
def tot (l:List Ent) (x y:Int):Bool:=lts l x y||(decide ((eAt l x).prio=(eAt l y).prio/\(eAt l x).len=(eAt l y).len)&&decide (x<y))
theorem tot_iff {l:List Ent} {x y:Int}:tot l x y=true↔((eAt l y).prio<(eAt l x).prio\/((eAt l x).prio=(eAt l y).prio/\((eAt l y).len<(eAt l x).len\/((eAt l x).len=(eAt l y).len/\x<y)))):=by
 unfold tot lts ahd;simp only[Bool.or_eq_true,Bool.and_eq_true,decide_eq_true_eq];constructor
 ·rintro ((h|⟨h1,h2⟩)|⟨⟨h1,h2⟩,h3⟩)<;>omega
 ·intro h;by_cases h1:(eAt l y).prio<(eAt l x).prio
  ·exact .inl (.inl h1)
  ·by_cases h2:(eAt l y).len<(eAt l x).len
   ·exact .inl (.inr ⟨by omega,h2⟩)
   ·exact .inr ⟨⟨by omega,by omega⟩,by omega⟩
theorem tot_ord (l:List Ent):Ord (tot l) where
 irr:=fun x=>by
  cases h:tot l x x
  ·rfl
  ·rw[tot_iff] at h;omega
 tr:=fun x y z h1 h2=>by rw[tot_iff] at *;omega
 tot:=fun x y h1 h2=>by
  rw[tot_iff];have h3:¬tot l x y=true:=by rw[h2];decide
  rw[tot_iff] at h3;omega
theorem lts_iff {l:List Ent} {x y:Int}:lts l x y=true↔((eAt l y).prio<(eAt l x).prio\/((eAt l x).prio=(eAt l y).prio/\(eAt l y).len<(eAt l x).len)):=by
 unfold lts ahd;simp only[Bool.or_eq_true,Bool.and_eq_true,decide_eq_true_eq]
theorem tot_lts {l:List Ent} {x y:Int} (h:x<y):tot l y x=lts l y x:=by
 rw[Bool.eq_iff_iff,tot_iff,lts_iff];omega
def cmpE (l:List Ent) (x y:Int):Int:=if lts l x y then -1 else if lts l y x then 1 else 0
theorem cmpE_neg {l:List Ent} {x y:Int}:x<y->(cmpE l y x<0↔tot l y x=true):=by
 intro h;rw[tot_lts h];unfold cmpE;cases h1:lts l y x
 ·cases h2:lts l x y<;>simp
 ·simp
def sel (l:List Ent) (tab:Int):Nat->List Int
 |0=>[]
 |k+1=>sel l tab k++(if (eAt l k).tab=tab then [(k:Int)] else [])
theorem mem_sel {l:List Ent} {tab x:Int}:∀{k:Nat},x∈sel l tab k↔(0<=x/\x<k/\(eAt l x).tab=tab)
 |0=>by simp[sel];omega
 |k+1=>by
  unfold sel;rw[List.mem_append,mem_sel (k:=k)];by_cases h:(eAt l (k:Int)).tab=tab
  ·rw[if_pos h,List.mem_singleton];constructor
   ·rintro (⟨h1,h2,h3⟩|rfl)
    ·exact ⟨h1,by omega,h3⟩
    ·exact ⟨by omega,by omega,h⟩
   ·rintro ⟨h1,h2,h3⟩;by_cases e:x=(k:Int)
    ·exact .inr e
    ·exact .inl ⟨h1,by omega,h3⟩
  ·rw[if_neg h];constructor
   ·rintro (⟨h1,h2,h3⟩|h4)
    ·exact ⟨h1,by omega,h3⟩
    ·cases h4
   ·rintro ⟨h1,h2,h3⟩;by_cases e:x=(k:Int)
    ·exact absurd h3 (by rw[e];exact h)
    ·exact .inl ⟨h1,by omega,h3⟩
theorem sel_len (l:List Ent) (tab:Int):∀k,(sel l tab k).length<=k
 |0=>by simp[sel]
 |k+1=>by
  unfold sel;have:=sel_len l tab k;rw[List.length_append];split<;>simp<;>omega
theorem sel_lt (l:List Ent) (tab:Int) {k p:Nat} (h:p<(sel l tab k).length):0<=(sel l tab k).getD p 0/\(sel l tab k).getD p 0<k/\(eAt l ((sel l tab k).getD p 0)).tab=tab:=by
 rw[List.getD_eq_getElem?_getD,List.getElem?_eq_getElem h,Option.getD_some];exact mem_sel.1 (List.getElem_mem h)
theorem getD_app1 {xs ys:List Int} {p:Nat} (h:p<xs.length):(xs++ys).getD p 0=xs.getD p 0:=by
 rw[List.getD_eq_getElem?_getD,List.getD_eq_getElem?_getD,List.getElem?_append_left h]
theorem getD_app2 {xs:List Int} {y:Int}:(xs++[y]).getD xs.length 0=y:=by
 rw[List.getD_eq_getElem?_getD,List.getElem?_append_right (Nat.le_refl _)];simp
theorem sel_asc (l:List Ent) (tab:Int):∀k p q,p<q->q<(sel l tab k).length->(sel l tab k).getD p 0<(sel l tab k).getD q 0
 |0=>fun p q _ h=>by simp[sel] at h
 |k+1=>fun p q h1 h2=>by
  unfold sel at h2⊢;by_cases e:(eAt l (k:Int)).tab=tab
  ·rw[if_pos e] at h2⊢;rw[List.length_append,List.length_singleton] at h2;by_cases hq:q<(sel l tab k).length
   ·rw[getD_app1 hq,getD_app1 (by omega)];exact sel_asc l tab k p q h1 hq
   ·obtain rfl:q=(sel l tab k).length:=by omega
    rw[getD_app2,getD_app1 h1];exact (sel_lt l tab h1).2.1
  ·rw[if_neg e] at h2⊢;rw[List.append_nil] at h2⊢;exact sel_asc l tab k p q h1 h2
def fnOf (xs:List Int):Nat->Int:=fun i=>xs.getD i 0
structure IsOrd (l:List Ent) (tab:Int) (xs:List Int):Prop where
 len:xs.length=(sel l tab l.length).length
 srt:Srt (tot l) (fnOf xs) 0 xs.length
 same:Same (fnOf (sel l tab l.length)) (fnOf xs) 0 xs.length
theorem IsOrd.mem {l:List Ent} {tab x:Int} {xs:List Int} (h:IsOrd l tab xs):x∈xs↔(0<=x/\x<l.length/\(eAt l x).tab=tab):=by
 rw[<- mem_sel];have hs:=h.same x;have key:∀ys:List Int,x∈ys↔∃i,0<=i/\i<ys.length/\fnOf ys i=x:=fun ys=>by
  rw[List.mem_iff_getElem];constructor
  ·rintro ⟨i,hi,e⟩;exact ⟨i,Nat.zero_le _,hi,by unfold fnOf;rw[List.getD_eq_getElem?_getD,List.getElem?_eq_getElem hi];exact e⟩
  ·rintro ⟨i,-,hi,e⟩;exact ⟨i,hi,by unfold fnOf at e;rw[List.getD_eq_getElem?_getD,List.getElem?_eq_getElem hi] at e;exact e⟩
 rw[key xs,key (sel l tab l.length), <-h.len];exact hs.symm
open Go.RowKit Stab
def RowF (w:World) (g n:Nat) (f:Nat->Int):Prop:=∀i,i<n->w.cell? ⟨g,i,none⟩=some (.int .i64 (f i))/\w.frozen? ⟨g,i,none⟩=false
structure SWd (V:Int->Prop) (w0:World) (g n:Nat) (f:Nat->Int) (w:World):Prop where
 row:RowF w g n f
 gr:w0.grownBy w (some g)
 hg:g<w0.heap.size
 val:∀i,i<n->V (f i)
theorem grown_below {a w w1:World} {r:Option Nat} (h:a.grownBy w r) (hb:Below w.heap.size w w1):a.grownBy w1 r:=
 ⟨hb.os.trans h.os,hb.tape.trans h.tape,hb.output.trans h.output,Nat.le_trans h.size hb.size,fun i hi hn=>(hb.block i (Nat.lt_of_lt_of_le hi h.size)).trans (h.block i hi hn)⟩
theorem SWd.glt {V:Int->Prop} {w0 w:World} {g n:Nat} {f:Nat->Int} (h:SWd V w0 g n f w):g<w.heap.size:=Nat.lt_of_lt_of_le h.hg h.gr.size
theorem SWd.below {V:Int->Prop} {w0 w w1:World} {g n:Nat} {f:Nat->Int} (h:SWd V w0 g n f w) (hb:Below w.heap.size w w1):SWd V w0 g n f w1:=
 ⟨fun i hi=>⟨(hb.cell (p:=⟨g,i,none⟩) h.glt).trans (h.row i hi).1,(hb.frozen (p:=⟨g,i,none⟩) h.glt).trans (h.row i hi).2⟩,grown_below h.gr hb,h.hg,h.val⟩
theorem SWd.drewN {V:Int->Prop} {w0 w:World} {g n:Nat} {f:Nat->Int} (h:SWd V w0 g n f w) (k:Nat):SWd V w0 g n f (w.drewN k):=
 ⟨h.row,⟨h.gr.os,h.gr.tape,h.gr.output,h.gr.size,h.gr.block⟩,h.hg,h.val⟩
theorem SWd.cell {V:Int->Prop} {w0 w:World} {g n:Nat} {f:Nat->Int} (h:SWd V w0 g n f w) (i:Nat) (hi:i<n):w.cell? ⟨g,i,none⟩=some (.int .i64 (f i)):=(h.row i hi).1
theorem SWd.free {V:Int->Prop} {w0 w:World} {g n:Nat} {f:Nat->Int} (h:SWd V w0 g n f w) (i:Nat) (hi:i<n):w.frozen? ⟨g,i,none⟩=false:=(h.row i hi).2
theorem SWd.swapped {V:Int->Prop} {w0 w:World} {g n:Nat} {f:Nat->Int} (h:SWd V w0 g n f w) (i j:Nat) (hi:i<n) (hj:j<n):
 SWd V w0 g n (swp f i j) ((w.setCell ⟨g,i,none⟩ (.int .i64 (f j))).setCell ⟨g,j,none⟩ (.int .i64 (f i))):=by
 refine ⟨fun k hk=>⟨?_,?_⟩,?_,h.hg,fun k hk=>?_⟩
 ·by_cases e2:k=j
  ·subst e2;have hs:∃u,(w.setCell ⟨g,i,none⟩ (.int .i64 (f k))).cell? ⟨g,k,none⟩=some u:=by
    by_cases e:i=k
    ·subst e;exact ⟨_,World.cell?_setCell_same _ _ _ (h.cell i hi)⟩
    ·exact ⟨_,(World.cell?_setCell_other _ _ _ _ (by intro e';simp only[Addr.mk.injEq] at e';omega)).trans (h.cell k hk)⟩
   obtain ⟨u,hu⟩:=hs;rw[World.cell?_setCell_same _ _ _ hu];unfold swp;by_cases e:k=i
   ·rw[if_pos e,e]
   ·rw[if_neg e,if_pos rfl]
  ·rw[World.cell?_setCell_other _ _ _ _ (by intro e';simp only[Addr.mk.injEq] at e';omega)];by_cases e1:k=i
   ·subst e1;rw[World.cell?_setCell_same _ _ _ (h.cell k hk)];unfold swp;rw[if_pos rfl]
   ·rw[World.cell?_setCell_other _ _ _ _ (by intro e';simp only[Addr.mk.injEq] at e';omega),h.cell k hk];unfold swp;rw[if_neg e1,if_neg e2]
 ·rw[World.frozen?_setCell,World.frozen?_setCell];exact h.free k hk
 ·refine ⟨h.gr.os,h.gr.tape,h.gr.output,by simpa [World.setCell] using h.gr.size,fun b hb hne=>?_⟩;have hgb:b≠g:=fun e=>hne (by rw[e])
  rw[Below.heap_setCell _ _ _ b (by exact hgb),Below.heap_setCell _ _ _ b (by exact hgb)];exact h.gr.block b hb hne
 ·unfold swp;split
  ·exact h.val j hj
  ·split
   ·exact h.val i hi
   ·exact h.val k hk
theorem SWd.c2 {V:Int->Prop} {w0 w:World} {g n:Nat} {f:Nat->Int} (h:SWd V w0 g n f w) (i j:Nat) (hi:i<n) (hj:j<n) (hij:i≠j) (v:Value):(w.setCell ⟨g,i,none⟩ v).cell? ⟨g,j,none⟩=some (.int .i64 (f j)):=
 (World.cell?_setCell_other _ _ _ _ (by intro e';simp only[Addr.mk.injEq] at e';omega)).trans (h.cell j hj)
structure CmpOk (V:Int->Prop) (w0:World) (g c:Nat) (cb:Array Value) (cf:Int->Int->Int):Prop where
 call:∀(av:Array Value) (W:World),(callFunc c av).run Tryz.prog W= .ok (.enter c av) W
 con:∀W,w0.grownBy W (some g)->∀x y,V x->V y->Calls Tryz.prog c (#[.int .i64 x, .int .i64 y]++cb) W fun e w'=>e= .returned (.int .i64 (cf x y))/\Below W.heap.size W w'
def SOk (V:Int->Prop) (w0:World) (g n:Nat) (R:(Nat->Int)->Prop) (e:Ending) (w':World):Prop:=e= .returned (.tuple #[])/\∃f,SWd V w0 g n f w'/\R f
theorem ins_any (V:Int->Prop) (L:Int->Int->Bool) (hO:Ord L) (w0:World) (g n cap c:Nat) (cb:Array Value) (cf:Int->Int->Int) (hC:CmpOk V w0 g c cb cf) (hlt:∀x y,x<y->(cf y x<0↔L y x=true))
 (a b:Nat) (f:Nat->Int) (w:World) (hab:a<=b) (hbn:b<=n) (hn:n<=1000000) (hasc:∀p q,a<=p->p<q->q<b->f p<f q) (S:SWd V w0 g n f w):
 Calls Tryz.prog 146 #[.slice (some ⟨g,0,none⟩) n cap, .int .i64 a, .int .i64 b, .func (.func c) #[] cb] w (SOk V w0 g n (fun f'=>MrgOk L f f' a b)):=by
 have HC:=hD hC;have HL:=hD hlt;have HA:=hD hasc;have HS:=hD S;have hcall:=hC.call;clear hC hlt hasc S;go_enter Tryz.func146,Tryz.ntmps146;go_wp2;go_loopg [8] (b-a) (fun g1 vi wr=>∃(i:Nat) (fk:Nat->Int),vi= .int .i64 i/\a<i/\(i<=b\/i=a+1)/\b+1-i<=g1+1/\Hid (SWd V w0 g n fk wr)/\Hid (Ins L f fk a i))
 case atStart=>exact ⟨a+1,f,by go_num,by omega,by omega,by omega,HS,Ins.start L f a⟩
 case round=>
  clear HS;obtain ⟨i,fk,rfl,hai,hib,hg1,HS,HI⟩:=hrel;by_cases hlt:i<b
  ·go_wp2;go_loopg [9] i (fun g2 vj wr2=>∃(j:Nat) (fj:Nat->Int),vj= .int .i64 j/\a<=j/\j<=i/\j<=g2/\Hid (SWd V w0 g n fj wr2)/\Hid (InsI L f fj a i j))
   case atStart=>exact ⟨i,fk,rfl,by omega,Nat.le_refl _,Nat.le_refl _,HS,HI.out.inner (by omega) hlt HA.out⟩
   case round=>
    clear HS HI;obtain ⟨j,fj,rfl,haj,hji,hg2,HS,HI⟩:=hrel;by_cases hja:a<j
    ·obtain ⟨jp,rfl⟩:∃jp,j=jp+1:=⟨j-1,by omega⟩;have hjaz:(a:Int)<(jp:Int)+1:=by omega
     have l1:=HS.out.cell (jp+1) (by omega);have l2:=HS.out.cell jp (by omega);have f1:=HS.out.free (jp+1) (by omega);have f2:=HS.out.free jp (by omega);have v1:=HS.out.val (jp+1) (by omega);have v2:=HS.out.val jp (by omega);have hl:=HI.out.less jp (by omega) (by omega) (by omega);have hcc:=fun W hW=>HC.out.con W hW (fj (jp+1)) (fj jp) v1 v2
     have HX:Hid (L (fj (jp+1)) (fj jp)=true↔cf (fj (jp+1)) (fj jp)<0):=(HL.out _ _ hl).symm;have HW:Hid (∀ W,Below wr.heap.size wr W->w0.grownBy W (some g)):=fun W hW=>grown_below HS.out.gr hW
     clear v1 v2 hl;have q0:(0:Int)<=(jp:Int)+1:=by omega
     have q1:(jp:Int)+1<(n:Int):=by omega
     have q2:(jp:Int)<(n:Int):=by omega
     have q3:((jp:Int)+1).toNat=jp+1:=by omega
     have q4:(0:Int)<=(jp:Int):=by omega
     have q5:IntKind.i64.wrap (jp:Int)=(jp:Int):=by rw[IntKind.wrap_i64];omega
     obtain ⟨x,hx⟩:∃x,x=fj (jp+1):=⟨_,rfl⟩;obtain ⟨y,hy⟩:∃y,y=fj jp:=⟨_,rfl⟩;rw[<- hx, <-hy] at hcc HX;rw[<- hx] at l1;rw[<- hy] at l2;have Hx:=hD hx;have Hy:=hD hy;have hcc':=hD hcc;clear hx hy hcc;go_wp2_with fail;go_region_held3 (fun Wk=>Below (wr.heap.size) (wr) Wk/\Wk.cell? ⟨g,jp+1,none⟩=some (.int .i64 x)/\Wk.cell? ⟨g,jp,none⟩=some (.int .i64 y))
      (first|exact ⟨below_drewN (Below.refl _ _) 1,l1,l2⟩|exact held_2_0 hb1 (by assumption)|go_keep)
      (((with_reducible refine (hcc'.out _ (HW.out _ (And.left (by assumption)))).mono ?_);rintro e w1 ⟨rfl,hb1⟩))
     rename_i hS1;have HS1:Hid (SWd V w0 g n fj w1):=HS.out.below hS1.1;clear hS1 l1 l2 f1 f2 HS HW hcc';by_cases hv:cf x y<0
     ·have l1:=HS1.out.cell (jp+1) (by omega);have l2:=HS1.out.cell jp (by omega);have f1:=HS1.out.free (jp+1) (by omega);have f2:=HS1.out.free jp (by omega);have l3:=HS1.out.c2 (jp+1) jp (by omega) (by omega) (by omega) (.int .i64 y);have HS2:=hD (HS1.out.swapped (jp+1) jp (by omega) (by omega));rw[<- Hx.out, <-Hy.out] at HS2;rw[<- Hx.out] at l1;rw[<- Hy.out] at l2 l3;clear HS1;go_wp2_with fail;go_big_region;have HS3:Hid (SWd V w0 g n (swp fj (jp+1) jp) (((w1.setCell ⟨g,jp+1,none⟩ (.int .i64 y)).setCell ⟨g,jp,none⟩ (.int .i64 x)).drew)):=HS2.out.drewN 1;clear l1 l2 l3 f1 f2 HS2;go_wp2;go_roundg jp
      case measure=>omega
      case rel=>exact ⟨jp,_,by first|rfl|go_num,by omega,by omega,Nat.le_refl _,HS3,HI.out.step (by omega) (by simp only[Nat.add_sub_cancel];rw[<- Hx.out, <-Hy.out];exact HX.out.2 hv) hO⟩
     ·go_wp2;go_roundg (b-(i+1))
      case measure=>omega
      case rel=>exact ⟨i+1,fj,by go_num,by omega,by omega,by omega,HS1,HI.out.done hO (.inr (by simp only[Nat.add_sub_cancel];rw[<- Hx.out, <-Hy.out];cases hq:L x y;rfl;have hz:=HX.out.1 hq;exfalso;omega))⟩
    ·have hjaz:decide ((j:Int)>(a:Int))=false:=decide_eq_false (by omega);have hjaz':¬(a:Int)<(j:Int):=by omega
     go_wp2_with fail;go_big_region;have HS1:Hid (SWd V w0 g n fj wr.drew):=HS.out.drewN 1;clear HS;go_wp2;go_roundg (b-(i+1))
     case measure=>omega
     case rel=>exact ⟨i+1,fj,by go_num,by omega,by omega,by omega,HS1,HI.out.done hO (.inl (by omega))⟩
  ·go_wp2;go_end0;exact ⟨rfl,fk,HS.out,HI.out.last (by omega) (by omega)⟩
open Go.RowKit Stab
theorem swr_any (V:Int->Prop) (w0:World) (g n cap:Nat) (cv:Value) (a b k:Nat) (f:Nat->Int) (w:World) (hab:a+k<=b) (hbn:b+k<=n) (hn:n<=1000000) (S:SWd V w0 g n f w):
 Calls Tryz.prog 149 #[.slice (some ⟨g,0,none⟩) n cap, .int .i64 a, .int .i64 b, .int .i64 k,cv] w (SOk V w0 g n (fun f'=>f'=swr f a b k)):=by
 have HS:=hD S;clear S;go_enter Tryz.func149,Tryz.ntmps149;go_wp2;go_loopw [10] (fun vi wr=>∃(i:Nat),vi= .int .i64 i/\i<=k/\Hid (SWd V w0 g n (swr f a b i) wr)) (fun vi _=>k-(intOf vi).toNat)
 case atStart=>exact ⟨0,rfl,by omega,by rw[swr_zero];exact HS.out⟩
 case round=>
  clear HS;obtain ⟨i,rfl,hik,HS⟩:=hrel;by_cases hlt:i<k
  ·have l1:=HS.out.cell (a+i) (by omega);have l2:=HS.out.cell (b+i) (by omega);have f1:=HS.out.free (a+i) (by omega);have f2:=HS.out.free (b+i) (by omega);obtain ⟨x,hx⟩:∃x,x=swr f a b i (a+i):=⟨_,rfl⟩;obtain ⟨y,hy⟩:∃y,y=swr f a b i (b+i):=⟨_,rfl⟩;have l3:=HS.out.c2 (a+i) (b+i) (by omega) (by omega) (by omega) (.int .i64 y);have HS2:=hD (HS.out.swapped (a+i) (b+i) (by omega) (by omega));rw[swr_succ f a b i (by omega)] at HS2;rw[<- hx] at l1 HS2;rw[<- hy] at l2 l3 HS2;obtain ⟨p,hp⟩:∃p,p=a+i:=⟨_,rfl⟩;obtain ⟨q,hq⟩:∃q,q=b+i:=⟨_,rfl⟩;rw[<- hp] at l1 f1 l3 HS2;rw[<- hq] at l2 f2 l3 HS2;have q1:((a:Int)+(i:Int)).toNat=p:=by omega
   have q2:((b:Int)+(i:Int)).toNat=q:=by omega
   have q3:(0:Int)<=(a:Int)+(i:Int):=by omega
   have q4:(0:Int)<=(b:Int)+(i:Int):=by omega
   have q5:(a:Int)+(i:Int)<(n:Int):=by omega
   have q6:(b:Int)+(i:Int)<(n:Int):=by omega
   have q7:IntKind.i64.wrap ((a:Int)+(i:Int))=(a:Int)+(i:Int):=by rw[IntKind.wrap_i64];omega
   have q8:IntKind.i64.wrap ((b:Int)+(i:Int))=(b:Int)+(i:Int):=by rw[IntKind.wrap_i64];omega
   clear hx hy hp hq HS;go_wp2_with fail;go_big_region;have HS3:Hid (SWd V w0 g n (swr f a b (i+1)) ((wr.setCell ⟨g,p,none⟩ (.int .i64 y)).setCell ⟨g,q,none⟩ (.int .i64 x)).drew):=HS2.out.drewN 1;clear l1 l2 l3 f1 f2 HS2 q1 q2 q3 q4 q5 q6 q7 q8;go_wp2;go_roundw
   case rel=>exact ⟨i+1,by go_num,by omega,HS3⟩
   case measure=>simp[intOf];omega
  ·obtain rfl:i=k:=by omega
   go_wp2;go_end0;exact ⟨rfl,_,HS.out,rfl⟩
theorem rot_any (V:Int->Prop) (w0:World) (g n cap:Nat) (cv:Value) (a m b:Nat) (f:Nat->Int) (w:World) (ham:a<m) (hmb:m<b) (hbn:b<=n) (hn:n<=1000000) (S:SWd V w0 g n f w):
 Calls Tryz.prog 148 #[.slice (some ⟨g,0,none⟩) n cap, .int .i64 a, .int .i64 m, .int .i64 b,cv] w (SOk V w0 g n (fun f'=>f'=rot f a m b)):=by
 have HS:=hD S;clear S;go_enter Tryz.func148,Tryz.ntmps148;go_wp2;go_loopg [10,11] (b-a) (fun gk vi vj wr=>∃(i j:Nat) (fk:Nat->Int),vi= .int .i64 i/\vj= .int .i64 j/\0<i/\0<j/\i<=m/\m+j<=n/\i+j<=gk/\Hid (SWd V w0 g n fk wr)/\Hid (rot fk (m-i) m (m+j)=rot f a m b))
 case atStart=>exact ⟨m-a,b-m,f,by congr 1;omega,by congr 1;omega,by omega,by omega,by omega,by omega,by omega,HS,by show _=_;rw[show m-(m-a)=a by omega,show m+(b-m)=b by omega]⟩
 case round=>
  clear HS;obtain ⟨i,j,fk,rfl,rfl,hi,hj,him,hjn,hgk,HS,HR⟩:=hrel;rcases Nat.lt_trichotomy i j with h|h|h
  ·have hne:¬(i:Int)=(j:Int):=by omega
   have hng:¬(j:Int)<(i:Int):=by omega
   have hlt:(i:Int)<(j:Int):=by omega
   have q1:(i:Int)<=(m:Int):=by omega
   have q2:(m:Int)+(j:Int)<=1000000:=by omega
   have HK:=hD (swr_any V w0 g n cap cv (m-i) (m+j-i) i fk wr (by omega) (by omega) hn HS.out);rw[show ((m-i:Nat):Int)=(m:Int)-(i:Int) by omega,show ((m+j-i:Nat):Int)=(m:Int)+(j:Int)-(i:Int) by omega] at HK;clear HS;go_wp2_with fail;refine HK.out.mono ?_;rintro e w1 ⟨rfl,f1,S1,rfl⟩;have HS:=hD S1;clear S1 HK;go_wp2_with fail;go_roundg (i+j-1)
   case measure=>omega
   case rel=>exact ⟨i,j-i,_,rfl,by congr 1;omega,by omega,by omega,by omega,by omega,by omega,HS,by show _=_;rw[<- HR.out];exact rot_lt fk m i j him h⟩
  ·subst h;have q1:(i:Int)<=(m:Int):=by omega
   have HK:=hD (swr_any V w0 g n cap cv (m-i) m i fk wr (by omega) (by omega) hn HS.out);rw[show ((m-i:Nat):Int)=(m:Int)-(i:Int) by omega] at HK;clear HS;go_wp2_with fail;refine HK.out.mono ?_;rintro e w1 ⟨rfl,f1,S1,rfl⟩;have HS:=hD S1;clear S1 HK;go_wp2_with fail;go_end0;exact ⟨rfl,_,HS.out,by rw[<- HR.out];exact rot_eq fk m i him⟩
  ·have hne:¬(i:Int)=(j:Int):=by omega
   have hgt:(j:Int)<(i:Int):=by omega
   have q1:(i:Int)<=(m:Int):=by omega
   have HK:=hD (swr_any V w0 g n cap cv (m-i) m j fk wr (by omega) (by omega) hn HS.out);rw[show ((m-i:Nat):Int)=(m:Int)-(i:Int) by omega] at HK;clear HS;go_wp2_with fail;refine HK.out.mono ?_;rintro e w1 ⟨rfl,f1,S1,rfl⟩;have HS:=hD S1;clear S1 HK;go_wp2_with fail;go_roundg (i+j-1)
   case measure=>omega
   case rel=>exact ⟨i-j,j,_,by congr 1;omega,rfl,by omega,by omega,by omega,by omega,by omega,HS,by show _=_;rw[<- HR.out];exact rot_gt fk m i j him h⟩
open Go.RowKit Stab
theorem smg_one (V:Int->Prop) (L:Int->Int->Bool) (hO:Ord L) (w0:World) (g n cap c:Nat) (cb:Array Value) (cf:Int->Int->Int) (hC:CmpOk V w0 g c cb cf) (hlt:∀x y,x<y->(cf y x<0↔L y x=true))
 (a b:Nat) (f:Nat->Int) (w:World) (hbn:b<=n) (hn:n<=1000000) (hM:Mrg L f a (a+1) b) (S:SWd V w0 g n f w):
 Calls Tryz.prog 147 #[.slice (some ⟨g,0,none⟩) n cap, .int .i64 a, .int .i64 (a+1:Nat), .int .i64 b, .func (.func c) #[] cb] w (SOk V w0 g n (fun f'=>MrgOk L f f' a b)):=by
 have HC:=hD hC;have HL:=hD hlt;have HM:=hD hM;have HS:=hD S;have hcall:=hC.call;have hmb:=hM.mb;have t1:((a:Int)+1-(a:Int)==1)=true:=by simp;omega
 have q0:(a:Int)+1<=1000000:=by omega
 clear hC hlt S hM;go_enter Tryz.func147,Tryz.ntmps147;go_wp2;clear t1;go_loopg [10,11,12] (b-a) (fun gk vi vj vh wr=>∃(i j:Nat),vi= .int .i64 i/\vj= .int .i64 j/\a+1<=i/\i<=j/\j<=b/\j-i<=gk/\Hid (SWd V w0 g n f wr)/\Hid ((∀ k,a+1<=k->k<i->L (f k) (f a)=true)/\(∀ k,j<=k->k<b->L (f k) (f a)=false)))
 case atStart=>exact ⟨a+1,b,by go_num,rfl,by omega,by omega,by omega,by omega,HS,⟨fun k h1 h2=>by omega,fun k h1 h2=>by omega⟩⟩
 case round=>
  clear HS;obtain ⟨i,j,rfl,rfl,hi,hij,hjb,hgk,HS,HI⟩:=hrel;by_cases hlt:i<j
  ·have q1:(i:Int)+(j:Int)<=2000000:=by omega
   go_wp2;obtain ⟨h,hh⟩:∃h:Nat,h=(i+j)/2:=⟨_,rfl⟩;have hi1:i<=h:=by omega
   have hj1:h<j:=by omega
   rw[show ((i:Int)+(j:Int))/2=(h:Int) by omega];clear hh;have l1:=HS.out.cell h (by omega);have l2:=HS.out.cell a (by omega);have hcc:=hD (fun W hW=>HC.out.con W hW (f h) (f a) (HS.out.val h (by omega)) (HS.out.val a (by omega)));have HX:Hid (L (f h) (f a)=true↔cf (f h) (f a)<0):=(HL.out _ _ (HM.out.ap a h (Nat.le_refl _) (by omega) (by omega) (by omega))).symm;have HW:Hid (∀ W,Below wr.heap.size wr W->w0.grownBy W (some g)):=fun W hW=>grown_below HS.out.gr hW
   have q2:(h:Int)<(n:Int):=by omega
   have q3:(a:Int)<(n:Int):=by omega
   have q4:(0:Int)<=(h:Int):=by omega
   have q5:(0:Int)<=(a:Int):=by omega
   obtain ⟨x,hx⟩:∃x,x=f h:=⟨_,rfl⟩;obtain ⟨y,hy⟩:∃y,y=f a:=⟨_,rfl⟩;rw[<- hx, <-hy] at hcc HX;rw[<- hx] at l1;rw[<- hy] at l2;have Hx:=hD hx;have Hy:=hD hy;clear hx hy;go_region_held3 (fun Wk=>Below (wr.heap.size) (wr) Wk/\Wk.cell? ⟨g,h,none⟩=some (.int .i64 x)/\Wk.cell? ⟨g,a,none⟩=some (.int .i64 y))
    (first|exact ⟨below_drewN (Below.refl _ _) 1,l1,l2⟩|exact held_2_0 hb1 (by assumption)|go_keep)
    (((with_reducible refine (hcc.out _ (HW.out _ (And.left (by assumption)))).mono ?_);rintro e w1 ⟨rfl,hb1⟩))
   rename_i hS1;have HS1:Hid (SWd V w0 g n f w1):=HS.out.below hS1.1;clear hS1 l1 l2 HS HW hcc hb1 q0 q1 q4 q5;by_cases hv:cf x y<0
   ·go_wp2;go_roundg (j-(h+1))
    case measure=>omega
    case rel=>
     refine ⟨h+1,j,by go_num,rfl,by omega,by omega,by omega,by omega,HS1,⟨fun k h1 h2=>?_,HI.out.2⟩⟩;have hq:L (f h) (f a)=true:=by rw[<- Hx.out, <-Hy.out];exact HX.out.2 hv
     by_cases e:k=h
     ·rw[e];exact hq
     ·exact hO.tr _ _ _ (HM.out.s2 k h h1 (by omega) (by omega)) hq
   ·go_wp2;go_roundg (h-i)
    case measure=>omega
    case rel=>
     refine ⟨i,h,rfl,rfl,by omega,by omega,by omega,by omega,HS1,⟨HI.out.1,fun k h1 h2=>?_⟩⟩;have hq:L (f h) (f a)=false:=by
      rw[<- Hx.out, <-Hy.out];cases hq:L x y
      ·rfl
      ·have:=HX.out.1 hq;exfalso;omega
     cases hz:L (f k) (f a)
     ·rfl
     ·by_cases e:k=h
      ·rw[e,hq] at hz;cases hz
      ·have:=hO.tr _ _ _ (HM.out.s2 h k (by omega) (by omega) (by omega)) hz;rw[hq] at this;cases this
  ·obtain rfl:i=j:=by omega
   have HF:Hid (MrgOk L f (mvR f a (i-1)) a b):=HM.out.one hO hi hjb HI.out.1 HI.out.2;have q1:(i:Int)<=1000000:=by omega
   have q2:1<=(i:Int):=by omega
   go_wp2;go_loopg [13] (b-a) (fun gk vk wr=>∃(k:Nat),vk= .int .i64 k/\a<=k/\k<=i-1/\i-1-k<=gk/\Hid (SWd V w0 g n (mvR f a k) wr))
   case atStart=>exact ⟨a,rfl,by omega,by omega,by omega,by rw[mvR_zero];exact HS.out⟩
   case round=>
    clear HS HI;obtain ⟨k,rfl,hk,hki,hgk,HS⟩:=hrel;by_cases hlt:k<i-1
    ·have hz:(k:Int)<(i:Int)-1:=by omega
     have l1:=HS.out.cell k (by omega);have l2:=HS.out.cell (k+1) (by omega);have f1:=HS.out.free k (by omega);have f2:=HS.out.free (k+1) (by omega);obtain ⟨x,hx⟩:∃x,x=mvR f a k k:=⟨_,rfl⟩;obtain ⟨y,hy⟩:∃y,y=mvR f a k (k+1):=⟨_,rfl⟩;have l3:=HS.out.c2 k (k+1) (by omega) (by omega) (by omega) (.int .i64 y);have HS2:=hD (HS.out.swapped k (k+1) (by omega) (by omega));rw[mvR_succ f a k hk] at HS2;rw[<- hx] at l1 HS2;rw[<- hy] at l2 l3 HS2;have q1:((k:Int)+1).toNat=k+1:=by omega
     have q3:(0:Int)<=(k:Int)+1:=by omega
     have q5:(k:Int)<(n:Int):=by omega
     have q6:(k:Int)+1<(n:Int):=by omega
     have q7:IntKind.i64.wrap ((k:Int)+1)=(k:Int)+1:=by rw[IntKind.wrap_i64];omega
     clear hx hy HS;go_wp2_with fail;go_big_region;have HS3:Hid (SWd V w0 g n (mvR f a (k+1)) ((wr.setCell ⟨g,k,none⟩ (.int .i64 y)).setCell ⟨g,k+1,none⟩ (.int .i64 x)).drew):=HS2.out.drewN 1;clear l1 l2 l3 f1 f2 HS2 q1 q3 q5 q6 q7;go_wp2;go_roundg (i-1-(k+1))
     case measure=>omega
     case rel=>exact ⟨k+1,by go_num,by omega,by omega,by omega,HS3⟩
    ·obtain rfl:k=i-1:=by omega
     have hz:¬((i-1:Nat):Int)<(i:Int)-1:=by omega
     go_wp2;go_end0;exact ⟨rfl,_,HS.out,HF.out⟩
open Go.RowKit Stab
theorem smg_oneR (V:Int->Prop) (L:Int->Int->Bool) (hO:Ord L) (w0:World) (g n cap c:Nat) (cb:Array Value) (cf:Int->Int->Int) (hC:CmpOk V w0 g c cb cf) (hlt:∀x y,x<y->(cf y x<0↔L y x=true))
 (a m:Nat) (f:Nat->Int) (w:World) (hbn:m+1<=n) (hn:n<=1000000) (ham:a+1<m) (hM:Mrg L f a m (m+1)) (S:SWd V w0 g n f w):
 Calls Tryz.prog 147 #[.slice (some ⟨g,0,none⟩) n cap, .int .i64 a, .int .i64 m, .int .i64 (m+1:Nat), .func (.func c) #[] cb] w (SOk V w0 g n (fun f'=>MrgOk L f f' a (m+1))):=by
 have HC:=hD hC;have HL:=hD hlt;have HM:=hD hM;have HS:=hD S;have hcall:=hC.call;have t0:((m:Int)-(a:Int)==1)=false:=by simp;omega
 have t1:((m:Int)+1-(m:Int)==1)=true:=by simp;omega
 clear hC hlt S hM;go_enter Tryz.func147,Tryz.ntmps147;go_wp2;clear t0 t1;go_loopg [14,15,16] (m+1-a) (fun gk vi vj vh wr=>∃(i j:Nat),vi= .int .i64 i/\vj= .int .i64 j/\a<=i/\i<=j/\j<=m/\j-i<=gk/\Hid (SWd V w0 g n f wr)/\Hid ((∀ k,a<=k->k<i->L (f m) (f k)=false)/\(∀ k,j<=k->k<m->L (f m) (f k)=true)))
 case atStart=>exact ⟨a,m,rfl,rfl,by omega,by omega,by omega,by omega,HS,⟨fun k h1 h2=>by omega,fun k h1 h2=>by omega⟩⟩
 case round=>
  clear HS;obtain ⟨i,j,rfl,rfl,hi,hij,hjb,hgk,HS,HI⟩:=hrel;by_cases hlt:i<j
  ·have q1:(i:Int)+(j:Int)<=2000000:=by omega
   go_wp2;obtain ⟨h,hh⟩:∃h:Nat,h=(i+j)/2:=⟨_,rfl⟩;have hi1:i<=h:=by omega
   have hj1:h<j:=by omega
   rw[show ((i:Int)+(j:Int))/2=(h:Int) by omega];clear hh;have l1:=HS.out.cell m (by omega);have l2:=HS.out.cell h (by omega);have hcc:=hD (fun W hW=>HC.out.con W hW (f m) (f h) (HS.out.val m (by omega)) (HS.out.val h (by omega)));have HX:Hid (L (f m) (f h)=true↔cf (f m) (f h)<0):=(HL.out _ _ (HM.out.ap h m (by omega) (by omega) (by omega) (by omega))).symm;have HW:Hid (∀ W,Below wr.heap.size wr W->w0.grownBy W (some g)):=fun W hW=>grown_below HS.out.gr hW
   have q2:(h:Int)<(n:Int):=by omega
   have q3:(m:Int)<(n:Int):=by omega
   have q4:(0:Int)<=(h:Int):=by omega
   have q5:(0:Int)<=(m:Int):=by omega
   obtain ⟨x,hx⟩:∃x,x=f m:=⟨_,rfl⟩;obtain ⟨y,hy⟩:∃y,y=f h:=⟨_,rfl⟩;rw[<- hx, <-hy] at hcc HX;rw[<- hx] at l1;rw[<- hy] at l2;have Hx:=hD hx;have Hy:=hD hy;clear hx hy;go_region_held3 (fun Wk=>Below (wr.heap.size) (wr) Wk/\Wk.cell? ⟨g,m,none⟩=some (.int .i64 x)/\Wk.cell? ⟨g,h,none⟩=some (.int .i64 y))
    (first|exact ⟨below_drewN (Below.refl _ _) 1,l1,l2⟩|exact held_2_0 hb1 (by assumption)|go_keep)
    (((with_reducible refine (hcc.out _ (HW.out _ (And.left (by assumption)))).mono ?_);rintro e w1 ⟨rfl,hb1⟩))
   rename_i hS1;have HS1:Hid (SWd V w0 g n f w1):=HS.out.below hS1.1;clear hS1 l1 l2 HS HW hcc hb1 q1 q4 q5;by_cases hv:cf x y<0
   ·rw[show (!decide (cf x y<0))=false by simp;omega];go_wp2;go_roundg (h-i)
    case measure=>omega
    case rel=>
     refine ⟨i,h,rfl,rfl,by omega,by omega,by omega,by omega,HS1,⟨HI.out.1,fun k h1 h2=>?_⟩⟩;have hq:L (f m) (f h)=true:=by rw[<- Hx.out, <-Hy.out];exact HX.out.2 hv
     by_cases e:k=h
     ·rw[e];exact hq
     ·exact hO.tr _ _ _ hq (HM.out.s1 h k (by omega) (by omega) (by omega))
   ·rw[show (!decide (cf x y<0))=true by simp;omega];go_wp2;go_roundg (j-(h+1))
    case measure=>omega
    case rel=>
     refine ⟨h+1,j,by go_num,rfl,by omega,by omega,by omega,by omega,HS1,⟨fun k h1 h2=>?_,HI.out.2⟩⟩;have hq:L (f m) (f h)=false:=by
      rw[<- Hx.out, <-Hy.out];cases hq:L x y
      ·rfl
      ·have:=HX.out.1 hq;exfalso;omega
     cases hz:L (f m) (f k)
     ·rfl
     ·by_cases e:k=h
      ·rw[e,hq] at hz;cases hz
      ·have:=hO.tr _ _ _ hz (HM.out.s1 k h (by omega) (by omega) (by omega));rw[hq] at this;cases this
  ·obtain rfl:i=j:=by omega
   have HF:Hid (MrgOk L f (mvL f m i) a (m+1)):=HM.out.oneR hO hi hjb HI.out.1 HI.out.2;have q1:(i:Int)<=1000000:=by omega
   go_wp2;clear q1;go_loopg [17] (m+1) (fun gk vk wr=>∃(k:Nat),vk= .int .i64 k/\i<=k/\k<=m/\k<=gk/\Hid (SWd V w0 g n (mvL f m k) wr))
   case atStart=>exact ⟨m,rfl,by omega,by omega,by omega,by rw[mvL_zero];exact HS.out⟩
   case round=>
    clear HS HI;obtain ⟨k,rfl,hk,hki,hgk,HS⟩:=hrel;by_cases hlt:i<k
    ·obtain ⟨p,rfl⟩:∃p,k=p+1:=⟨k-1,by omega⟩;have hz:(i:Int)<(p:Int)+1:=by omega
     have l1:=HS.out.cell (p+1) (by omega);have l2:=HS.out.cell p (by omega);have f1:=HS.out.free (p+1) (by omega);have f2:=HS.out.free p (by omega);obtain ⟨x,hx⟩:∃x,x=mvL f m (p+1) (p+1):=⟨_,rfl⟩;obtain ⟨y,hy⟩:∃y,y=mvL f m (p+1) p:=⟨_,rfl⟩;have l3:=HS.out.c2 (p+1) p (by omega) (by omega) (by omega) (.int .i64 y);have HS2:=hD (HS.out.swapped (p+1) p (by omega) (by omega));have hsc:=mvL_succ f m (p+1) (by omega) (by omega);simp only[Nat.add_sub_cancel] at hsc;rw[hsc] at HS2;rw[<- hx] at l1 HS2;rw[<- hy] at l2 l3 HS2;have q1:((p:Int)+1).toNat=p+1:=by omega
     have q3:(0:Int)<=(p:Int)+1:=by omega
     have q4:(0:Int)<=(p:Int):=by omega
     have q5:(p:Int)<(n:Int):=by omega
     have q6:(p:Int)+1<(n:Int):=by omega
     have q7:IntKind.i64.wrap (p:Int)=(p:Int):=by rw[IntKind.wrap_i64];omega
     clear hx hy HS hsc;go_wp2_with fail;go_big_region;have HS3:Hid (SWd V w0 g n (mvL f m p) ((wr.setCell ⟨g,p+1,none⟩ (.int .i64 y)).setCell ⟨g,p,none⟩ (.int .i64 x)).drew):=HS2.out.drewN 1;clear l1 l2 l3 f1 f2 HS2 q1 q3 q4 q5 q6 q7;go_wp2;go_roundg p
     case measure=>omega
     case rel=>exact ⟨p,by first|rfl|go_num,by omega,by omega,by omega,HS3⟩
    ·obtain rfl:k=i:=by omega
     go_wp2;go_end0;exact ⟨rfl,_,HS.out,HF.out⟩
open Go.RowKit Stab
theorem Stab.rot_id (f:Fn) (s m e:Nat) (hs:s<=m) (he:m<=e) (h:s=m\/m=e):rot f s m e=f:=by
 funext k;unfold rot;rcases h with h|h
 ·subst h;by_cases h1:s<=k/\k<s+(e-s)
  ·rw[if_pos h1];congr 1;omega
  ·rw[if_neg h1,if_neg (by omega)]
 ·subst h;rw[if_neg (by omega)];by_cases h1:s+(m-m)<=k/\k<m
  ·rw[if_pos h1];congr 1;omega
  ·rw[if_neg h1]
theorem Stab.Srt.eq {L:Int->Int->Bool} {f g:Fn} {a b:Nat} (h:Srt L f a b) (e:∀i,a<=i->i<b->g i=f i):Srt L g a b:=fun p q h1 h2 h3=>by
 rw[e p h1 (by omega),e q (by omega) h3];exact h p q h1 h2 h3
theorem Stab.Mrg.eq {L:Int->Int->Bool} {f g:Fn} {a m b:Nat} (h:Mrg L f a m b) (e:∀i,a<=i->i<b->g i=f i):Mrg L g a m b:=
 ⟨h.am,h.mb,h.s1.eq fun i h1 h2=>e i h1 (by have:=h.mb;omega),h.s2.eq fun i h1 h2=>e i (by have:=h.am;omega) h2,fun i j h1 h2 h3 h4=>by
  rw[e i h1 (by omega),e j (by omega) h4];exact h.ap i j h1 h2 h3 h4⟩
def SmIH (V:Int->Prop) (L:Int->Int->Bool) (w0:World) (g n cap c:Nat) (cb:Array Value) (z:Nat):Prop:=
 ∀(a m b:Nat) (f:Nat->Int) (w:World),b-a<z->b<=n->Mrg L f a m b->SWd V w0 g n f w->
  Calls Tryz.prog 147 #[.slice (some ⟨g,0,none⟩) n cap, .int .i64 a, .int .i64 m, .int .i64 b, .func (.func c) #[] cb] w (SOk V w0 g n (fun f'=>MrgOk L f f' a b))
theorem smg_gen (V:Int->Prop) (L:Int->Int->Bool) (hO:Ord L) (w0:World) (g n cap c:Nat) (cb:Array Value) (cf:Int->Int->Int) (hC:CmpOk V w0 g c cb cf) (hlt:∀x y,x<y->(cf y x<0↔L y x=true))
 (a m b:Nat) (f:Nat->Int) (w:World) (hbn:b<=n) (hn:n<=1000000) (ham:a+1<m) (hmb:m+1<b) (hM:Mrg L f a m b) (S:SWd V w0 g n f w) (ih:SmIH V L w0 g n cap c cb (b-a)):
 Calls Tryz.prog 147 #[.slice (some ⟨g,0,none⟩) n cap, .int .i64 a, .int .i64 m, .int .i64 b, .func (.func c) #[] cb] w (SOk V w0 g n (fun f'=>MrgOk L f f' a b)):=by
 have HC:=hD hC;have HL:=hD hlt;have HM:=hD hM;have HS:=hD S;have IH:=hD ih;have hcall:=hC.call;have t0:((m:Int)-(a:Int)==1)=false:=by simp;omega
 have t1:((b:Int)-(m:Int)==1)=false:=by simp;omega
 have q1:(a:Int)+(b:Int)<=2000000:=by omega
 have q2:(m:Int)<=1000000:=by omega
 clear hC hlt S hM ih;go_enter Tryz.func147,Tryz.ntmps147;go_upto_if 140 with fail
 obtain ⟨mid,hmid⟩:∃mid:Nat,mid=(a+b)/2:=⟨_,rfl⟩;have hz1:a<mid:=by omega
 have hz2:mid<b:=by omega
 rw[show ((a:Int)+(b:Int))/2=(mid:Int) by omega];have HMID:=hD hmid;clear hmid t0 t1;go_cut [20,21] (fun s r wx=>∃s0 r0:Nat,s= .int .i64 s0/\r= .int .i64 r0/\Hid ((mid<m/\s0=mid+m-b/\r0=mid)\/(m<=mid/\s0=a/\r0=m))/\wx=w)
 case first=>
  as_aux_lemma=>
   by_cases h:mid<m
   ·have hz:(mid:Int)<(m:Int):=by omega
    have hzb:decide ((mid:Int)<(m:Int))=true:=decide_eq_true hz;go_wp2_with fail;go_meet;exact ⟨mid+m-b,mid,by have:=HMID.out;congr 1;omega,rfl, .inl ⟨h,rfl,rfl⟩,rfl⟩
   ·have hz:¬(mid:Int)<(m:Int):=by omega
    have hzb:decide ((mid:Int)<(m:Int))=false:=decide_eq_false hz;go_wp2_with fail;go_meet;exact ⟨a,m,rfl,rfl, .inr ⟨by omega,rfl,rfl⟩,rfl⟩
 case rest=>
  as_aux_lemma=>
   obtain ⟨s0,r0,rfl,rfl,H0,rfl⟩:=hcut;have hs0:a<=s0/\s0<=r0/\r0<=m/\r0<=mid/\mid+m<s0+b+1:=by have:=HMID.out;have:=H0.out;omega
   obtain ⟨hs1,hs2,hs3,hs4,hs5⟩:=hs0;go_wp2;obtain ⟨p,hp⟩:∃p:Nat,p=mid+m-1:=⟨_,rfl⟩;have hp1:p+1=mid+m:=by omega
   rw[show (mid:Int)+(m:Int)-1=(p:Int) by omega];clear hp;go_loopg [20,21,23] (b-a) (fun gk vi vj vh wr=>∃(i j:Nat),vi= .int .i64 i/\vj= .int .i64 j/\s0<=i/\i<=j/\j<=r0/\j-i<=gk/\Hid (SWd V w0 g n f wr)/\Hid (Srch L f p s0 r0 i j))
   case atStart=>exact ⟨s0,r0,rfl,rfl,by omega,by omega,by omega,by omega,HS,Srch.start L f p s0 r0 hs2⟩
   case round=>
    as_aux_lemma=>
     clear HS;obtain ⟨i,j,rfl,rfl,hi,hij,hjb,hgk,HS,HI⟩:=hrel;by_cases hlt:i<j
     ·have q3:(i:Int)+(j:Int)<=2000000:=by omega
      go_wp2;obtain ⟨h,hh⟩:∃h:Nat,h=(i+j)/2:=⟨_,rfl⟩;have hi1:i<=h:=by omega
      have hj1:h<j:=by omega
      rw[show ((i:Int)+(j:Int))/2=(h:Int) by omega];clear hh;obtain ⟨k,hk⟩:∃k,k=p-h:=⟨_,rfl⟩;have hk1:m<=k/\k<b:=by have:=H0.out;omega
      have l1:=HS.out.cell k (by omega);have l2:=HS.out.cell h (by omega);have hcc:=hD (fun W hW=>HC.out.con W hW (f k) (f h) (HS.out.val k (by omega)) (HS.out.val h (by omega)));have HX:Hid (L (f k) (f h)=true↔cf (f k) (f h)<0):=(HL.out _ _ (HM.out.ap h k (by omega) (by omega) (by omega) (by omega))).symm;have HW:Hid (∀ W,Below wr.heap.size wr W->w0.grownBy W (some g)):=fun W hW=>grown_below HS.out.gr hW
      have q5:(h:Int)<(n:Int):=by omega
      have q6:(p:Int)-(h:Int)<(n:Int):=by omega
      have q7:(0:Int)<=(h:Int):=by omega
      have q8:(0:Int)<=(p:Int)-(h:Int):=by omega
      have q9:((p:Int)-(h:Int)).toNat=k:=by omega
      have q8':(h:Int)<=(p:Int):=by omega
      have qa:IntKind.i64.wrap ((p:Int)-(h:Int))=(p:Int)-(h:Int):=by rw[IntKind.wrap_i64];omega
      have hpk:Hid (p-h=k):=hk.symm;obtain ⟨x,hx⟩:∃x,x=f k:=⟨_,rfl⟩;obtain ⟨y,hy⟩:∃y,y=f h:=⟨_,rfl⟩;rw[<- hx, <-hy] at hcc HX;rw[<- hx] at l1;rw[<- hy] at l2;have Hx:=hD hx;have Hy:=hD hy;clear hx hy hk q3;go_region_held3 (fun Wk=>Below (wr.heap.size) (wr) Wk/\Wk.cell? ⟨g,k,none⟩=some (.int .i64 x)/\Wk.cell? ⟨g,h,none⟩=some (.int .i64 y))
       (first|exact ⟨below_drewN (Below.refl _ _) 1,l1,l2⟩|exact held_2_0 hb1 (by assumption)|go_keep)
       (((with_reducible refine (hcc.out _ (HW.out _ (And.left (by assumption)))).mono ?_);rintro e w1 ⟨rfl,hb1⟩))
      rename_i hS1;have HS1:Hid (SWd V w0 g n f w1):=HS.out.below hS1.1;clear hS1 l1 l2 HS HW hcc hb1 q5 q6 q7 q8 q8' q9 qa;by_cases hv:cf x y<0
      ·rw[show (!decide (cf x y<0))=false by simp;omega];go_wp2;go_roundg (h-i)
       case measure=>omega
       case rel=>exact ⟨i,h,rfl,rfl,by omega,by omega,by omega,by omega,HS1,HI.out.left hi1 hj1 (by rw[hpk.out, <-Hx.out, <-Hy.out];exact HX.out.2 hv)⟩
      ·rw[show (!decide (cf x y<0))=true by simp;omega];go_wp2;go_roundg (j-(h+1))
       case measure=>omega
       case rel=>
        refine ⟨h+1,j,by go_num,rfl,by omega,by omega,by omega,by omega,HS1,HI.out.right hi1 hj1 ?_⟩;rw[hpk.out, <-Hx.out, <-Hy.out];cases hq:L x y
        ·rfl
        ·have:=HX.out.1 hq;exfalso;omega
     ·obtain rfl:i=j:=by omega
      obtain ⟨hcut,hmd,hsm⟩:=Srch.cut (by omega) (by omega) HMID.out H0.out (by rw[<- show p=mid+m-1 by omega];exact HI.out);obtain ⟨e,he⟩:∃e,e=mid+m-i:=⟨_,rfl⟩;rw[<- he] at hcut hmd;have HCUT:=hD hcut;have hb:=hcut.las;have hb1:=hcut.sm;have hb2:=hcut.me;have hb3:=hcut.eb;have he1:e+i=mid+m:=by omega
      have hme:mid<=e:=by omega
      clear hcut he HI;have q3:(i:Int)<=(mid:Int):=by omega
      go_upto_region 39 with fail
      rw[show (mid:Int)+(m:Int)-(i:Int)=(e:Int) by omega];have HR:Hid (SWd V w0 g n f wr):=HS;clear HS q1 q2 q3;go_cut [185] (fun t wx=>∃tb:Bool,t= .bool tb/\Hid (tb=decide (i<m/\m<e))/\wx=wr)
      case first=>
       as_aux_lemma=>
        by_cases h1:i<m
        ·by_cases h2:m<e
         ·have z1:(i:Int)<(m:Int):=by omega
          have z2:(m:Int)<(e:Int):=by omega
          go_wp2;go_meet;exact ⟨true,rfl,(decide_eq_true ⟨h1,h2⟩).symm,rfl⟩
         ·have z1:(i:Int)<(m:Int):=by omega
          have z2:decide ((m:Int)<(e:Int))=false:=decide_eq_false (by omega);have z3:¬(m:Int)<(e:Int):=by omega
          go_wp2;go_meet;exact ⟨false,rfl,(decide_eq_false (fun q=>h2 q.2)).symm,rfl⟩
        ·have z2:decide ((i:Int)<(m:Int))=false:=decide_eq_false (by omega);have z3:¬(i:Int)<(m:Int):=by omega
         go_wp2;go_meet;exact ⟨false,rfl,(decide_eq_false (fun q=>h1 q.1)).symm,rfl⟩
      case rest=>
       as_aux_lemma=>
        obtain ⟨tb,rfl,HT,rfl⟩:=hcut;go_upto_if 185 with fail
        go_cut [] (fun wx=>Hid (SWd V w0 g n (rot f i m e) wx))
        case first=>
         as_aux_lemma=>
          cases tb
          ·go_wp2_with fail;go_meet;have hd:=of_decide_eq_false HT.out.symm;show SWd V w0 g n (rot f i m e) _;rw[rot_id f i m e (by omega) (by omega) (by omega)];exact HR.out
          ·have hd:=of_decide_eq_true HT.out.symm;have HK:=hD (rot_any V w0 g n cap (.func (.func c) #[] cb) i m e f _ hd.1 hd.2 (by omega) hn HR.out);clear HR;go_wp2_with fail;refine HK.out.mono ?_;rintro e' w1 ⟨rfl,f1,S1,rfl⟩;have HS:=hD S1;clear S1 HK;go_wp2_with fail;go_meet;exact HS
        case rest=>
         as_aux_lemma=>
          have HS:=hcut;clear hcut HR HT;have hH:=HCUT.out.halves HM.out hO;rw[hmd] at hH;have HH:=hD hH;obtain ⟨r,hr⟩:∃r,r=rot f i m e:=⟨_,rfl⟩;have hsame:Hid (Same f r a b):=by show Same f r a b;rw[hr];exact (same_rot f hb1 hb2).more (out_rot f hb1 hb2) hb hb3
          have hout:Hid (Outw f r a b):=by show Outw f r a b;rw[hr];exact (out_rot f hb1 hb2).more hb hb3
          rw[<- hr] at HH HS;clear hH hr HCUT;go_upto_region 41 with fail
          go_cut [199] (fun t wx=>∃tb:Bool,t= .bool tb/\Hid (tb=decide (a<i/\i<mid))/\wx=wc)
          case first=>
           as_aux_lemma=>
            by_cases h1:a<i
            ·by_cases h2:i<mid
             ·have z1:(a:Int)<(i:Int):=by omega
              have z2:(i:Int)<(mid:Int):=by omega
              go_wp2;go_meet;exact ⟨true,rfl,(decide_eq_true ⟨h1,h2⟩).symm,rfl⟩
             ·have z1:(a:Int)<(i:Int):=by omega
              have z2:decide ((i:Int)<(mid:Int))=false:=decide_eq_false (by omega);have z3:¬(i:Int)<(mid:Int):=by omega
              go_wp2;go_meet;exact ⟨false,rfl,(decide_eq_false (fun q=>h2 q.2)).symm,rfl⟩
            ·have z2:decide ((a:Int)<(i:Int))=false:=decide_eq_false (by omega);have z3:¬(a:Int)<(i:Int):=by omega
             go_wp2;go_meet;exact ⟨false,rfl,(decide_eq_false (fun q=>h1 q.1)).symm,rfl⟩
          case rest=>
           as_aux_lemma=>
            obtain ⟨tb,rfl,HT,rfl⟩:=hcut;go_upto_if 199 with fail
            go_cut [] (fun wx=>∃g1:Nat->Int,Hid (SWd V w0 g n g1 wx)/\Hid (MrgOk L r g1 a mid))
            case first=>
             as_aux_lemma=>
              cases tb
              ·go_wp2_with fail;go_meet;have hd:=of_decide_eq_false HT.out.symm;refine ⟨r,HS,MrgOk.none ?_⟩;by_cases h1:a<i
               ·exact HH.out.2.2.2.1 (by omega)
               ·exact HH.out.2.2.1 (by omega)
              ·have hd:=of_decide_eq_true HT.out.symm;have HK:=hD (IH.out a i mid r _ (by omega) (by omega) (HH.out.1 hd.1 hd.2) HS.out);clear HS;go_wp2_with fail;refine HK.out.mono ?_;rintro e' w1 ⟨rfl,f1,S1,M1⟩;have HS:=hD S1;have HM1:=hD M1;clear S1 M1 HK;go_wp2_with fail;go_meet;exact ⟨f1,HS,HM1⟩
            case rest=>
             as_aux_lemma=>
              obtain ⟨g1,HS,HM1⟩:=hcut;clear HT;have hg:Hid (∀ k,mid<=k->k<b->g1 k=r k):=fun k h1 h2=>HM1.out.out k (.inr h1)
              go_upto_region 43 with fail
              go_cut [213] (fun t wx=>∃tb:Bool,t= .bool tb/\Hid (tb=decide (mid<e/\e<b))/\wx=wc)
              case first=>
               as_aux_lemma=>
                by_cases h1:mid<e
                ·by_cases h2:e<b
                 ·have z1:(mid:Int)<(e:Int):=by omega
                  have z2:(e:Int)<(b:Int):=by omega
                  go_wp2;go_meet;exact ⟨true,rfl,(decide_eq_true ⟨h1,h2⟩).symm,rfl⟩
                 ·have z1:(mid:Int)<(e:Int):=by omega
                  have z2:decide ((e:Int)<(b:Int))=false:=decide_eq_false (by omega);have z3:¬(e:Int)<(b:Int):=by omega
                  go_wp2;go_meet;exact ⟨false,rfl,(decide_eq_false (fun q=>h2 q.2)).symm,rfl⟩
                ·have z2:decide ((mid:Int)<(e:Int))=false:=decide_eq_false (by omega);have z3:¬(mid:Int)<(e:Int):=by omega
                 go_wp2;go_meet;exact ⟨false,rfl,(decide_eq_false (fun q=>h1 q.1)).symm,rfl⟩
              case rest=>
               as_aux_lemma=>
                obtain ⟨tb,rfl,HT,rfl⟩:=hcut;go_upto_if 213 with fail
                cases tb
                ·go_wp2;go_end0;have hd:=of_decide_eq_false HT.out.symm;refine ⟨rfl,g1,HS.out,MrgOk.join (by omega) (by omega) hsame.out hout.out HH.out.2.2.2.2.2.2 HM1.out (MrgOk.none (Srt.eq ?_ hg.out))⟩;by_cases h1:mid<e
                 ·exact HH.out.2.2.2.2.1 (by omega)
                 ·exact HH.out.2.2.2.2.2.1 (by omega)
                ·have hd:=of_decide_eq_true HT.out.symm;have HK:=hD (IH.out mid e b g1 _ (by omega) (by omega) ((HH.out.2.1 hd.1 hd.2).eq hg.out) HS.out);clear HS;go_wp2_with fail;refine HK.out.mono ?_;rintro e' w1 ⟨rfl,f1,S1,M1⟩;have HS:=hD S1;have HM2:=hD M1;clear S1 M1 HK;go_wp2_with fail;go_end0;exact ⟨rfl,f1,HS.out,MrgOk.join (by omega) (by omega) hsame.out hout.out HH.out.2.2.2.2.2.2 HM1.out HM2.out⟩
theorem smg_any (V:Int->Prop) (L:Int->Int->Bool) (hO:Ord L) (w0:World) (g n cap c:Nat) (cb:Array Value) (cf:Int->Int->Int) (hC:CmpOk V w0 g c cb cf) (hlt:∀x y,x<y->(cf y x<0↔L y x=true)) (hn:n<=1000000):
 ∀z,SmIH V L w0 g n cap c cb z
 |0=>fun a m b f w h=>absurd h (by omega)
 |z+1=>fun a m b f w h hbn hM S=>by
  have ih:=smg_any V L hO w0 g n cap c cb cf hC hlt hn z;have h1:=hM.am;have h2:=hM.mb;by_cases e1:m=a+1
  ·subst e1;exact smg_one V L hO w0 g n cap c cb cf hC hlt a b f w hbn hn hM S
  ·by_cases e2:b=m+1
   ·subst e2;exact smg_oneR V L hO w0 g n cap c cb cf hC hlt a m f w hbn hn (by omega) hM S
   ·exact smg_gen V L hO w0 g n cap c cb cf hC hlt a m b f w hbn hn (by omega) (by omega) hM S (fun a' m' b' f' w' h'=>ih a' m' b' f' w' (by omega))
end Go.Proofs.YtjfhfaodbjecdaaGreat
