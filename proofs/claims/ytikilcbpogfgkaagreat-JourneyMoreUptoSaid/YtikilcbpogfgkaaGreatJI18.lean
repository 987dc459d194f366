/- Lemmas. -/
import Derived.Test.YtikilcbpogfgkaaGreatJI17
set_option maxHeartbeats 3200000
set_option maxRecDepth 100000
namespace Go.Proofs.YtikilcbpogfgkaaGreat
open Stab
variable {l:List Ent} {x y tab:Int} {xs:List Int} {a g n b:Nat} {w w1 w0:World} {V:Int->Prop} {f:Nat->Int} {L:Int->Int->Bool}
def eAt (l:List Ent) (x:Int):Ent:=l.getD x.toNat ⟨0,[],0,0,0,[]⟩
theorem eAt_nat (l:List Ent) (k:Nat) (h:k<l.length):l[k]?=some (eAt l k):=by
 unfold eAt;simp[gE_ h,List.getD_eq_getElem?_getD]
def lts (l:List Ent) (x y:Int):Bool:=ahd (eAt l x).prio (eAt l x).len (eAt l y).prio (eAt l y).len
def tot (l:List Ent) (x y:Int):Bool:=lts l x y||(decide ((eAt l x).prio=(eAt l y).prio/\(eAt l x).len=(eAt l y).len)&&decide (x<y))
theorem tot_iff:tot l x y=true↔((eAt l y).prio<(eAt l x).prio\/((eAt l x).prio=(eAt l y).prio/\((eAt l y).len<(eAt l x).len\/((eAt l x).len=(eAt l y).len/\x<y)))):=by
 unfold tot lts ahd;simp only[Bool.or_eq_true,Bool.and_eq_true,decide_eq_true_eq];constructor
 ·rintro ((h|⟨h1,h2⟩)|⟨⟨h1,h2⟩,h3⟩)<;>omega
 intro h;by_cases h1:(eAt l y).prio<(eAt l x).prio
 ·exact .inl (.inl h1)
 by_cases h2:(eAt l y).len<(eAt l x).len
 ·exact .inl (.inr ⟨om,h2⟩)
 exact .inr ⟨⟨om,om⟩,om⟩
theorem tot_ord (l:List Ent):Ord (tot l) where
 irr:=fun x=>by
  cases h:tot l x x
  ·rfl
  ·rw[tot_iff] at h;omega
 tr:=fun x y z h1 h2=>by rw[tot_iff] at *;omega
 tot:=fun x y h1 h2=>by
  rw[tot_iff];have h3:¬tot l x y=true:=by rw[h2];decide
  rw[tot_iff] at h3;omega
theorem lts_iff:lts l x y=true↔((eAt l y).prio<(eAt l x).prio\/((eAt l x).prio=(eAt l y).prio/\(eAt l y).len<(eAt l x).len)):=by
 unfold lts ahd;simp only[Bool.or_eq_true,Bool.and_eq_true,decide_eq_true_eq]
theorem tot_lts (h:x<y):tot l y x=lts l y x:=by
 rw[Bool.eq_iff_iff,tot_iff,lts_iff];omega
def cmpE (l:List Ent) (x y:Int):Int:=if lts l x y then -1 else if lts l y x then 1 else 0
theorem cmpE_neg:x<y->(cmpE l y x<0↔tot l y x=true):=by
 intro h;rw[tot_lts h];unfold cmpE;cases h1:lts l y x
 ·cases h2:lts l x y<;>simp
 ·simp
def sel (l:List Ent) (tab:Int):Nat->List Int
 |0=>[]
 |k+1=>sel l tab k++(if (eAt l k).tab=tab then [(k:Int)] else [])
theorem mem_sel:∀{k:Nat},x∈sel l tab k↔(0<=x/\x<k/\(eAt l x).tab=tab)
 |0=>by simp[sel];omega
 |k+1=>by
  unfold sel;rw[List.mem_append,mem_sel (k:=k)];by_cases h:(eAt l (k:Int)).tab=tab
  ·rw[if_pos h,List.mem_singleton];constructor
   ·rintro (⟨h1,h2,h3⟩|rfl)
    ·exact ⟨h1,om,h3⟩
    ·exact ⟨om,om,h⟩
   ·rintro ⟨h1,h2,h3⟩;by_cases e:x=(k:Int)
    ·exact .inr e
    ·exact .inl ⟨h1,om,h3⟩
  ·rw[if_neg h];constructor
   ·rintro (⟨h1,h2,h3⟩|h4)
    ·exact ⟨h1,om,h3⟩
    ·cases h4
   ·rintro ⟨h1,h2,h3⟩;by_cases e:x=(k:Int)
    ·exact absurd h3 (by rw[e];exact h)
    ·exact .inl ⟨h1,om,h3⟩
theorem sel_len (l:List Ent) (tab:Int):∀k,(sel l tab k).length<=k
 |0=>by simp[sel]
 |k+1=>by
  unfold sel;have:=sel_len l tab k;rw[List.length_append];split<;>simp<;>omega
theorem sel_lt (l:List Ent) (tab:Int) {k p:Nat} (h:p<(sel l tab k).length):0<=(sel l tab k).getD p 0/\(sel l tab k).getD p 0<k/\(eAt l ((sel l tab k).getD p 0)).tab=tab:=by
 rw[List.getD_eq_getElem?_getD,gE_ h,Option.getD_some];exact mem_sel.1 (List.getElem_mem h)
theorem getD_app1 {ys:List Int} {p:Nat} (h:p<xs.length):(xs++ys).getD p 0=xs.getD p 0:=by
 rw[List.getD_eq_getElem?_getD,List.getD_eq_getElem?_getD,List.getElem?_append_left h]
theorem getD_app2:(xs++[y]).getD xs.length 0=y:=by
 rw[List.getD_eq_getElem?_getD,List.getElem?_append_right lr];simp
theorem sel_asc (l:List Ent) (tab:Int):∀k p q,p<q->q<(sel l tab k).length->(sel l tab k).getD p 0<(sel l tab k).getD q 0
 |0=>fun p q _ h=>by simp[sel] at h
 |k+1=>fun p q h1 h2=>by
  unfold sel at h2⊢;by_cases e:(eAt l (k:Int)).tab=tab
  ·rw[if_pos e] at h2⊢;rw[List.length_append,List.length_singleton] at h2;by_cases hq:q<(sel l tab k).length
   ·rw[getD_app1 hq,getD_app1 om];exact sel_asc l tab k p q h1 hq
   ·obtain rfl:q=(sel l tab k).length:=om
    rw[getD_app2,getD_app1 h1];exact (sel_lt l tab h1).2.1
  ·rw[if_neg e] at h2⊢;rw[List.append_nil] at h2⊢;exact sel_asc l tab k p q h1 h2
def fnOf (xs:List Int):Nat->Int:=fun i=>xs.getD i 0
structure IsOrd (l:List Ent) (tab:Int) (xs:List Int):Prop where
 len:xs.length=(sel l tab l.length).length
 srt:Srt (tot l) (fnOf xs) 0 xs.length
 same:Same (fnOf (sel l tab l.length)) (fnOf xs) 0 xs.length
theorem IsOrd.mem (h:IsOrd l tab xs):x∈xs↔(0<=x/\x<l.length/\(eAt l x).tab=tab):=by
 rw[<- mem_sel];have hs:=h.same x;have key:∀ys:List Int,x∈ys↔∃i,0<=i/\i<ys.length/\fnOf ys i=x:=fun ys=>by
  rw[List.mem_iff_getElem];constructor
  ·rintro ⟨i,hi,e⟩;exact ⟨i,zl,hi,by unfold fnOf;rw[List.getD_eq_getElem?_getD,gE_ hi];exact e⟩
  ·rintro ⟨i,-,hi,e⟩;exact ⟨i,hi,by unfold fnOf at e;rw[List.getD_eq_getElem?_getD,gE_ hi] at e;exact e⟩
 rw[key xs,key (sel l tab l.length), <-h.len];exact hs.symm
open Go.RowKit Stab
def RowF (w:World) (g n:Nat) (f:Nat->Int):Prop:=∀i,i<n->w.cell? ⟨g,i,none⟩=some (.int .i64 (f i))/\w.frozen? ⟨g,i,none⟩=false
structure SWd (V:Int->Prop) (w0:World) (g n:Nat) (f:Nat->Int) (w:World):Prop where
 row:RowF w g n f
 gr:w0.grownBy w (some g)
 hg:g<w0.heap.size
 val:∀i,i<n->V (f i)
theorem grown_below {a:World} {r:Option Nat} (h:a.grownBy w r) (hb:Bl w w1):a.grownBy w1 r:=
 ⟨hb.os.trans h.os,hb.tape.trans h.tape,hb.output.trans h.output,Nat.le_trans h.size hb.size,fun i hi hn=>(hb.block i (Nat.lt_of_lt_of_le hi h.size)).trans (h.block i hi hn)⟩
theorem SWd.glt (h:SWd V w0 g n f w):g<w.heap.size:=Nat.lt_of_lt_of_le h.hg h.gr.size
theorem SWd.below (h:SWd V w0 g n f w) (hb:Bl w w1):SWd V w0 g n f w1:=
 ⟨fun i hi=>⟨(hb.cell (p:=⟨g,i,none⟩) h.glt).trans (h.row i hi).1,(hb.frozen (p:=⟨g,i,none⟩) h.glt).trans (h.row i hi).2⟩,grown_below h.gr hb,h.hg,h.val⟩
theorem SWd.drewN (h:SWd V w0 g n f w) (k:Nat):SWd V w0 g n f (w.drewN k):=
 ⟨h.row,⟨h.gr.os,h.gr.tape,h.gr.output,h.gr.size,h.gr.block⟩,h.hg,h.val⟩
theorem SWd.cell (h:SWd V w0 g n f w) (i:Nat) (hi:i<n):w.cell? ⟨g,i,none⟩=some (.int .i64 (f i)):=(h.row i hi).1
theorem SWd.free (h:SWd V w0 g n f w) (i:Nat) (hi:i<n):w.frozen? ⟨g,i,none⟩=false:=(h.row i hi).2
theorem SWd.swapped (h:SWd V w0 g n f w) (i j:Nat) (hi:i<n) (hj:j<n):
 SWd V w0 g n (swp f i j) ((w.setCell ⟨g,i,none⟩ (.int .i64 (f j))).setCell ⟨g,j,none⟩ (.int .i64 (f i))):=by
 refine ⟨fun k hk=>⟨?_,?_⟩,?_,h.hg,fun k hk=>?_⟩
 ·by_cases e2:k=j
  ·subst e2;have hs:∃u,(w.setCell ⟨g,i,none⟩ (.int .i64 (f k))).cell? ⟨g,k,none⟩=some u:=by
    by_cases e:i=k
    ·subst e;exact ⟨_,World.cell?_setCell_same _ _ _ (h.cell i hi)⟩
    exact ⟨_,(World.cell?_setCell_other _ _ _ _ (by intro e';simp only[Addr.mk.injEq] at e';omega)).trans (h.cell k hk)⟩
   obtain ⟨u,hu⟩:=hs;rw[World.cell?_setCell_same _ _ _ hu];unfold swp;by_cases e:k=i
   ·rw[if_pos e,e]
   rw[if_neg e,if_pos rfl]
  rw[World.cell?_setCell_other _ _ _ _ (by intro e';simp only[Addr.mk.injEq] at e';omega)];by_cases e1:k=i
  ·subst e1;rw[World.cell?_setCell_same _ _ _ (h.cell k hk)];unfold swp;rw[if_pos rfl]
  rw[World.cell?_setCell_other _ _ _ _ (by intro e';simp only[Addr.mk.injEq] at e';omega),h.cell k hk];unfold swp;rw[if_neg e1,if_neg e2]
 ·rw[World.frozen?_setCell,World.frozen?_setCell];exact h.free k hk
 ·refine ⟨h.gr.os,h.gr.tape,h.gr.output,by simpa [World.setCell] using h.gr.size,fun b hb hne=>?_⟩;have hgb:b≠g:=fun e=>hne (by rw[e])
  rw[Below.heap_setCell _ _ _ b (by exact hgb),Below.heap_setCell _ _ _ b (by exact hgb)];exact h.gr.block b hb hne
 unfold swp;split
 ·exact h.val j hj
 split
 ·exact h.val i hi
 exact h.val k hk
theorem SWd.c2 (h:SWd V w0 g n f w) (i j:Nat) (_hi:i<n) (hj:j<n) (hij:i≠j) (v:Value):(w.setCell ⟨g,i,none⟩ v).cell? ⟨g,j,none⟩=some (.int .i64 (f j)):=
 (World.cell?_setCell_other _ _ _ _ (by intro e';simp only[Addr.mk.injEq] at e';omega)).trans (h.cell j hj)
structure CmpOk (V:Int->Prop) (w0:World) (g c:Nat) (cb:Array Value) (cf:Int->Int->Int):Prop where
 call:∀(av:Array Value) (W:World),(callFunc c av).run Tryz.prog W= .ok (.enter c av) W
 con:∀W,w0.grownBy W (some g)->∀x y,V x->V y->Calls Tryz.prog c (#[.int .i64 x, .int .i64 y]++cb) W fun e w'=>e= .returned (.int .i64 (cf x y))/\Bl W w'
def SOk (V:Int->Prop) (w0:World) (g n:Nat) (R:(Nat->Int)->Prop) (e:Ending) (w':World):Prop:=e= .returned (.tuple #[])/\∃f,SWd V w0 g n f w'/\R f
theorem ins_any (V:Int->Prop) (L:Int->Int->Bool) (hO:Ord L) (w0:World) (g n cap c:Nat) (cb:Array Value) (cf:Int->Int->Int) (hC:CmpOk V w0 g c cb cf) (hlt:∀x y,x<y->(cf y x<0↔L y x=true))
 (a b:Nat) (f:Nat->Int) (w:World) (hab:a<=b) (hbn:b<=n) (hn:n<=1000000) (hasc:∀p q,a<=p->p<q->q<b->f p<f q) (S:SWd V w0 g n f w):
 Calls Tryz.prog 164 #[.slice (some ⟨g,0,none⟩) n cap, .int .i64 a, .int .i64 b, .func (.func c) #[] cb] w (SOk V w0 g n (fun f'=>MrgOk L f f' a b)):=by
 have HC:=hD hC;have HL:=hD hlt;have HA:=hD hasc;have HS:=hD S;have hcall:=hC.call;clear hC hlt hasc S;go_enter Tryz.func164,Tryz.ntmps164;go_wp2;go_loopg [8] (b-a) (fun g1 vi wr=>∃(i:Nat) (fk:Nat->Int),vi= .int .i64 i/\a<i/\(i<=b\/i=a+1)/\b+1-i<=g1+1/\Hd (SWd V w0 g n fk wr)/\Hd (Ins L f fk a i))
 case atStart=>exact ⟨a+1,f,by go_num,om,om,om,HS,Ins.start L f a⟩
 case round=>
  clear HS;obtain ⟨i,fk,rfl,hai,hib,hg1,HS,HI⟩:=hrel;by_cases hlt:i<b
  ·go_wp2;go_loopg [9] i (fun g2 vj wr2=>∃(j:Nat) (fj:Nat->Int),vj= .int .i64 j/\a<=j/\j<=i/\j<=g2/\Hd (SWd V w0 g n fj wr2)/\Hd (InsI L f fj a i j))
   case atStart=>exact ⟨i,fk,rfl,om,Nat.le_refl _,Nat.le_refl _,HS,HI.o.inner om hlt HA.o⟩
   case round=>
    clear HS HI;obtain ⟨j,fj,rfl,haj,hji,hg2,HS,HI⟩:=hrel;by_cases hja:a<j
    ·obtain ⟨jp,rfl⟩:∃jp,j=jp+1:=⟨j-1,om⟩;have hjaz:(a:Int)<(jp:Int)+1:=om;have l1:=HS.o.cell (jp+1) om;have l2:=HS.o.cell jp om;have f1:=HS.o.free (jp+1) om;have f2:=HS.o.free jp om;have v1:=HS.o.val (jp+1) om;have v2:=HS.o.val jp om;have hl:=HI.o.less jp om om om;have hcc:=fun W hW=>HC.o.con W hW (fj (jp+1)) (fj jp) v1 v2
     have HX:Hd (L (fj (jp+1)) (fj jp)=true↔cf (fj (jp+1)) (fj jp)<0):=(HL.o _ _ hl).symm;have HW:Hd (∀ W,Bl wr W->w0.grownBy W (some g)):=fun W hW=>grown_below HS.o.gr hW
     clear v1 v2 hl;have q0:(0:Int)<=(jp:Int)+1:=om;have q1:(jp:Int)+1<(n:Int):=om;have q2:(jp:Int)<(n:Int):=om;have q3:((jp:Int)+1).toNat=jp+1:=om;have q4:(0:Int)<=(jp:Int):=om;have q5:IntKind.i64.wrap (jp:Int)=(jp:Int):=by rw[IntKind.wrap_i64];omega
     obtain ⟨x,hx⟩:=nm (fj (jp+1));obtain ⟨y,hy⟩:=nm (fj jp);rw[<- hx, <-hy] at hcc HX;rw[<- hx] at l1;rw[<- hy] at l2;have Hx:=hD hx;have Hy:=hD hy;have hcc':=hD hcc;clear hx hy hcc;go_wp2_with fail;go_region_held3 (fun Wk=>Below (wr.heap.size) (wr) Wk/\Wk.cell? ⟨g,jp+1,none⟩=some (.int .i64 x)/\Wk.cell? ⟨g,jp,none⟩=some (.int .i64 y))
      (first|exact ⟨below_drewN br 1,l1,l2⟩|exact held_2_0 hb1 (by assumption)|go_keep)
      (((with_reducible refine (hcc'.o _ (HW.o _ (And.left (by assumption)))).mono ?_);rintro e w1 ⟨rfl,hb1⟩))
     rename_i hS1;have HS1:Hd (SWd V w0 g n fj w1):=HS.o.below hS1.1;clear hS1 l1 l2 f1 f2 HS HW hcc';by_cases hv:cf x y<0
     ·have l1:=HS1.o.cell (jp+1) om;have l2:=HS1.o.cell jp om;have f1:=HS1.o.free (jp+1) om;have f2:=HS1.o.free jp om;have l3:=HS1.o.c2 (jp+1) jp om om om (.int .i64 y);have HS2:=hD (HS1.o.swapped (jp+1) jp om om);rw[<- Hx.o, <-Hy.o] at HS2;rw[<- Hx.o] at l1;rw[<- Hy.o] at l2 l3;clear HS1;go_wp2_with fail;go_big_region;have HS3:Hd (SWd V w0 g n (swp fj (jp+1) jp) (((w1.setCell ⟨g,jp+1,none⟩ (.int .i64 y)).setCell ⟨g,jp,none⟩ (.int .i64 x)).drew)):=HS2.o.drewN 1;clear l1 l2 l3 f1 f2 HS2;go_wp2;go_roundg jp
      case measure=>omega
      case rel=>exact ⟨jp,_,by first|rfl|go_num,om,om,Nat.le_refl _,HS3,HI.o.step om (by simp only[Nat.add_sub_cancel];rw[<- Hx.o, <-Hy.o];exact HX.o.2 hv) hO⟩
     go_wp2;go_roundg (b-(i+1))
     case measure=>omega
     case rel=>exact ⟨i+1,fj,by go_num,om,om,om,HS1,HI.o.done hO (.inr (by simp only[Nat.add_sub_cancel];rw[<- Hx.o, <-Hy.o];cases hq:L x y;rfl;have hz:=HX.o.1 hq;exfalso;omega))⟩
    have hjaz:decide ((j:Int)>(a:Int))=false:=decide_eq_false om;have hjaz':¬(a:Int)<(j:Int):=om;go_wp2_with fail;go_big_region;have HS1:Hd (SWd V w0 g n fj wr.drew):=HS.o.drewN 1;clear HS;go_wp2;go_roundg (b-(i+1))
    case measure=>omega
    case rel=>exact ⟨i+1,fj,by go_num,om,om,om,HS1,HI.o.done hO (.inl om)⟩
  go_wp2;go_end0;exact ⟨rfl,fk,HS.o,HI.o.last om om⟩
open Go.RowKit Stab
theorem swr_any (V:Int->Prop) (w0:World) (g n cap:Nat) (cv:Value) (a b k:Nat) (f:Nat->Int) (w:World) (hab:a+k<=b) (hbn:b+k<=n) (hn:n<=1000000) (S:SWd V w0 g n f w):
 Calls Tryz.prog 167 #[.slice (some ⟨g,0,none⟩) n cap, .int .i64 a, .int .i64 b, .int .i64 k,cv] w (SOk V w0 g n (fun f'=>f'=swr f a b k)):=by
 have HS:=hD S;clear S;go_enter Tryz.func167,Tryz.ntmps167;go_wp2;go_loopw [10] (fun vi wr=>∃(i:Nat),vi= .int .i64 i/\i<=k/\Hd (SWd V w0 g n (swr f a b i) wr)) (fun vi _=>k-(intOf vi).toNat)
 case atStart=>exact ⟨0,rfl,om,by rw[swr_zero];exact HS.o⟩
 case round=>
  clear HS;obtain ⟨i,rfl,hik,HS⟩:=hrel;by_cases hlt:i<k
  ·have l1:=HS.o.cell (a+i) om;have l2:=HS.o.cell (b+i) om;have f1:=HS.o.free (a+i) om;have f2:=HS.o.free (b+i) om;obtain ⟨x,hx⟩:=nm (swr f a b i (a+i));obtain ⟨y,hy⟩:=nm (swr f a b i (b+i));have l3:=HS.o.c2 (a+i) (b+i) om om om (.int .i64 y);have HS2:=hD (HS.o.swapped (a+i) (b+i) om om);rw[swr_succ f a b i om] at HS2;rw[<- hx] at l1 HS2;rw[<- hy] at l2 l3 HS2;obtain ⟨p,hp⟩:=nm (a+i);obtain ⟨q,hq⟩:=nm (b+i);rw[<- hp] at l1 f1 l3 HS2;rw[<- hq] at l2 f2 l3 HS2;have q1:((a:Int)+(i:Int)).toNat=p:=om;have q2:((b:Int)+(i:Int)).toNat=q:=om;have q3:(0:Int)<=(a:Int)+(i:Int):=om;have q4:(0:Int)<=(b:Int)+(i:Int):=om;have q5:(a:Int)+(i:Int)<(n:Int):=om;have q6:(b:Int)+(i:Int)<(n:Int):=om;have q7:IntKind.i64.wrap ((a:Int)+(i:Int))=(a:Int)+(i:Int):=by rw[IntKind.wrap_i64];omega
   have q8:IntKind.i64.wrap ((b:Int)+(i:Int))=(b:Int)+(i:Int):=by rw[IntKind.wrap_i64];omega
   clear hx hy hp hq HS;go_wp2_with fail;go_big_region;have HS3:Hd (SWd V w0 g n (swr f a b (i+1)) ((wr.setCell ⟨g,p,none⟩ (.int .i64 y)).setCell ⟨g,q,none⟩ (.int .i64 x)).drew):=HS2.o.drewN 1;clear l1 l2 l3 f1 f2 HS2 q1 q2 q3 q4 q5 q6 q7 q8;go_wp2;go_roundw
   case rel=>exact ⟨i+1,by go_num,om,HS3⟩
   case measure=>exact mz
  obtain rfl:i=k:=om;go_wp2;go_end0;exact ⟨rfl,_,HS.o,rfl⟩
theorem rot_any (V:Int->Prop) (w0:World) (g n cap:Nat) (cv:Value) (a m b:Nat) (f:Nat->Int) (w:World) (ham:a<m) (hmb:m<b) (hbn:b<=n) (hn:n<=1000000) (S:SWd V w0 g n f w):
 Calls Tryz.prog 166 #[.slice (some ⟨g,0,none⟩) n cap, .int .i64 a, .int .i64 m, .int .i64 b,cv] w (SOk V w0 g n (fun f'=>f'=rot f a m b)):=by
 have HS:=hD S;clear S;go_enter Tryz.func166,Tryz.ntmps166;go_wp2;go_loopg [10,11] (b-a) (fun gk vi vj wr=>∃(i j:Nat) (fk:Nat->Int),vi= .int .i64 i/\vj= .int .i64 j/\0<i/\0<j/\i<=m/\m+j<=n/\i+j<=gk/\Hd (SWd V w0 g n fk wr)/\Hd (rot fk (m-i) m (m+j)=rot f a m b))
 case atStart=>exact ⟨m-a,b-m,f,by congr 1;omega,by congr 1;omega,om,om,om,om,om,HS,by show _=_;rw[show m-(m-a)=a by omega,show m+(b-m)=b by omega]⟩
 case round=>
  clear HS;obtain ⟨i,j,fk,rfl,rfl,hi,hj,him,hjn,hgk,HS,HR⟩:=hrel;rcases Nat.lt_trichotomy i j with h|h|h
  ·have hne:¬(i:Int)=(j:Int):=om;have hng:¬(j:Int)<(i:Int):=om;have hlt:(i:Int)<(j:Int):=om;have q1:(i:Int)<=(m:Int):=om;have q2:(m:Int)+(j:Int)<=1000000:=om;have HK:=hD (swr_any V w0 g n cap cv (m-i) (m+j-i) i fk wr om om hn HS.o);rw[show ((m-i:Nat):Int)=(m:Int)-(i:Int) by omega,show ((m+j-i:Nat):Int)=(m:Int)+(j:Int)-(i:Int) by omega] at HK;clear HS;go_wp2_with fail;refine HK.o.mono ?_;rintro e w1 ⟨rfl,f1,S1,rfl⟩;have HS:=hD S1;clear S1 HK;go_wp2_with fail;go_roundg (i+j-1)
   case measure=>omega
   case rel=>exact ⟨i,j-i,_,rfl,by congr 1;omega,om,om,om,om,om,HS,by show _=_;rw[<- HR.o];exact rot_lt fk m i j him h⟩
  ·subst h;have q1:(i:Int)<=(m:Int):=om;have HK:=hD (swr_any V w0 g n cap cv (m-i) m i fk wr om om hn HS.o);rw[show ((m-i:Nat):Int)=(m:Int)-(i:Int) by omega] at HK;clear HS;go_wp2_with fail;refine HK.o.mono ?_;rintro e w1 ⟨rfl,f1,S1,rfl⟩;have HS:=hD S1;clear S1 HK;go_wp2_with fail;go_end0;exact ⟨rfl,_,HS.o,by rw[<- HR.o];exact rot_eq fk m i him⟩
  have hne:¬(i:Int)=(j:Int):=om;have hgt:(j:Int)<(i:Int):=om;have q1:(i:Int)<=(m:Int):=om;have HK:=hD (swr_any V w0 g n cap cv (m-i) m j fk wr om om hn HS.o);rw[show ((m-i:Nat):Int)=(m:Int)-(i:Int) by omega] at HK;clear HS;go_wp2_with fail;refine HK.o.mono ?_;rintro e w1 ⟨rfl,f1,S1,rfl⟩;have HS:=hD S1;clear S1 HK;go_wp2_with fail;go_roundg (i+j-1)
  case measure=>omega
  case rel=>exact ⟨i-j,j,_,by congr 1;omega,rfl,om,om,om,om,om,HS,by show _=_;rw[<- HR.o];exact rot_gt fk m i j him h⟩
open Go.RowKit Stab
theorem smg_one (V:Int->Prop) (L:Int->Int->Bool) (hO:Ord L) (w0:World) (g n cap c:Nat) (cb:Array Value) (cf:Int->Int->Int) (hC:CmpOk V w0 g c cb cf) (hlt:∀x y,x<y->(cf y x<0↔L y x=true))
 (a b:Nat) (f:Nat->Int) (w:World) (hbn:b<=n) (hn:n<=1000000) (hM:Mrg L f a (a+1) b) (S:SWd V w0 g n f w):
 Calls Tryz.prog 165 #[.slice (some ⟨g,0,none⟩) n cap, .int .i64 a, .int .i64 (a+1:Nat), .int .i64 b, .func (.func c) #[] cb] w (SOk V w0 g n (fun f'=>MrgOk L f f' a b)):=by
 have HC:=hD hC;have HL:=hD hlt;have HM:=hD hM;have HS:=hD S;have hcall:=hC.call;have hmb:=hM.mb;have t1:((a:Int)+1-(a:Int)==1)=true:=by simp;omega
 have q0:(a:Int)+1<=1000000:=om;clear hC hlt S hM;go_enter Tryz.func165,Tryz.ntmps165;go_wp2;clear t1;go_loopg [10,11,12] (b-a) (fun gk vi vj vh wr=>∃(i j:Nat),vi= .int .i64 i/\vj= .int .i64 j/\a+1<=i/\i<=j/\j<=b/\j-i<=gk/\Hd (SWd V w0 g n f wr)/\Hd ((∀ k,a+1<=k->k<i->L (f k) (f a)=true)/\(∀ k,j<=k->k<b->L (f k) (f a)=false)))
 case atStart=>exact ⟨a+1,b,by go_num,rfl,om,om,om,om,HS,⟨fun k h1 h2=>by omega,fun k h1 h2=>by omega⟩⟩
 case round=>
  clear HS;obtain ⟨i,j,rfl,rfl,hi,hij,hjb,hgk,HS,HI⟩:=hrel;by_cases hlt:i<j
  ·have q1:(i:Int)+(j:Int)<=2000000:=om;go_wp2;obtain ⟨h,hh⟩:∃h:Nat,h=(i+j)/2:=⟨_,rfl⟩;have hi1:i<=h:=om;have hj1:h<j:=om;rw[show ((i:Int)+(j:Int))/2=(h:Int) by omega];clear hh;have l1:=HS.o.cell h om;have l2:=HS.o.cell a om;have hcc:=hD (fun W hW=>HC.o.con W hW (f h) (f a) (HS.o.val h om) (HS.o.val a om));have HX:Hd (L (f h) (f a)=true↔cf (f h) (f a)<0):=(HL.o _ _ (HM.o.ap a h lr om om om)).symm;have HW:Hd (∀ W,Bl wr W->w0.grownBy W (some g)):=fun W hW=>grown_below HS.o.gr hW
   have q2:(h:Int)<(n:Int):=om;have q3:(a:Int)<(n:Int):=om;have q4:(0:Int)<=(h:Int):=om;have q5:(0:Int)<=(a:Int):=om;obtain ⟨x,hx⟩:=nm (f h);obtain ⟨y,hy⟩:=nm (f a);rw[<- hx, <-hy] at hcc HX;rw[<- hx] at l1;rw[<- hy] at l2;have Hx:=hD hx;have Hy:=hD hy;clear hx hy;go_region_held3 (fun Wk=>Below (wr.heap.size) (wr) Wk/\Wk.cell? ⟨g,h,none⟩=some (.int .i64 x)/\Wk.cell? ⟨g,a,none⟩=some (.int .i64 y))
    (first|exact ⟨below_drewN br 1,l1,l2⟩|exact held_2_0 hb1 (by assumption)|go_keep)
    (((with_reducible refine (hcc.o _ (HW.o _ (And.left (by assumption)))).mono ?_);rintro e w1 ⟨rfl,hb1⟩))
   rename_i hS1;have HS1:Hd (SWd V w0 g n f w1):=HS.o.below hS1.1;clear hS1 l1 l2 HS HW hcc hb1 q0 q1 q4 q5;by_cases hv:cf x y<0
   ·go_wp2;go_roundg (j-(h+1))
    case measure=>omega
    case rel=>
     refine ⟨h+1,j,by go_num,rfl,om,om,om,om,HS1,⟨fun k h1 h2=>?_,HI.o.2⟩⟩;have hq:L (f h) (f a)=true:=by rw[<- Hx.o, <-Hy.o];exact HX.o.2 hv
     by_cases e:k=h
     ·rw[e];exact hq
     exact hO.tr _ _ _ (HM.o.s2 k h h1 om om) hq
   go_wp2;go_roundg (h-i)
   case measure=>omega
   case rel=>
    refine ⟨i,h,rfl,rfl,om,om,om,om,HS1,⟨HI.o.1,fun k h1 h2=>?_⟩⟩;have hq:L (f h) (f a)=false:=by
     rw[<- Hx.o, <-Hy.o];cases hq:L x y
     ·rfl
     ·have:=HX.o.1 hq;exfalso;omega
    cases hz:L (f k) (f a)
    ·rfl
    ·by_cases e:k=h
     ·rw[e,hq] at hz;cases hz
     have:=hO.tr _ _ _ (HM.o.s2 h k om om om) hz;rw[hq] at this;cases this
  obtain rfl:i=j:=om;have HF:Hd (MrgOk L f (mvR f a (i-1)) a b):=HM.o.one hO hi hjb HI.o.1 HI.o.2;have q1:(i:Int)<=1000000:=om;have q2:1<=(i:Int):=om;go_wp2;go_loopg [13] (b-a) (fun gk vk wr=>∃(k:Nat),vk= .int .i64 k/\a<=k/\k<=i-1/\i-1-k<=gk/\Hd (SWd V w0 g n (mvR f a k) wr))
  case atStart=>exact ⟨a,rfl,om,om,om,by rw[mvR_zero];exact HS.o⟩
  case round=>
   clear HS HI;obtain ⟨k,rfl,hk,hki,hgk,HS⟩:=hrel;by_cases hlt:k<i-1
   ·have hz:(k:Int)<(i:Int)-1:=om;have l1:=HS.o.cell k om;have l2:=HS.o.cell (k+1) om;have f1:=HS.o.free k om;have f2:=HS.o.free (k+1) om;obtain ⟨x,hx⟩:=nm (mvR f a k k);obtain ⟨y,hy⟩:=nm (mvR f a k (k+1));have l3:=HS.o.c2 k (k+1) om om om (.int .i64 y);have HS2:=hD (HS.o.swapped k (k+1) om om);rw[mvR_succ f a k hk] at HS2;rw[<- hx] at l1 HS2;rw[<- hy] at l2 l3 HS2;have q1:((k:Int)+1).toNat=k+1:=om;have q3:(0:Int)<=(k:Int)+1:=om;have q5:(k:Int)<(n:Int):=om;have q6:(k:Int)+1<(n:Int):=om;have q7:IntKind.i64.wrap ((k:Int)+1)=(k:Int)+1:=by rw[IntKind.wrap_i64];omega
    clear hx hy HS;go_wp2_with fail;go_big_region;have HS3:Hd (SWd V w0 g n (mvR f a (k+1)) ((wr.setCell ⟨g,k,none⟩ (.int .i64 y)).setCell ⟨g,k+1,none⟩ (.int .i64 x)).drew):=HS2.o.drewN 1;clear l1 l2 l3 f1 f2 HS2 q1 q3 q5 q6 q7;go_wp2;go_roundg (i-1-(k+1))
    case measure=>omega
    case rel=>exact ⟨k+1,by go_num,om,om,om,HS3⟩
   obtain rfl:k=i-1:=om;have hz:¬((i-1:Nat):Int)<(i:Int)-1:=om;go_wp2;go_end0;exact ⟨rfl,_,HS.o,HF.o⟩
open Go.RowKit Stab
theorem smg_oneR (V:Int->Prop) (L:Int->Int->Bool) (hO:Ord L) (w0:World) (g n cap c:Nat) (cb:Array Value) (cf:Int->Int->Int) (hC:CmpOk V w0 g c cb cf) (hlt:∀x y,x<y->(cf y x<0↔L y x=true))
 (a m:Nat) (f:Nat->Int) (w:World) (hbn:m+1<=n) (hn:n<=1000000) (ham:a+1<m) (hM:Mrg L f a m (m+1)) (S:SWd V w0 g n f w):
 Calls Tryz.prog 165 #[.slice (some ⟨g,0,none⟩) n cap, .int .i64 a, .int .i64 m, .int .i64 (m+1:Nat), .func (.func c) #[] cb] w (SOk V w0 g n (fun f'=>MrgOk L f f' a (m+1))):=by
 have HC:=hD hC;have HL:=hD hlt;have HM:=hD hM;have HS:=hD S;have hcall:=hC.call;have t0:((m:Int)-(a:Int)==1)=false:=by simp;omega
 have t1:((m:Int)+1-(m:Int)==1)=true:=by simp;omega
 clear hC hlt S hM;go_enter Tryz.func165,Tryz.ntmps165;go_wp2;clear t0 t1;go_loopg [14,15,16] (m+1-a) (fun gk vi vj vh wr=>∃(i j:Nat),vi= .int .i64 i/\vj= .int .i64 j/\a<=i/\i<=j/\j<=m/\j-i<=gk/\Hd (SWd V w0 g n f wr)/\Hd ((∀ k,a<=k->k<i->L (f m) (f k)=false)/\(∀ k,j<=k->k<m->L (f m) (f k)=true)))
 case atStart=>exact ⟨a,m,rfl,rfl,om,om,om,om,HS,⟨fun k h1 h2=>by omega,fun k h1 h2=>by omega⟩⟩
 case round=>
  clear HS;obtain ⟨i,j,rfl,rfl,hi,hij,hjb,hgk,HS,HI⟩:=hrel;by_cases hlt:i<j
  ·have q1:(i:Int)+(j:Int)<=2000000:=om;go_wp2;obtain ⟨h,hh⟩:∃h:Nat,h=(i+j)/2:=⟨_,rfl⟩;have hi1:i<=h:=om;have hj1:h<j:=om;rw[show ((i:Int)+(j:Int))/2=(h:Int) by omega];clear hh;have l1:=HS.o.cell m om;have l2:=HS.o.cell h om;have hcc:=hD (fun W hW=>HC.o.con W hW (f m) (f h) (HS.o.val m om) (HS.o.val h om));have HX:Hd (L (f m) (f h)=true↔cf (f m) (f h)<0):=(HL.o _ _ (HM.o.ap h m om om om om)).symm;have HW:Hd (∀ W,Bl wr W->w0.grownBy W (some g)):=fun W hW=>grown_below HS.o.gr hW
   have q2:(h:Int)<(n:Int):=om;have q3:(m:Int)<(n:Int):=om;have q4:(0:Int)<=(h:Int):=om;have q5:(0:Int)<=(m:Int):=om;obtain ⟨x,hx⟩:=nm (f m);obtain ⟨y,hy⟩:=nm (f h);rw[<- hx, <-hy] at hcc HX;rw[<- hx] at l1;rw[<- hy] at l2;have Hx:=hD hx;have Hy:=hD hy;clear hx hy;go_region_held3 (fun Wk=>Below (wr.heap.size) (wr) Wk/\Wk.cell? ⟨g,m,none⟩=some (.int .i64 x)/\Wk.cell? ⟨g,h,none⟩=some (.int .i64 y))
    (first|exact ⟨below_drewN br 1,l1,l2⟩|exact held_2_0 hb1 (by assumption)|go_keep)
    (((with_reducible refine (hcc.o _ (HW.o _ (And.left (by assumption)))).mono ?_);rintro e w1 ⟨rfl,hb1⟩))
   rename_i hS1;have HS1:Hd (SWd V w0 g n f w1):=HS.o.below hS1.1;clear hS1 l1 l2 HS HW hcc hb1 q1 q4 q5;by_cases hv:cf x y<0
   ·rw[show (!decide (cf x y<0))=false by simp;omega];go_wp2;go_roundg (h-i)
    case measure=>omega
    case rel=>
     refine ⟨i,h,rfl,rfl,om,om,om,om,HS1,⟨HI.o.1,fun k h1 h2=>?_⟩⟩;have hq:L (f m) (f h)=true:=by rw[<- Hx.o, <-Hy.o];exact HX.o.2 hv
     by_cases e:k=h
     ·rw[e];exact hq
     exact hO.tr _ _ _ hq (HM.o.s1 h k om om om)
   rw[show (!decide (cf x y<0))=true by simp;omega];go_wp2;go_roundg (j-(h+1))
   case measure=>omega
   case rel=>
    refine ⟨h+1,j,by go_num,rfl,om,om,om,om,HS1,⟨fun k h1 h2=>?_,HI.o.2⟩⟩;have hq:L (f m) (f h)=false:=by
     rw[<- Hx.o, <-Hy.o];cases hq:L x y
     ·rfl
     ·have:=HX.o.1 hq;exfalso;omega
    cases hz:L (f m) (f k)
    ·rfl
    ·by_cases e:k=h
     ·rw[e,hq] at hz;cases hz
     have:=hO.tr _ _ _ hz (HM.o.s1 k h om om om);rw[hq] at this;cases this
  obtain rfl:i=j:=om;have HF:Hd (MrgOk L f (mvL f m i) a (m+1)):=HM.o.oneR hO hi hjb HI.o.1 HI.o.2;have q1:(i:Int)<=1000000:=om;go_wp2;clear q1;go_loopg [17] (m+1) (fun gk vk wr=>∃(k:Nat),vk= .int .i64 k/\i<=k/\k<=m/\k<=gk/\Hd (SWd V w0 g n (mvL f m k) wr))
  case atStart=>exact ⟨m,rfl,om,om,om,by rw[mvL_zero];exact HS.o⟩
  case round=>
   clear HS HI;obtain ⟨k,rfl,hk,hki,hgk,HS⟩:=hrel;by_cases hlt:i<k
   ·obtain ⟨p,rfl⟩:∃p,k=p+1:=⟨k-1,om⟩;have hz:(i:Int)<(p:Int)+1:=om;have l1:=HS.o.cell (p+1) om;have l2:=HS.o.cell p om;have f1:=HS.o.free (p+1) om;have f2:=HS.o.free p om;obtain ⟨x,hx⟩:=nm (mvL f m (p+1) (p+1));obtain ⟨y,hy⟩:=nm (mvL f m (p+1) p);have l3:=HS.o.c2 (p+1) p om om om (.int .i64 y);have HS2:=hD (HS.o.swapped (p+1) p om om);have hsc:=mvL_succ f m (p+1) om om;simp only[Nat.add_sub_cancel] at hsc;rw[hsc] at HS2;rw[<- hx] at l1 HS2;rw[<- hy] at l2 l3 HS2;have q1:((p:Int)+1).toNat=p+1:=om;have q3:(0:Int)<=(p:Int)+1:=om;have q4:(0:Int)<=(p:Int):=om;have q5:(p:Int)<(n:Int):=om;have q6:(p:Int)+1<(n:Int):=om;have q7:IntKind.i64.wrap (p:Int)=(p:Int):=by rw[IntKind.wrap_i64];omega
    clear hx hy HS hsc;go_wp2_with fail;go_big_region;have HS3:Hd (SWd V w0 g n (mvL f m p) ((wr.setCell ⟨g,p+1,none⟩ (.int .i64 y)).setCell ⟨g,p,none⟩ (.int .i64 x)).drew):=HS2.o.drewN 1;clear l1 l2 l3 f1 f2 HS2 q1 q3 q4 q5 q6 q7;go_wp2;go_roundg p
    case measure=>omega
    case rel=>exact ⟨p,by first|rfl|go_num,om,om,om,HS3⟩
   obtain rfl:k=i:=om;go_wp2;go_end0;exact ⟨rfl,_,HS.o,HF.o⟩
open Go.RowKit Stab
theorem Stab.rot_id (f:Fn) (s m e:Nat) (hs:s<=m) (he:m<=e) (h:s=m\/m=e):rot f s m e=f:=by
 funext k;unfold rot;rcases h with h|h
 ·subst h;by_cases h1:s<=k/\k<s+(e-s)
  ·rw[if_pos h1];congr 1;omega
  rw[if_neg h1,if_neg om]
 subst h;rw[if_neg om];by_cases h1:s+(m-m)<=k/\k<m
 ·rw[if_pos h1];congr 1;omega
 rw[if_neg h1]
theorem Stab.Srt.eq {f g:Fn} (h:Srt L f a b) (e:∀i,a<=i->i<b->g i=f i):Srt L g a b:=fun p q h1 h2 h3=>by
 rw[e p h1 om,e q om h3];exact h p q h1 h2 h3
theorem Stab.Mrg.eq {f g:Fn} {m:Nat} (h:Mrg L f a m b) (e:∀i,a<=i->i<b->g i=f i):Mrg L g a m b:=
 ⟨h.am,h.mb,h.s1.eq fun i h1 h2=>e i h1 (by have:=h.mb;omega),h.s2.eq fun i h1 h2=>e i (by have:=h.am;omega) h2,fun i j h1 h2 h3 h4=>by
  rw[e i h1 om,e j om h4];exact h.ap i j h1 h2 h3 h4⟩
def SmIH (V:Int->Prop) (L:Int->Int->Bool) (w0:World) (g n cap c:Nat) (cb:Array Value) (z:Nat):Prop:=
 ∀(a m b:Nat) (f:Nat->Int) (w:World),b-a<z->b<=n->Mrg L f a m b->SWd V w0 g n f w->
  Calls Tryz.prog 165 #[.slice (some ⟨g,0,none⟩) n cap, .int .i64 a, .int .i64 m, .int .i64 b, .func (.func c) #[] cb] w (SOk V w0 g n (fun f'=>MrgOk L f f' a b))
theorem smg_gen (V:Int->Prop) (L:Int->Int->Bool) (hO:Ord L) (w0:World) (g n cap c:Nat) (cb:Array Value) (cf:Int->Int->Int) (hC:CmpOk V w0 g c cb cf) (hlt:∀x y,x<y->(cf y x<0↔L y x=true))
 (a m b:Nat) (f:Nat->Int) (w:World) (hbn:b<=n) (hn:n<=1000000) (ham:a+1<m) (hmb:m+1<b) (hM:Mrg L f a m b) (S:SWd V w0 g n f w) (ih:SmIH V L w0 g n cap c cb (b-a)):
 Calls Tryz.prog 165 #[.slice (some ⟨g,0,none⟩) n cap, .int .i64 a, .int .i64 m, .int .i64 b, .func (.func c) #[] cb] w (SOk V w0 g n (fun f'=>MrgOk L f f' a b)):=by
 have HC:=hD hC;have HL:=hD hlt;have HM:=hD hM;have HS:=hD S;have IH:=hD ih;have hcall:=hC.call;have t0:((m:Int)-(a:Int)==1)=false:=by simp;omega
 have t1:((b:Int)-(m:Int)==1)=false:=by simp;omega
 have q1:(a:Int)+(b:Int)<=2000000:=om;have q2:(m:Int)<=1000000:=om;clear hC hlt S hM ih;go_enter Tryz.func165,Tryz.ntmps165;go_upto_if 140 with fail;obtain ⟨mid,hmid⟩:∃mid:Nat,mid=(a+b)/2:=⟨_,rfl⟩;have hz1:a<mid:=om;have hz2:mid<b:=om;rw[show ((a:Int)+(b:Int))/2=(mid:Int) by omega];have HMID:=hD hmid;clear hmid t0 t1;go_cut [20,21] (fun s r wx=>∃s0 r0:Nat,s= .int .i64 s0/\r= .int .i64 r0/\Hd ((mid<m/\s0=mid+m-b/\r0=mid)\/(m<=mid/\s0=a/\r0=m))/\wx=w)
 case first=>
  as_aux_lemma=>
   by_cases h:mid<m
   ·have hz:(mid:Int)<(m:Int):=om
    have hzb:decide ((mid:Int)<(m:Int))=true:=decide_eq_true hz;go_wp2_with fail;go_meet;exact ⟨mid+m-b,mid,by have:=HMID.o;congr 1;omega,rfl, .inl ⟨h,rfl,rfl⟩,rfl⟩
   ·have hz:¬(mid:Int)<(m:Int):=om
    have hzb:decide ((mid:Int)<(m:Int))=false:=decide_eq_false hz;go_wp2_with fail;go_meet;exact ⟨a,m,rfl,rfl, .inr ⟨om,rfl,rfl⟩,rfl⟩
 case rest=>
  as_aux_lemma=>
   obtain ⟨s0,r0,rfl,rfl,H0,rfl⟩:=hcut;have hs0:a<=s0/\s0<=r0/\r0<=m/\r0<=mid/\mid+m<s0+b+1:=by have:=HMID.o;have:=H0.o;omega
   obtain ⟨hs1,hs2,hs3,hs4,hs5⟩:=hs0;go_wp2;obtain ⟨p,hp⟩:∃p:Nat,p=mid+m-1:=⟨_,rfl⟩;have hp1:p+1=mid+m:=om
   rw[show (mid:Int)+(m:Int)-1=(p:Int) by omega];clear hp;go_loopg [20,21,23] (b-a) (fun gk vi vj vh wr=>∃(i j:Nat),vi= .int .i64 i/\vj= .int .i64 j/\s0<=i/\i<=j/\j<=r0/\j-i<=gk/\Hd (SWd V w0 g n f wr)/\Hd (Srch L f p s0 r0 i j))
   case atStart=>exact ⟨s0,r0,rfl,rfl,om,om,om,om,HS,Srch.start L f p s0 r0 hs2⟩
   case round=>
    as_aux_lemma=>
     clear HS;obtain ⟨i,j,rfl,rfl,hi,hij,hjb,hgk,HS,HI⟩:=hrel;by_cases hlt:i<j
     ·have q3:(i:Int)+(j:Int)<=2000000:=om
      go_wp2;obtain ⟨h,hh⟩:∃h:Nat,h=(i+j)/2:=⟨_,rfl⟩;have hi1:i<=h:=om
      have hj1:h<j:=om
      rw[show ((i:Int)+(j:Int))/2=(h:Int) by omega];clear hh;obtain ⟨k,hk⟩:=nm (p-h);have hk1:m<=k/\k<b:=by have:=H0.o;omega
      have l1:=HS.o.cell k om;have l2:=HS.o.cell h om;have hcc:=hD (fun W hW=>HC.o.con W hW (f k) (f h) (HS.o.val k om) (HS.o.val h om));have HX:Hd (L (f k) (f h)=true↔cf (f k) (f h)<0):=(HL.o _ _ (HM.o.ap h k om om om om)).symm;have HW:Hd (∀ W,Bl wr W->w0.grownBy W (some g)):=fun W hW=>grown_below HS.o.gr hW
      have q5:(h:Int)<(n:Int):=om
      have q6:(p:Int)-(h:Int)<(n:Int):=om
      have q7:(0:Int)<=(h:Int):=om
      have q8:(0:Int)<=(p:Int)-(h:Int):=om
      have q9:((p:Int)-(h:Int)).toNat=k:=om
      have q8':(h:Int)<=(p:Int):=om
      have qa:IntKind.i64.wrap ((p:Int)-(h:Int))=(p:Int)-(h:Int):=by rw[IntKind.wrap_i64];omega
      have hpk:Hd (p-h=k):=hk.symm;obtain ⟨x,hx⟩:=nm (f k);obtain ⟨y,hy⟩:=nm (f h);rw[<- hx, <-hy] at hcc HX;rw[<- hx] at l1;rw[<- hy] at l2;have Hx:=hD hx;have Hy:=hD hy;clear hx hy hk q3;go_region_held3 (fun Wk=>Below (wr.heap.size) (wr) Wk/\Wk.cell? ⟨g,k,none⟩=some (.int .i64 x)/\Wk.cell? ⟨g,h,none⟩=some (.int .i64 y))
       (first|exact ⟨below_drewN br 1,l1,l2⟩|exact held_2_0 hb1 (by assumption)|go_keep)
       (((with_reducible refine (hcc.o _ (HW.o _ (And.left (by assumption)))).mono ?_);rintro e w1 ⟨rfl,hb1⟩))
      rename_i hS1;have HS1:Hd (SWd V w0 g n f w1):=HS.o.below hS1.1;clear hS1 l1 l2 HS HW hcc hb1 q5 q6 q7 q8 q8' q9 qa;by_cases hv:cf x y<0
      ·rw[show (!decide (cf x y<0))=false by simp;omega];go_wp2;go_roundg (h-i)
       case measure=>omega
       case rel=>exact ⟨i,h,rfl,rfl,om,om,om,om,HS1,HI.o.left hi1 hj1 (by rw[hpk.o, <-Hx.o, <-Hy.o];exact HX.o.2 hv)⟩
      ·rw[show (!decide (cf x y<0))=true by simp;omega];go_wp2;go_roundg (j-(h+1))
       case measure=>omega
       case rel=>
        refine ⟨h+1,j,by go_num,rfl,om,om,om,om,HS1,HI.o.right hi1 hj1 ?_⟩;rw[hpk.o, <-Hx.o, <-Hy.o];cases hq:L x y
        ·rfl
        ·have:=HX.o.1 hq;exfalso;omega
     ·obtain rfl:i=j:=om
      obtain ⟨hcut,hmd,hsm⟩:=Srch.cut om om HMID.o H0.o (by rw[<- show p=mid+m-1 by omega];exact HI.o);obtain ⟨e,he⟩:=nm (mid+m-i);rw[<- he] at hcut hmd;have HCUT:=hD hcut;have hb:=hcut.las;have hb1:=hcut.sm;have hb2:=hcut.me;have hb3:=hcut.eb;have he1:e+i=mid+m:=om
      have hme:mid<=e:=om
      clear hcut he HI;have q3:(i:Int)<=(mid:Int):=om
      go_upto_region 39 with fail
      rw[show (mid:Int)+(m:Int)-(i:Int)=(e:Int) by omega];have HR:Hd (SWd V w0 g n f wr):=HS;clear HS q1 q2 q3;go_cut [185] (fun t wx=>∃tb:Bool,t= .bool tb/\Hd (tb=decide (i<m/\m<e))/\wx=wr)
      case first=>
       as_aux_lemma=>
        by_cases h1:i<m
        ·by_cases h2:m<e
         ·have z1:(i:Int)<(m:Int):=om
          have z2:(m:Int)<(e:Int):=om
          go_wp2;go_meet;exact ⟨true,rfl,(decide_eq_true ⟨h1,h2⟩).symm,rfl⟩
         ·have z1:(i:Int)<(m:Int):=om
          have z2:decide ((m:Int)<(e:Int))=false:=decide_eq_false om;have z3:¬(m:Int)<(e:Int):=om
          go_wp2;go_meet;exact ⟨false,rfl,(decide_eq_false (fun q=>h2 q.2)).symm,rfl⟩
        ·have z2:decide ((i:Int)<(m:Int))=false:=decide_eq_false om;have z3:¬(i:Int)<(m:Int):=om
         go_wp2;go_meet;exact ⟨false,rfl,(decide_eq_false (fun q=>h1 q.1)).symm,rfl⟩
      case rest=>
       as_aux_lemma=>
        obtain ⟨tb,rfl,HT,rfl⟩:=hcut;go_upto_if 185 with fail
        go_cut [] (fun wx=>Hd (SWd V w0 g n (rot f i m e) wx))
        case first=>
         as_aux_lemma=>
          cases tb
          ·go_wp2_with fail;go_meet;have hd:=of_decide_eq_false HT.o.symm;show SWd V w0 g n (rot f i m e) _;rw[rot_id f i m e om om om];exact HR.o
          ·have hd:=of_decide_eq_true HT.o.symm;have HK:=hD (rot_any V w0 g n cap (.func (.func c) #[] cb) i m e f _ hd.1 hd.2 om hn HR.o);clear HR;go_wp2_with fail;refine HK.o.mono ?_;rintro e' w1 ⟨rfl,f1,S1,rfl⟩;have HS:=hD S1;clear S1 HK;go_wp2_with fail;go_meet;exact HS
        case rest=>
         as_aux_lemma=>
          have HS:=hcut;clear hcut HR HT;have hH:=HCUT.o.halves HM.o hO;rw[hmd] at hH;have HH:=hD hH;obtain ⟨r,hr⟩:=nm (rot f i m e);have hsame:Hd (Same f r a b):=by show Same f r a b;rw[hr];exact (same_rot f hb1 hb2).more (out_rot f hb1 hb2) hb hb3
          have hout:Hd (Outw f r a b):=by show Outw f r a b;rw[hr];exact (out_rot f hb1 hb2).more hb hb3
          rw[<- hr] at HH HS;clear hH hr HCUT;go_upto_region 41 with fail
          go_cut [199] (fun t wx=>∃tb:Bool,t= .bool tb/\Hd (tb=decide (a<i/\i<mid))/\wx=wc)
          case first=>
           as_aux_lemma=>
            by_cases h1:a<i
            ·by_cases h2:i<mid
             ·have z1:(a:Int)<(i:Int):=om
              have z2:(i:Int)<(mid:Int):=om
              go_wp2;go_meet;exact ⟨true,rfl,(decide_eq_true ⟨h1,h2⟩).symm,rfl⟩
             ·have z1:(a:Int)<(i:Int):=om
              have z2:decide ((i:Int)<(mid:Int))=false:=decide_eq_false om;have z3:¬(i:Int)<(mid:Int):=om
              go_wp2;go_meet;exact ⟨false,rfl,(decide_eq_false (fun q=>h2 q.2)).symm,rfl⟩
            ·have z2:decide ((a:Int)<(i:Int))=false:=decide_eq_false om;have z3:¬(a:Int)<(i:Int):=om
             go_wp2;go_meet;exact ⟨false,rfl,(decide_eq_false (fun q=>h1 q.1)).symm,rfl⟩
          case rest=>
           as_aux_lemma=>
            obtain ⟨tb,rfl,HT,rfl⟩:=hcut;go_upto_if 199 with fail
            go_cut [] (fun wx=>∃g1:Nat->Int,Hd (SWd V w0 g n g1 wx)/\Hd (MrgOk L r g1 a mid))
            case first=>
             as_aux_lemma=>
              cases tb
              ·go_wp2_with fail;go_meet;have hd:=of_decide_eq_false HT.o.symm;refine ⟨r,HS,MrgOk.none ?_⟩;by_cases h1:a<i
               ·exact HH.o.2.2.2.1 om
               ·exact HH.o.2.2.1 om
              ·have hd:=of_decide_eq_true HT.o.symm;have HK:=hD (IH.o a i mid r _ om om (HH.o.1 hd.1 hd.2) HS.o);clear HS;go_wp2_with fail;refine HK.o.mono ?_;rintro e' w1 ⟨rfl,f1,S1,M1⟩;have HS:=hD S1;have HM1:=hD M1;clear S1 M1 HK;go_wp2_with fail;go_meet;exact ⟨f1,HS,HM1⟩
            case rest=>
             as_aux_lemma=>
              obtain ⟨g1,HS,HM1⟩:=hcut;clear HT;have hg:Hd (∀ k,mid<=k->k<b->g1 k=r k):=fun k h1 h2=>HM1.o.o k (.inr h1)
              go_upto_region 43 with fail
              go_cut [213] (fun t wx=>∃tb:Bool,t= .bool tb/\Hd (tb=decide (mid<e/\e<b))/\wx=wc)
              case first=>
               as_aux_lemma=>
                by_cases h1:mid<e
                ·by_cases h2:e<b
                 ·have z1:(mid:Int)<(e:Int):=om
                  have z2:(e:Int)<(b:Int):=om
                  go_wp2;go_meet;exact ⟨true,rfl,(decide_eq_true ⟨h1,h2⟩).symm,rfl⟩
                 ·have z1:(mid:Int)<(e:Int):=om
                  have z2:decide ((e:Int)<(b:Int))=false:=decide_eq_false om;have z3:¬(e:Int)<(b:Int):=om
                  go_wp2;go_meet;exact ⟨false,rfl,(decide_eq_false (fun q=>h2 q.2)).symm,rfl⟩
                ·have z2:decide ((mid:Int)<(e:Int))=false:=decide_eq_false om;have z3:¬(mid:Int)<(e:Int):=om
                 go_wp2;go_meet;exact ⟨false,rfl,(decide_eq_false (fun q=>h1 q.1)).symm,rfl⟩
              case rest=>
               as_aux_lemma=>
                obtain ⟨tb,rfl,HT,rfl⟩:=hcut;go_upto_if 213 with fail
                cases tb
                ·go_wp2;go_end0;have hd:=of_decide_eq_false HT.o.symm;refine ⟨rfl,g1,HS.o,MrgOk.join om om hsame.o hout.o HH.o.2.2.2.2.2.2 HM1.o (MrgOk.none (Srt.eq ?_ hg.o))⟩;by_cases h1:mid<e
                 ·exact HH.o.2.2.2.2.1 om
                 ·exact HH.o.2.2.2.2.2.1 om
                ·have hd:=of_decide_eq_true HT.o.symm;have HK:=hD (IH.o mid e b g1 _ om om ((HH.o.2.1 hd.1 hd.2).eq hg.o) HS.o);clear HS;go_wp2_with fail;refine HK.o.mono ?_;rintro e' w1 ⟨rfl,f1,S1,M1⟩;have HS:=hD S1;have HM2:=hD M1;clear S1 M1 HK;go_wp2_with fail;go_end0;exact ⟨rfl,f1,HS.o,MrgOk.join om om hsame.o hout.o HH.o.2.2.2.2.2.2 HM1.o HM2.o⟩
theorem smg_any (V:Int->Prop) (L:Int->Int->Bool) (hO:Ord L) (w0:World) (g n cap c:Nat) (cb:Array Value) (cf:Int->Int->Int) (hC:CmpOk V w0 g c cb cf) (hlt:∀x y,x<y->(cf y x<0↔L y x=true)) (hn:n<=1000000):
 ∀z,SmIH V L w0 g n cap c cb z
 |0=>fun a m b f w h=>absurd h om
 |z+1=>fun a m b f w h hbn hM S=>by
  have ih:=smg_any V L hO w0 g n cap c cb cf hC hlt hn z;have h1:=hM.am;have h2:=hM.mb;by_cases e1:m=a+1
  ·subst e1;exact smg_one V L hO w0 g n cap c cb cf hC hlt a b f w hbn hn hM S
  ·by_cases e2:b=m+1
   ·subst e2;exact smg_oneR V L hO w0 g n cap c cb cf hC hlt a m f w hbn hn om hM S
   ·exact smg_gen V L hO w0 g n cap c cb cf hC hlt a m b f w hbn hn om om hM S (fun a' m' b' f' w' h'=>ih a' m' b' f' w' om)
end Go.Proofs.YtikilcbpogfgkaaGreat
