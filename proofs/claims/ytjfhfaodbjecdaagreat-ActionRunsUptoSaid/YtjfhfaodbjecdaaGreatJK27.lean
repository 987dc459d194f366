/- Lemmas. -/
import Derived.Test.YtjfhfaodbjecdaaGreatJK26
set_option maxHeartbeats 6400000
set_option maxRecDepth 100000
namespace Go.Proofs.YtjfhfaodbjecdaaGreat
open Go.RowKit
variable {w W0:World} {g:Nat} {x y:Value} {c:List Value} {p:Prg} {act:Int}
def bw (w:World) (g:Nat) (b0 b1 b2 b3 b4 b5 b6 b7 b8:Value):World:=(((((((((w.setCell ⟨g,0,none⟩ b0).setCell ⟨g,1,none⟩ b1).setCell ⟨g,2,none⟩ b2).setCell ⟨g,3,none⟩ b3).setCell ⟨g,4,none⟩ b4).setCell ⟨g,5,none⟩ b5).setCell ⟨g,6,none⟩ b6).setCell ⟨g,7,none⟩ b7).setCell ⟨g,8,none⟩ b8)
theorem bU {t:TypeId} {a0 a1 a2 a3 a4 a5 a6 a7 a8:Value} (b0 b1 b2 b3 b4 b5 b6 b7 b8:Value) (h:w.heap[g]?=some (.cells #[a0,a1,a2,a3,a4,a5,a6,a7,a8] t (0,0))):(bw w g b0 b1 b2 b3 b4 b5 b6 b7 b8).heap[g]?=some (.cells #[b0,b1,b2,b3,b4,b5,b6,b7,b8] t (0,0)):=by
 have h0:(w.setCell ⟨g,0,none⟩ b0).heap[g]?=some (.cells #[b0,a1,a2,a3,a4,a5,a6,a7,a8] t (0,0)):=heap_setCell_same w g 0 _ t b0 h;have h1:((w.setCell ⟨g,0,none⟩ b0).setCell ⟨g,1,none⟩ b1).heap[g]?=some (.cells #[b0,b1,a2,a3,a4,a5,a6,a7,a8] t (0,0)):=heap_setCell_same (w.setCell ⟨g,0,none⟩ b0) g 1 _ t b1 h0;have h2:(((w.setCell ⟨g,0,none⟩ b0).setCell ⟨g,1,none⟩ b1).setCell ⟨g,2,none⟩ b2).heap[g]?=some (.cells #[b0,b1,b2,a3,a4,a5,a6,a7,a8] t (0,0)):=heap_setCell_same ((w.setCell ⟨g,0,none⟩ b0).setCell ⟨g,1,none⟩ b1) g 2 _ t b2 h1;have h3:((((w.setCell ⟨g,0,none⟩ b0).setCell ⟨g,1,none⟩ b1).setCell ⟨g,2,none⟩ b2).setCell ⟨g,3,none⟩ b3).heap[g]?=some (.cells #[b0,b1,b2,b3,a4,a5,a6,a7,a8] t (0,0)):=heap_setCell_same (((w.setCell ⟨g,0,none⟩ b0).setCell ⟨g,1,none⟩ b1).setCell ⟨g,2,none⟩ b2) g 3 _ t b3 h2;have h4:(((((w.setCell ⟨g,0,none⟩ b0).setCell ⟨g,1,none⟩ b1).setCell ⟨g,2,none⟩ b2).setCell ⟨g,3,none⟩ b3).setCell ⟨g,4,none⟩ b4).heap[g]?=some (.cells #[b0,b1,b2,b3,b4,a5,a6,a7,a8] t (0,0)):=heap_setCell_same ((((w.setCell ⟨g,0,none⟩ b0).setCell ⟨g,1,none⟩ b1).setCell ⟨g,2,none⟩ b2).setCell ⟨g,3,none⟩ b3) g 4 _ t b4 h3;have h5:((((((w.setCell ⟨g,0,none⟩ b0).setCell ⟨g,1,none⟩ b1).setCell ⟨g,2,none⟩ b2).setCell ⟨g,3,none⟩ b3).setCell ⟨g,4,none⟩ b4).setCell ⟨g,5,none⟩ b5).heap[g]?=some (.cells #[b0,b1,b2,b3,b4,b5,a6,a7,a8] t (0,0)):=heap_setCell_same (((((w.setCell ⟨g,0,none⟩ b0).setCell ⟨g,1,none⟩ b1).setCell ⟨g,2,none⟩ b2).setCell ⟨g,3,none⟩ b3).setCell ⟨g,4,none⟩ b4) g 5 _ t b5 h4;have h6:(((((((w.setCell ⟨g,0,none⟩ b0).setCell ⟨g,1,none⟩ b1).setCell ⟨g,2,none⟩ b2).setCell ⟨g,3,none⟩ b3).setCell ⟨g,4,none⟩ b4).setCell ⟨g,5,none⟩ b5).setCell ⟨g,6,none⟩ b6).heap[g]?=some (.cells #[b0,b1,b2,b3,b4,b5,b6,a7,a8] t (0,0)):=heap_setCell_same ((((((w.setCell ⟨g,0,none⟩ b0).setCell ⟨g,1,none⟩ b1).setCell ⟨g,2,none⟩ b2).setCell ⟨g,3,none⟩ b3).setCell ⟨g,4,none⟩ b4).setCell ⟨g,5,none⟩ b5) g 6 _ t b6 h5;have h7:((((((((w.setCell ⟨g,0,none⟩ b0).setCell ⟨g,1,none⟩ b1).setCell ⟨g,2,none⟩ b2).setCell ⟨g,3,none⟩ b3).setCell ⟨g,4,none⟩ b4).setCell ⟨g,5,none⟩ b5).setCell ⟨g,6,none⟩ b6).setCell ⟨g,7,none⟩ b7).heap[g]?=some (.cells #[b0,b1,b2,b3,b4,b5,b6,b7,a8] t (0,0)):=heap_setCell_same (((((((w.setCell ⟨g,0,none⟩ b0).setCell ⟨g,1,none⟩ b1).setCell ⟨g,2,none⟩ b2).setCell ⟨g,3,none⟩ b3).setCell ⟨g,4,none⟩ b4).setCell ⟨g,5,none⟩ b5).setCell ⟨g,6,none⟩ b6) g 7 _ t b7 h6;have h8:(((((((((w.setCell ⟨g,0,none⟩ b0).setCell ⟨g,1,none⟩ b1).setCell ⟨g,2,none⟩ b2).setCell ⟨g,3,none⟩ b3).setCell ⟨g,4,none⟩ b4).setCell ⟨g,5,none⟩ b5).setCell ⟨g,6,none⟩ b6).setCell ⟨g,7,none⟩ b7).setCell ⟨g,8,none⟩ b8).heap[g]?=some (.cells #[b0,b1,b2,b3,b4,b5,b6,b7,b8] t (0,0)):=heap_setCell_same ((((((((w.setCell ⟨g,0,none⟩ b0).setCell ⟨g,1,none⟩ b1).setCell ⟨g,2,none⟩ b2).setCell ⟨g,3,none⟩ b3).setCell ⟨g,4,none⟩ b4).setCell ⟨g,5,none⟩ b5).setCell ⟨g,6,none⟩ b6).setCell ⟨g,7,none⟩ b7) g 8 _ t b8 h7;exact h8
theorem cC (w:World) {k:Nat} (b0 b1 b2 b3 b4 b5 b6 b7 b8:Value) (h:k≠g):(bw w g b0 b1 b2 b3 b4 b5 b6 b7 b8).heap[k]?=w.heap[k]?:=by
 unfold bw;rw[aq h,aq h,aq h,aq h,aq h,aq h,aq h,aq h,aq h]
theorem oi (w:World) (g:Nat) (b0 b1 b2 b3 b4 b5 b6 b7 b8:Value):(bw w g b0 b1 b2 b3 b4 b5 b6 b7 b8).heap.size=w.heap.size:=by unfold bw;simp
theorem cM {B:Nat} {w0:World} (b0 b1 b2 b3 b4 b5 b6 b7 b8:Value) (h:Below B w0 w) (hg:B<=g):Below B w0 (bw w g b0 b1 b2 b3 b4 b5 b6 b7 b8):=by
 unfold bw;exact ((((((((h.setCell hg b0).setCell hg b1).setCell hg b2).setCell hg b3).setCell hg b4).setCell hg b5).setCell hg b6).setCell hg b7).setCell hg b8
structure RR (B A D:Nat) (n0 n1:Value) (nd:List Value) (W W':World):Prop where
 low:Below B W W'
 oth:∀k,k<W.heap.size->k≠A->k≠D->W'.heap[k]?=W.heap[k]?
 ka:NB W A n0 n1->NB W' A n0 n1
 kd:Bx W D nd->Bx W' D nd
 oa:(∃ x y,NB W A x y)->∃x y,NB W' A x y
 od:(∃ c,c.length=9/\Bx W D c)->∃c,c.length=9/\Bx W' D c
section
variable {B A D:Nat} {n0 n1:Value} {nd:List Value} {W W':World}
theorem RR.refl (B A D:Nat) (n0 n1:Value) (nd:List Value) (W:World):RR B A D n0 n1 nd W W:=⟨Below.refl _ _,fun _ _ _ _=>rfl,id,id,id,id⟩
theorem RR.of_below (hB:B<=W.heap.size) (hA:A<W.heap.size) (hD:D<W.heap.size) (hb:Bl W W'):RR B A D n0 n1 nd W W':=
 ⟨hb.mono hB,fun k hk _ _=>hb.block k hk,fun h=>h.below hb,fun h=>h.below hb,fun ⟨x,y,h⟩=>⟨x,y,h.below hb⟩,fun ⟨c,h1,h⟩=>⟨c,h1,h.below hb⟩⟩
theorem RR.putA (h:NB W A x y) (hBA:B<=A) (hAD:A≠D):RR B A D n0 n1 nd W ((W.setCell ⟨A,0,none⟩ n0).setCell ⟨A,1,none⟩ n1):=by
 have hp:=h.put n0 n1;have ho:∀k,k≠A->((W.setCell ⟨A,0,none⟩ n0).setCell ⟨A,1,none⟩ n1).heap[k]?=W.heap[k]?:=fun k hk=>bj W A 0 1 n0 n1 hk
 exact ⟨((Below.refl B W).setCell hBA _).setCell hBA _,fun k _ hk _=>ho k hk,fun _=>hp,fun hd=>(ho D (fun e=>hAD e.symm)).trans hd,fun _=>⟨_,_,hp⟩,fun ⟨c,h1,hd⟩=>⟨c,h1,(ho D (fun e=>hAD e.symm)).trans hd⟩⟩
theorem sd (h:c.length=9):∃a0 a1 a2 a3 a4 a5 a6 a7 a8,c=[a0,a1,a2,a3,a4,a5,a6,a7,a8]:=by
 match c,h with
 |[a0,a1,a2,a3,a4,a5,a6,a7,a8],_=>exact ⟨a0,a1,a2,a3,a4,a5,a6,a7,a8,rfl⟩
theorem RR.putD {b0 b1 b2 b3 b4 b5 b6 b7 b8:Value} (hc:c.length=9) (h:Bx W D c) (hBD:B<=D) (hAD:A≠D):
 RR B A D n0 n1 [b0,b1,b2,b3,b4,b5,b6,b7,b8] W (bw W D b0 b1 b2 b3 b4 b5 b6 b7 b8):=by
 obtain ⟨a0,a1,a2,a3,a4,a5,a6,a7,a8,rfl⟩:=sd hc;have hp:Bx (bw W D b0 b1 b2 b3 b4 b5 b6 b7 b8) D [b0,b1,b2,b3,b4,b5,b6,b7,b8]:=bU b0 b1 b2 b3 b4 b5 b6 b7 b8 h;have ho:∀k,k≠D->(bw W D b0 b1 b2 b3 b4 b5 b6 b7 b8).heap[k]?=W.heap[k]?:=fun k hk=>cC W b0 b1 b2 b3 b4 b5 b6 b7 b8 hk
 exact ⟨cM b0 b1 b2 b3 b4 b5 b6 b7 b8 (Below.refl B W) hBD,fun k _ _ hk=>ho k hk,fun ha=>(ho A hAD).trans ha,fun _=>hp,fun ⟨x,y,ha⟩=>⟨x,y,(ho A hAD).trans ha⟩,fun _=>⟨_,rfl,hp⟩⟩
structure RS (B A D:Nat) (W0 W:World):Prop where
 low:Below B W0 W
 oth:∀k,k<W0.heap.size->k≠A->k≠D->W.heap[k]?=W0.heap[k]?
 oa:∃x y,NB W A x y
 od:∃c,c.length=9/\Bx W D c
theorem RS.step (h:RS B A D W0 W) (hr:RR B A D n0 n1 nd W W'):RS B A D W0 W':=
 ⟨h.low.trans hr.low,fun k hk ha hd=>(hr.oth k (Nat.lt_of_lt_of_le hk h.low.size) ha hd).trans (h.oth k hk ha hd),hr.oa h.oa,hr.od h.od⟩
theorem RS.start (ha:NB W A x y) (hc:c.length=9) (hd:Bx W D c):RS B A D W W.drew:=⟨Below.drew br,fun _ _ _ _=>rfl,⟨_,_,ha⟩,⟨_,hc,hd⟩⟩
theorem RS.ltA (h:RS B A D W0 W):A<W.heap.size:=by obtain ⟨x,y,h⟩:=h.oa;exact h.lt
theorem RS.ltD (h:RS B A D W0 W):D<W.heap.size:=by obtain ⟨x,y,h⟩:=h.od;exact h.lt
end
def Tr.kids:Tr->List Tr
 | .leaf _=>[]
 | .un _ t=>[t]
 | .bin _ a b=>[b,a]
def gu (ts:List Tr):List Nod:=(ts.reverse.map Tr.flat).flatten
theorem qC:gu []=[]:=rfl
theorem fV (t:Tr) (ts:List Tr):gu (t::ts)=gu ts++t.flat:=by unfold gu;simp
theorem wn (a b:List Tr):gu (a++b)=gu b++gu a:=by unfold gu;simp
theorem Tr.flat_kids (t:Tr):t.flat=gu t.kids++[t.root]:=by cases t<;>simp[Tr.flat,Tr.kids,Tr.root,gu]
theorem wu (ts:List Tr):ts.length<=(gu ts).length:=by
 induction ts with
 |nil=>simp
 |cons t ts ih=>rw[fV,List.length_append,List.length_cons];have:=t.flat_ne;omega
theorem WTr.kids {t:Tr} {w:Int} (h:WTr p act t w):t.kids.length=fi t.root.op/\∀u∈t.kids,∃w',WTr p act u w':=by
 cases h with
 |leaf n h1 h2 h3 h4=>exact ⟨(tK h2).symm,fun u hu=>by cases hu⟩
 |un n t w hu h1 h2 h3 h4=>exact ⟨(xV hu).symm,fun u hq=>by simp[Tr.kids] at hq;subst hq;exact ⟨_,h1⟩⟩
 |bin n a b wa wb h1 h2 h3 h4 h5 h6 h7=>exact ⟨(vB (lF h6 h7) h2).symm,fun u hq=>by
  simp[Tr.kids] at hq;rcases hq with rfl|rfl
  ·exact ⟨_,h4⟩
  exact ⟨_,h3⟩⟩
theorem qD {wt:Int} (cl pre:List Nod) (t:Tr) (cp:Option Addr) (cn cc last:Nat) (w:World) (hc:eQ w (.slice cp cn cc) cl) (hlast:last<cl.length) (hb:cl.length<=1000000) (hpre:cl.take (last+1)=pre++t.flat) (ht:WTr p act t wt):
 Calls Tryz.prog 74 #[.slice cp cn cc, .int .i64 (last:Int)] w fun e w'=>e= .returned (.int .i64 (pre.length:Nat))/\w'=w:=by
 have HC:=hD hc;have HN:Hd (cn=cl.length):=hc.ln.1;have HB:=hD hb;have HL:=hD hlast;have HS0:Hd (cl.take (last+1)=pre++gu [t]/\(∀ u∈[t],∃w',WTr p act u w')/\last+1<=cl.length):=⟨by rw[hpre,fV,qC,List.nil_append],fun u hu=>by rw[List.mem_singleton] at hu;subst hu;exact ⟨_,ht⟩,hlast⟩;have HAS:=hD (fun op W=>bF op W);obtain ⟨R,hR⟩:=nm pre.length;rw[<- hR];have HR:=hD hR;clear hc hlast hb hpre ht hR;go_enter Tryz.func74,Tryz.ntmps74;go_wp2_with fail;go_loopw [1,5] (fun u v wr=>∃(j:Nat) (ts:List Tr),u= .int .i64 ((j:Int)-1)/\v= .int .i64 (ts.length:Nat)/\Hd (cl.take j=pre++gu ts/\(∀ u∈ts,∃w',WTr p act u w')/\j<=cl.length)/\wr=w) (fun u _ _=>(intOf u+1).toNat)
 case atStart=>exact ⟨last+1,[t],by congr 1;omega,rfl,HS0.o,rfl⟩
 case round=>
  obtain ⟨j,ts,rfl,rfl,HS,rfl⟩:=hrel;obtain ⟨e1,e2,e3⟩:=HS.o;cases ts with
  |nil=>
   have hj:j=R:=by
    have:=congrArg List.length e1;rw[qC,List.append_nil,List.length_take,Nat.min_eq_left e3] at this;rw[HR.o];exact this
   subst hj;have e5:wrap64 ((j:Int)-1+1)=(j:Int):=by rw[iP om (by have:=HB.o;omega)];omega
   have e6:wrap64 (j:Int)=(j:Int):=iP om (by have:=HB.o;omega);clear e1 e2 e3;have hz:¬(0:Int)<((([]:List Tr).length:Nat):Int):=by simp
   go_wp2_with fail;go_ret;exact ⟨by first|rfl|(rw[e5];rfl)|(rw[e6];rfl),by first|rfl|trivial⟩
  |cons t0 r=>
   have hlen:=wu (t0::r);have hjl:j=(pre++gu (t0::r)).length:=by rw[<- e1,List.length_take,Nat.min_eq_left e3]
   rw[List.length_append] at hjl;obtain ⟨m,rfl⟩:∃m,j=m+1:=⟨j-1,by simp at hlen;omega⟩;obtain ⟨w0,ht0⟩:=e2 t0 sm;have hm:m<cl.length:=om;have hnode:cl[m]?=some t0.root:=by
    have h1:(cl.take (m+1))[m]?=some t0.root:=by
     rw[e1,fV,t0.flat_kids, <-List.append_assoc, <-List.append_assoc];have hl:m=((pre++gu r)++gu t0.kids).length:=by
      exact Dw
     rw[hl,List.getElem?_append_right lr];simp
    rwa [List.getElem?_take_of_lt om] at h1
   have htk:cl.take m=pre++gu (t0.kids++r):=by
    have h1:(cl.take (m+1)).take m=cl.take m:=by rw[List.take_take,Nat.min_eq_left om]
    rw[<- h1,e1,fV,t0.flat_kids, <-List.append_assoc, <-List.append_assoc,wn, <-List.append_assoc];refine List.take_left' ?_;exact Dw
   have HNX:Hd (cl.take m=pre++gu (t0.kids++r)/\(∀ u∈t0.kids++r,∃w',WTr p act u w')/\m<=cl.length):=⟨htk,fun u hu=>by
    rcases List.mem_append.1 hu with h|h
    ·exact ht0.kids.2 u h
    ·exact e2 u (by simp[h]),om⟩
   obtain ⟨b,o,hps,-,y0,-⟩:=HC.o.get hnode;have HK:Hd ((t0.kids++r).length=r.length+fi t0.root.op):=by show _=_;rw[List.length_append,ht0.kids.1];omega
   obtain ⟨op,hop⟩:=nm t0.root.op;rw[<- hop] at y0 HK;have hmi:(m:Int)<(cn:Int):=by have:=HN.o;omega
   obtain ⟨rl,hrl⟩:=nm r.length;have hrb:rl<=1000000:=by rw[List.length_cons] at hlen;have:=HB.o;omega
   have has:fi op<=2:=by unfold fi;split<;>(try split)<;>omega
   obtain ⟨ak,hak⟩:=nm (fi op);have HAK:Hd (∀ W,Calls Tryz.prog 73 #[.int .u8 op] W fun e w'=>e= .returned (.int .i64 ((ak:Nat):Int))/\w'=W):=fun W=>by rw[hak];exact HAS.o op W
   rw[<- hak] at has HK;rw[<- hrl] at HK;have hm1:(((m+1:Nat):Int)-1)=(m:Int):=om;have hl1:(((t0::r).length:Nat):Int)=((rl+1:Nat):Int):=by rw[List.length_cons,hrl]
   rw[hm1,hl1];have hmb:m<=1000000:=by have:=HB.o;omega
   have hpos:(0:Int)<((rl+1:Nat):Int):=om;have HPS:=hD hps;have hsub:((rl+1:Nat):Int)-1=(rl:Int):=om;subst hps;clear e1 e2 e3 hlen hjl ht0 hm hnode htk hop hrl hak hm1 hl1;go_wp2_with (go_at_call 73;(with_reducible refine (HAK.o _).mono ?_);rintro e w1 ⟨rfl,rfl⟩);go_roundw
   case rel=>exact ⟨m,t0.kids++r,by first|rfl|(congr 1;omega),by rw[HK.o];first|rfl|(congr 1;first|rfl|omega|go_num),HNX.o,by first|rfl|trivial⟩
   case measure=>first|(simp[intOf];done)|(simp[intOf];omega)
end Go.Proofs.YtjfhfaodbjecdaaGreat
