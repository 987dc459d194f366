/- Lemmas. -/
import Derived.Test.YtjfhfaodbjecdaaGreatJK32
set_option maxHeartbeats 12800000
set_option maxRecDepth 100000
namespace Go.Proofs.YtjfhfaodbjecdaaGreat
open Go.RowKit
variable {wt:Int} {w W:World} {b E sz:Nat} {xs:List Value}
theorem iG {α:Type} {cl L:List α} {last:Nat} {n:α} (hlast:last<cl.length) (h:cl.take (last+1)=L++[n]):cl[last]?=some n/\cl.take last=L:=by
 have hl:L.length=last:=by
  have:=congrArg List.length h;rw[List.length_append,List.length_singleton,List.length_take,Nat.min_eq_left om] at this;omega
 refine ⟨?_,?_⟩
 ·have h1:(cl.take (last+1))[last]?=some n:=by rw[h,List.getElem?_append_right om,hl];simp
  rwa [List.getElem?_take_of_lt om] at h1
 have h1:(cl.take (last+1)).take last=cl.take last:=by rw[List.take_take,Nat.min_eq_left om]
 rw[<- h1,h,List.take_left' hl]
section
variable {p:Prg} {act:Int} {x:Pkt} {args:List Nat} {cl:List Nod} {q:KS} {cp gp:Option Addr} {cn cc gn gc:Nat}
def CM (p:Prg) (act:Int) (x:Pkt) (args:List Nat) (cl:List Nod) (q:KS) (cp:Option Addr) (cn cc:Nat) (gp:Option Addr) (gn gc:Nat) (t:Tr):Prop:=
 ∀(w:World) (dr se ac:Bool) (eg:Int) (pre:List Nod) (last:Nat),VEnv p act x args cl q cp cn cc gp gn gc w->last<cl.length->cl.take (last+1)=pre++t.flat->
  Calls Tryz.prog 50 #[kV q x.port dr se eg ac, .slice cp cn cc, .int .i64 (last:Int), .slice gp gn gc] w fun e w'=>AnsV (pH x args t) (kV q x.port dr se eg (ac||iM x t)) e/\Bl w w'
theorem wC {t:Tr} (ht:WTr p act t wt):CM p act x args cl q cp cn cc gp gn gc t:=by
 induction ht with
 |leaf n h1 h2 h3 h4=>
  intro w dr se ac eg pre last hE hlast hpre;obtain ⟨hn,-⟩:=iG hlast (show cl.take (last+1)=pre++[n] from hpre);obtain ⟨op,k,na,nb,v⟩:=n;dsimp only at h1 h2 h3 h4;have hx:=hE.hx;unfold pH iM eO ir;rcases (show op=1\/op=2\/op=3\/op=4\/op=5\/op=6 by omega) with rfl|rfl|rfl|rfl|rfl|rfl
  ·have h:=um k na nb v last dr se ac eg hE hn;simpa using h
  ·obtain ⟨a1,a2,a3,a4⟩:=mv h3 h4 rfl;dsimp only at a1 a2 a3 a4;obtain ⟨hh,rfl⟩:∃z:Nat,na=(z:Int):=⟨na.toNat,om⟩;obtain ⟨ff,rfl⟩:∃z:Nat,nb=(z:Int):=⟨nb.toNat,om⟩;rw[Int.toNat_natCast] at a4;have b1:=aA (l:=x.fields) (j:=hh) [] (by have:=hx.f;omega);have b2:=hx.fl hh _ b1;have b3:=aA (l:=x.fields.getD hh []) (j:=ff) 0 om;have b4:=aA (l:=x.valid) (j:=hh) false (by have:=hx.v;omega);have h:=ut k v last dr se ac eg hE hh ff _ _ _ b1 b3 b4 hn;have hthere:fJ x (hh:Int) (ff:Int):=⟨om,by have:=hx.v;omega,by have:=hx.f;omega,om,by rw[Int.toNat_natCast];omega⟩;have e1:=hx.get hthere;rw[Int.toNat_natCast,Int.toNat_natCast] at e1;have e2:tM x (hh:Int) (ff:Int)= !x.valid.getD hh false:=by unfold tM;rw[decide_eq_true hthere,Int.toNat_natCast,Bool.true_and]
   simp only[show ¬(2:Int)=1 by decide,if_false,if_true,decide_true,Bool.true_and,e1,e2];exact h
  ·obtain ⟨a1,a2⟩:=ot h3 h4 rfl;dsimp only at a1 a2;obtain ⟨hh,rfl⟩:∃z:Nat,na=(z:Int):=⟨na.toNat,om⟩;have b1:=aA (l:=x.metas) (j:=hh) 0 (by have:=hx.m;omega);have h:=wy k nb v last dr se ac eg hE hh _ b1 hn;simp only[show ¬(3:Int)=1 by decide,show ¬(3:Int)=2 by decide,if_false,if_true,decide_false,Bool.false_and,Bool.or_false,Int.toNat_natCast];exact h
  ·obtain ⟨a1,a2,a3,a4⟩:=mw h3 h4 rfl;dsimp only at a3 a4;obtain ⟨hh,rfl⟩:∃z:Nat,na=(z:Int):=⟨na.toNat,om⟩;have b1:=aA (l:=args) (j:=hh) 0 (by have:=hE.hargs a1 a2;omega);have h:=uq k nb v last dr se ac eg hE hh _ b1 hn;simp only[show ¬(4:Int)=1 by decide,show ¬(4:Int)=2 by decide,show ¬(4:Int)=3 by decide,if_false,if_true,decide_false,Bool.false_and,Bool.or_false,Int.toNat_natCast];exact h
  ·have h:=wA k na nb v last dr se ac eg hE hn;simp only[show ¬(5:Int)=1 by decide,show ¬(5:Int)=2 by decide,show ¬(5:Int)=3 by decide,show ¬(5:Int)=4 by decide,if_false,if_true,decide_false,Bool.false_and,Bool.or_false];exact h
  obtain ⟨a1,a2⟩:=mA h3 h4 rfl;dsimp only at a1 a2;obtain ⟨hh,rfl⟩:∃z:Nat,na=(z:Int):=⟨na.toNat,om⟩;have b4:=aA (l:=x.valid) (j:=hh) false (by have:=hx.v;omega);have h:=us k nb v last dr se ac eg hE hh _ b4 hn;simp only[show ¬(6:Int)=1 by decide,show ¬(6:Int)=2 by decide,show ¬(6:Int)=3 by decide,show ¬(6:Int)=4 by decide,show ¬(6:Int)=5 by decide,if_false,decide_false,Bool.false_and,Bool.or_false,Int.toNat_natCast];exact h
 |un n t w0 hu h1 h2 h3 h4 ih=>
  intro w dr se ac eg pre last hE hlast hpre;obtain ⟨hn,htk⟩:=iG (L:=pre++t.flat) hlast (by rw[hpre,Tr.flat,List.append_assoc]);have hfl:=t.flat_ne;have hll:(pre++t.flat).length=last:=by rw[<- htk,List.length_take,Nat.min_eq_left om]
  rw[List.length_append] at hll;obtain ⟨op,k,na,nb,v⟩:=n;dsimp only at h2 h3 h4;have hop:op=7\/op=8\/op=9\/op=13\/op=14:=hu;have hroot:=h1.root;have h9:op=9->0<=nb/\nb<=na/\na<128:=by
   rintro rfl;have hw:=dS.1 hroot.2;have hk:=dS.1 h4;unfold dm at h3;dsimp only at h3;simp only[show ¬((9:Int)=7\/(9:Int)=8) by decide,show ¬((9:Int)=13\/(9:Int)=14) by decide,if_false,if_true] at h3;split at h3<;>omega
  obtain ⟨l1,rfl⟩:∃l1,last=l1+1:=⟨last-1,om⟩;have h:=Ad op k na nb v (l1+1) (pH x args t) dr se ac (ac||iM x t) eg hE hop h9 hn om (vE x args t) (fun W hb=>by
   have:=ih W dr se ac eg pre l1 (hE.below hb) om htk
   rwa [show (((l1+1:Nat):Int)-1)=(l1:Int) by omega])
  exact h
 |bin n a b wa wb h1 hu h2 h3 h4 h5 h6 iha ihb=>
  intro w dr se ac eg pre last hE hlast hpre;obtain ⟨hn,htk⟩:=iG (L:=pre++a.flat++b.flat) (n:=n) hlast (by rw[hpre,Tr.flat];simp);have hfa:=a.flat_ne;have hfb:=b.flat_ne;have hll:(pre++a.flat++b.flat).length=last:=by rw[<- htk,List.length_take,Nat.min_eq_left om]
  rw[List.length_append,List.length_append] at hll;have hop:=lF h5 h6;obtain ⟨op,k,na,nb,v⟩:=n;dsimp only at h1 h4 h5 h6 hop;have hop2:op=10\/op=11\/op=12\/op=15\/op=16\/op=17\/op=18\/op=19\/op=20:=by
   have hu':¬(op=7\/op=8\/op=9\/op=13\/op=14):=hu;omega
  obtain ⟨l1,rfl⟩:∃l1,last=l1+1:=⟨last-1,om⟩;have hroot:cl[l1]?=some b.root:=by
   have e:=b.flat_kids;exact (iG (L:=pre++a.flat++gu b.kids) (last:=l1) om (by rw[htk,e,List.append_assoc (pre++a.flat)])).1
  have hms:cl.take (pre.length+a.flat.length)=pre++a.flat:=by
   have e1:(cl.take (l1+1)).take (pre.length+a.flat.length)=cl.take (pre.length+a.flat.length):=by rw[List.take_take,Nat.min_eq_left om]
   rw[<- e1,htk,List.take_left' (by rw[List.length_append])]
  obtain ⟨m1,hm1⟩:∃m1,pre.length+a.flat.length=m1+1:=⟨pre.length+a.flat.length-1,om⟩;have h:=yC op k na nb b.root.w v (l1+1) (m1+1) (pH x args a) (pH x args b) b.root dr se ac (ac||iM x a) (ac||iM x a||iM x b) eg hE hop2 hn om (by rw[Nat.add_sub_cancel];exact hroot) rfl (vE x args a) (vE x args b) om
   (fun W hb=>by
    have:=qD (p:=p) (act:=act) cl (pre++a.flat) b cp cn cc l1 W (hE.below hb).hc om hE.hl htk h3;rw[List.length_append,hm1] at this
    rwa [show (((l1+1:Nat):Int)-1)=(l1:Int) by omega])
   (fun W hb=>by
    have:=iha W dr se ac eg pre m1 (hE.below hb) om (by rw[<- hm1];exact hms)
    rwa [show (((m1+1:Nat):Int)-1)=(m1:Int) by omega])
   (fun W hb=>by
    have:=ihb W dr se (ac||iM x a) eg (pre++a.flat) l1 (hE.below hb) om htk
    rwa [show (((l1+1:Nat):Int)-1)=(l1:Int) by omega])
   om
  unfold pH iM;rw[<- Bool.or_assoc];exact h
end
theorem three (o0 o1 o2:Obj):∀W,W=(((w.alloc o0).alloc o1).alloc o2)->W.heap[w.heap.size]?=some o0/\W.heap[w.heap.size+1]?=some o1/\W.heap[w.heap.size+1+1]?=some o2/\Bl w W:=by
 rintro W rfl;have b:Bl w (((w.alloc o0).alloc o1).alloc o2):=bL;refine ⟨?_,?_,?_,b⟩
 ·rw[Below.heap_alloc _ _ _ (by simp;try omega),Below.heap_alloc _ _ _ sm];exact ag _ _
 ·have:=ag (w.alloc o0) o1;rw[World.size_alloc] at this;rw[Below.heap_alloc _ _ _ sm];exact this
 have:=ag ((w.alloc o0).alloc o1) o2;rw[World.size_alloc,World.size_alloc] at this;exact this
theorem eH {p:Prg} {act:Int} {x:Pkt} {args:List Nat} {cl:List Nod} {q:KS} {cp gp:Option Addr} {cn cc gn gc:Nat} (dr se ac:Bool) (eg:Int) (hE:VEnv p act x args cl q cp cn cc gp gn gc w) (hw:aL p act cl=some wt):
 Calls Tryz.prog 22 #[kV q x.port dr se eg ac, .slice cp cn cc, .slice gp gn gc] w fun e w'=>AnsV (ct x args cl) (kV q x.port dr se eg (ac||co x cl)) e/\Bl w w':=by
 obtain ⟨t,rfl,ht⟩:=kK hw;rw[lT x args ht,ud x ht];have hne:=t.flat_ne;have hcn:cn=t.flat.length:=hE.hc.ln.1;obtain ⟨l1,hl1⟩:∃l1,cn=l1+1:=⟨cn-1,om⟩;have hlb:l1<=1000000:=by have:=hE.hl;omega
 subst hl1;obtain ⟨c0,hc0⟩:=nm ((pH x args t/B:Nat):Int);obtain ⟨c1,hc1⟩:=nm ((pH x args t%B:Nat):Int);obtain ⟨ab,hab⟩:=nm (ac||iM x t);rw[<- hab];have HV:Hd (∀ W,Bl w W->Calls Tryz.prog 50 #[kV q x.port dr se eg ac, .slice cp (l1+1) cc, .int .i64 (l1:Int), .slice gp gn gc] W fun e w'=>fW c0 c1 (kV q x.port dr se eg ab) e/\Bl W w'):=fun W hb=>by
  rw[hc0,hc1,hab];exact wC (p:=p) (act:=act) ht W dr se ac eg [] l1 (hE.below hb) om (by rw[List.nil_append];exact List.take_of_length_le om)
 have HE:=hD (And.intro hc0 hc1);generalize x.port=po at*;clear hE hw ht hne hcn hab hc0 hc1;unfold kV at HV⊢;go_enter Tryz.func22,Tryz.ntmps22;go_upto_region 1 with fail;obtain ⟨W0,hW0⟩:=nm (((w.alloc (.cells (kA q po dr se eg ac) 40)).alloc (.cells #[.int .u64 0, .int .u64 0] 60)).alloc (.cells zA 40));obtain ⟨z0,z1,z2,zb⟩:=three _ _ _ W0 hW0;have HX0:Hd (Bx W0 (w.heap.size) (kL q po dr se eg ac)):=z0;have HR0:Hd (NB W0 (w.heap.size+1) (.int .u64 0) (.int .u64 0)):=z1;have HZ0:Hd (Bx W0 (w.heap.size+1+1) zL):=z2;have HB0:=hD zb;rw[<- hW0];clear hW0 z0 z1 z2 zb;obtain ⟨e0,e1,e2,e3,e4,e5,e6,e7,e8⟩:=Bx.c9 HX0.o;go_wp2_with (go_at_call 50;(with_reducible refine (HV.o _ HB0.o).mono ?_);rintro e w2 ⟨he,hb2⟩;unfold fW at he;subst he;have HR2:=hD (HR0.o.below hb2);have HZ2:=hD (HZ0.o.below hb2);have HB2:=hD (HB0.o.trans (hb2.mono HB0.o.size));have x0:=HR2.o.c0;have x1:=HR2.o.c1;have x2:=HR2.o.free 0;have x3:=HR2.o.free 1;obtain ⟨d0,d1,d2,d3,d4,d5,d6,d7,d8⟩:=HZ2.o.c9;obtain ⟨f0,f1,f2,f3,f4,f5,f6,f7,f8⟩:=HZ2.o.f9;clear hb2);obtain ⟨W3,hW3⟩:=nm ((w2.setCell ⟨w.heap.size+1,0,none⟩ (.int .u64 c0)).setCell ⟨w.heap.size+1,1,none⟩ (.int .u64 c1));have hR3:NB W3 (w.heap.size+1) (.int .u64 c0) (.int .u64 c1):=by rw[hW3];exact HR2.o.put _ _
 have hZ3:Bx W3 (w.heap.size+1+1) zL:=by rw[hW3];exact (HZ2.o.other om _).other om _
 have hB3:Bl w W3:=by rw[hW3];exact (HB2.o.setCell (by show w.heap.size<=w.heap.size+1;omega) _).setCell (by show w.heap.size<=w.heap.size+1;omega) _
 rw[<- hW3, <-bw];clear hW3 x0 x1 x2 x3 d0 f0 e0 d1 f1 e1 d2 f2 e2 d3 f3 e3 d4 f4 e4 d5 f5 e5 d6 f6 e6 d7 f7 e7 d8 f8 e8;have p6:Bx (bw W3 (w.heap.size+1+1) (.int .i64 po) (.slice q.rp q.rn q.rc) (.slice q.vp q.vn q.vc) (.slice q.fp q.fn q.fc) (.slice q.mp q.mn q.mc) (.bool dr) (.bool se) (.int .i64 eg) (.bool ab)) (w.heap.size+1+1) (kL q po dr se eg ab):=bU (.int .i64 po) (.slice q.rp q.rn q.rc) (.slice q.vp q.vn q.vc) (.slice q.fp q.fn q.fc) (.slice q.mp q.mn q.mc) (.bool dr) (.bool se) (.int .i64 eg) (.bool ab) hZ3;have p5:NB (bw W3 (w.heap.size+1+1) (.int .i64 po) (.slice q.rp q.rn q.rc) (.slice q.vp q.vn q.vc) (.slice q.fp q.fn q.fc) (.slice q.mp q.mn q.mc) (.bool dr) (.bool se) (.int .i64 eg) (.bool ab)) (w.heap.size+1) (.int .u64 c0) (.int .u64 c1):=(cC W3 (g:=w.heap.size+1+1) (k:=w.heap.size+1) (.int .i64 po) (.slice q.rp q.rn q.rc) (.slice q.vp q.vn q.vc) (.slice q.fp q.fn q.fc) (.slice q.mp q.mn q.mc) (.bool dr) (.bool se) (.int .i64 eg) (.bool ab) om).trans hR3;have hB9:=cM (g:=w.heap.size+1+1) (.int .i64 po) (.slice q.rp q.rn q.rc) (.slice q.vp q.vn q.vc) (.slice q.fp q.fn q.fc) (.slice q.mp q.mn q.mc) (.bool dr) (.bool se) (.int .i64 eg) (.bool ab) hB3 om;generalize bw W3 (w.heap.size+1+1) (.int .i64 po) (.slice q.rp q.rn q.rc) (.slice q.vp q.vn q.vc) (.slice q.fp q.fn q.fc) (.slice q.mp q.mn q.mc) (.bool dr) (.bool se) (.int .i64 eg) (.bool ab)=w9 at*;obtain ⟨m0,m1,m2,m3,m4,m5,m6,m7,m8⟩:=Bx.c9 p6;have b0:=p5.c0;have b1:=p5.c1;refine bodyPost_ret (v:= .tuple #[.agg #[.int .u64 c0, .int .u64 c1], .agg (kA q po dr se eg ab)]) ?_ rfl ⟨?_,hB9⟩
 ·simp[results,Tryz.results22,go_sem,m0,m1,m2,m3,m4,m5,m6,m7,m8,b0,b1]
 exact AnsV.of HE.o.1 HE.o.2 rfl
def N0:Obj:= .cells #[.int .u64 0, .int .u64 0] 60 (0,0)
def N1 (c0 c1:Int):Obj:= .cells #[.int .u64 c0, .int .u64 c1] 60 (0,0)
def P0:Obj:= .cells #[.int .i64 0, .slice none 0 0, .slice none 0 0, .slice none 0 0, .slice none 0 0, .bool false, .bool false, .int .i64 0, .bool false] 40 (0,0)
def P1 (c:List Value):Obj:= .cells c.toArray 40 (0,0)
structure KR (b:Nat) (c0 c1:Int) (c:List Value) (W W':World):Prop where
 low:Below b W W'
 nn:∀g:Nat,b<=g->(W.heap[g]?=some N0\/W.heap[g]?=some (N1 c0 c1))->(W'.heap[g]?=some N0\/W'.heap[g]?=some (N1 c0 c1))
 n1:∀g:Nat,b<=g->W.heap[g]?=some (N1 c0 c1)->W'.heap[g]?=some (N1 c0 c1)
 pp:∀g:Nat,b<=g->(W.heap[g]?=some P0\/W.heap[g]?=some (P1 c))->(W'.heap[g]?=some P0\/W'.heap[g]?=some (P1 c))
 p1:∀g:Nat,b<=g->W.heap[g]?=some (P1 c)->W'.heap[g]?=some (P1 c)
section
variable {b:Nat} {c0 c1:Int} {c:List Value} {W W':World}
theorem KR.refl (b:Nat) (c0 c1:Int) (c:List Value) (W:World):KR b c0 c1 c W W:=⟨Below.refl _ _,fun _ _=>id,fun _ _=>id,fun _ _=>id,fun _ _=>id⟩
theorem cB {g:Nat} {o:Obj} (h:W.heap[g]?=some o):g<W.heap.size:=(bV h).1
theorem KR.of_below (hb:b<=W.heap.size) (h:Bl W W'):KR b c0 c1 c W W':=by
 have k:∀(g:Nat) (o:Obj),W.heap[g]?=some o->W'.heap[g]?=some o:=fun g o e=>(h.block g (cB e)).trans e
 exact ⟨h.mono hb,fun g _ e=>e.imp (k g _) (k g _),fun g _=>k g _,fun g _ e=>e.imp (k g _) (k g _),fun g _=>k g _⟩
theorem wD (c0 c1:Int) (c:List Value):N0≠P0/\N0≠P1 c/\N1 c0 c1≠P0/\N1 c0 c1≠P1 c:=by
 have hT:(60:TypeId)≠40:=by decide
 refine ⟨?_,?_,?_,?_⟩;all_goals intro h
 all_goals simp only[N0,N1,P0,P1,Obj.cells.injEq] at h
 all_goals exact hT h.2.1
theorem KR.storeN {g:Nat} (hg:b<=g) (h:W.heap[g]?=some N0\/W.heap[g]?=some (N1 c0 c1)):KR b c0 c1 c W ((W.setCell ⟨g,0,none⟩ (.int .u64 c0)).setCell ⟨g,1,none⟩ (.int .u64 c1))/\((W.setCell ⟨g,0,none⟩ (.int .u64 c0)).setCell ⟨g,1,none⟩ (.int .u64 c1)).heap[g]?=some (N1 c0 c1):=by
 have hp:((W.setCell ⟨g,0,none⟩ (.int .u64 c0)).setCell ⟨g,1,none⟩ (.int .u64 c1)).heap[g]?=some (N1 c0 c1):=by
  rcases h with h|h
  ·exact NB.put (show NB W g _ _ from h) _ _
  exact NB.put (show NB W g _ _ from h) _ _
 have ho:∀k,k≠g->((W.setCell ⟨g,0,none⟩ (.int .u64 c0)).setCell ⟨g,1,none⟩ (.int .u64 c1)).heap[k]?=W.heap[k]?:=fun k hk=>bj W g 0 1 _ _ hk
 obtain ⟨d1,d2,d3,d4⟩:=wD c0 c1 c;refine ⟨⟨((Below.refl b W).setCell hg _).setCell hg _,fun k hk e=>?_,fun k hk e=>?_,fun k hk e=>?_,fun k hk e=>?_⟩,hp⟩
 ·by_cases q:k=g
  ·subst q;exact .inr hp
  rw[ho k q];exact e
 ·by_cases q:k=g
  ·subst q;exact hp
  rw[ho k q];exact e
 ·by_cases q:k=g
  ·subst q;exfalso;rcases h with h|h<;>rcases e with e|e<;>rw[h] at e<;>simp only[Option.some.injEq] at e
   ·exact d1 e
   ·exact d2 e
   ·exact d3 e
   exact d4 e
  rw[ho k q];exact e
 by_cases q:k=g
 ·subst q;exfalso;rcases h with h|h<;>rw[h] at e<;>simp only[Option.some.injEq] at e
  ·exact d2 e
  exact d4 e
 rw[ho k q];exact e
theorem KR.storeP {g:Nat} {b0 b1 b2 b3 b4 b5 b6 b7 b8:Value} (hg:b<=g) (h:W.heap[g]?=some P0\/W.heap[g]?=some (P1 [b0,b1,b2,b3,b4,b5,b6,b7,b8])):
 KR b c0 c1 [b0,b1,b2,b3,b4,b5,b6,b7,b8] W (bw W g b0 b1 b2 b3 b4 b5 b6 b7 b8)/\(bw W g b0 b1 b2 b3 b4 b5 b6 b7 b8).heap[g]?=some (P1 [b0,b1,b2,b3,b4,b5,b6,b7,b8]):=by
 have hp:(bw W g b0 b1 b2 b3 b4 b5 b6 b7 b8).heap[g]?=some (P1 [b0,b1,b2,b3,b4,b5,b6,b7,b8]):=by
  rcases h with h|h
  ·exact bU b0 b1 b2 b3 b4 b5 b6 b7 b8 h
  exact bU b0 b1 b2 b3 b4 b5 b6 b7 b8 h
 have ho:∀k,k≠g->(bw W g b0 b1 b2 b3 b4 b5 b6 b7 b8).heap[k]?=W.heap[k]?:=fun k hk=>cC W b0 b1 b2 b3 b4 b5 b6 b7 b8 hk
 obtain ⟨d1,d2,d3,d4⟩:=wD c0 c1 [b0,b1,b2,b3,b4,b5,b6,b7,b8];refine ⟨⟨cM b0 b1 b2 b3 b4 b5 b6 b7 b8 (Below.refl b W) hg,fun k hk e=>?_,fun k hk e=>?_,fun k hk e=>?_,fun k hk e=>?_⟩,hp⟩
 ·by_cases q:k=g
  ·subst q;exfalso;rcases h with h|h<;>rcases e with e|e<;>rw[h] at e<;>simp only[Option.some.injEq] at e
   ·exact d1 e.symm
   ·exact d3 e.symm
   ·exact d2 e.symm
   exact d4 e.symm
  rw[ho k q];exact e
 ·by_cases q:k=g
  ·subst q;exfalso;rcases h with h|h<;>rw[h] at e<;>simp only[Option.some.injEq] at e
   ·exact d3 e.symm
   exact d4 e.symm
  rw[ho k q];exact e
 ·by_cases q:k=g
  ·subst q;exact .inr hp
  rw[ho k q];exact e
 by_cases q:k=g
 ·subst q;exact hp
 rw[ho k q];exact e
theorem yD {g:Nat} (h:W.heap[g]?=some N0\/W.heap[g]?=some (N1 c0 c1)):∃x y,NB W g x y:=by
 rcases h with h|h
 ·exact ⟨_,_,h⟩
 exact ⟨_,_,h⟩
theorem th {g:Nat} (hc:c.length=9) (h:W.heap[g]?=some P0\/W.heap[g]?=some (P1 c)):∃d,d.length=9/\Bx W g d:=by
 rcases h with h|h
 ·exact ⟨zL,rfl,h⟩
 exact ⟨c,hc,h⟩
end
theorem jb {n:Nat} {v:Value} (h:w.ownsRow b E sz v n xs):∃p c,v= .slice p n c:=by
 obtain ⟨-,⟨rfl,rfl⟩|⟨g,cap,cur,rfl,-⟩⟩:=h
 ·exact ⟨_,_,rfl⟩
 exact ⟨_,_,rfl⟩
theorem kX {m:Nat} {v:Value} (h:w.ownsRow b E sz v (0+m) ([]++xs)):w.ownsRow b E sz v m xs:=by
 rw[Nat.zero_add,List.nil_append] at h;exact h
theorem pj {B:Nat} {W1:World} {g i:Nat} {z:Value} (hb:Bl W W1) (hg:g<B):∀k,B<=k->k<W.heap.size->(W1.setCell ⟨g,i,none⟩ z).heap[k]?=W.heap[k]?:=
 fun k h1 h2=>(heap_setCell_other W1 _ k z (by show k≠g;omega)).trans (hb.block k h2)
def Bg (po eg:Int) (dr se ac:Bool) (base:Nat) (w:World) (x:Pkt) (e:Ending):Prop:=∃r v f m fs,e= .returned (.agg #[.int .i64 po,r,v,f,m, .bool dr, .bool se, .int .i64 eg, .bool ac])/\PktO base w x r v f m fs
theorem iH (q:KS) (x:Pkt) (po eg:Int) (dr se ac:Bool) (w:World) (hq:KOk w q x) (hS:PktSm x):
 Calls Tryz.prog 7 #[kV q po dr se eg ac] w fun e w'=>Bg po eg dr se ac w.heap.size w' x e/\Bl w w':=by
 have HQ:=hD hq;have HSM:=hD hS;have HN:Hd (q.rn=x.rest.length/\q.vn=x.valid.length/\q.fn=x.fields.length/\q.mn=x.metas.length):=⟨hq.r.ln.1,hq.v.ln.1,hq.f.ln.1,hq.m.ln.1⟩;clear hq hS;unfold kV;go_enter Tryz.func7,Tryz.ntmps7;go_upto_region 1 with fail;obtain ⟨W0,hW0⟩:=nm ((w.alloc (.cells (kA q po dr se eg ac) 40)).alloc (.cells zA 40));have HB0:Hd (Bl w W0):=by show Below _ _ _;rw[hW0];exact bL
 have HX0:Hd (Bx W0 w.heap.size (kL q po dr se eg ac)):=by show _=_;rw[hW0,Below.heap_alloc _ _ _ sm];exact ag _ _
 have HZ0:Hd (Bx W0 (w.heap.size+1) zL):=by
  exact j9
 have HSZ:Hd (W0.heap.size=w.heap.size+2):=by show _=_;rw[hW0];simp
 rw[<- hW0];clear hW0;have HRS:=hD (HQ.o.r.below jg HB0.o);have q1:=(HX0.o.below (br.alloc lr (.cells #[] 5))).cell (i:=1) rfl;go_upto_region 2 with (at_builtin;(refine eu zK rfl (.tmp 5) (.tmp 7) rfl W0.heap.size (.slice (some ⟨W0.heap.size,0,none⟩) 0 0) 0 [] rfl (a9 W0 5 1) (.slice q.rp q.rn q.rc) x.rest.length _ rfl ((HRS.o.below jg (br.alloc lr _)).src zr.toFlatG) (by have:=HSM.o.r;omega) (by have:=HSM.o.r;unfold maxLen;omega) sm ?_;intro y1 w1 h1 h2;have HB1:Hd (Bl W0 w1):=aW (br.alloc lr _) (a9 W0 5 1) h2.grown lr sm;have HO1:=hD (kX h1);clear h1 h2;obtain ⟨p1,c1,rfl⟩:=jb HO1.o;have HX1:=hD (HX0.o.below HB1.o);have q1:=HX1.o.cell (i:=1) rfl;have f1:=HX1.o.free 1));obtain ⟨n1,hn1⟩:=nm x.rest.length;rw[<- hn1] at HO1⊢;have HN1:=hD hn1;clear hn1;obtain ⟨W1,hW1⟩:=nm (w1.setCell ⟨w.heap.size,1,none⟩ (.slice p1 n1 c1));have HF1:Hd (∀ k,w.heap.size+2<=k->k<W0.heap.size->W1.heap[k]?=W0.heap[k]?):=by show _;rw[hW1];exact pj HB1.o om
 have HA1:Hd (Bl w W1):=by show Below _ _ _;rw[hW1];exact (HB0.o.trans (HB1.o.mono HB0.o.size)).setCell lr _
 have HY1:Hd (Bx W1 w.heap.size [.int .i64 po, .slice p1 n1 c1, .slice q.vp q.vn q.vc, .slice q.fp q.fn q.fc, .slice q.mp q.mn q.mc, .bool dr, .bool se, .int .i64 eg, .bool ac]):=by show Bx _ _ _;rw[hW1];exact HX1.o.put 1 _
 have HZ1:Hd (Bx W1 (w.heap.size+1) zL):=by show Bx _ _ _;rw[hW1];exact (HZ0.o.below HB1.o).other om _
 have HR1:Hd (W1.ownsRow W0.heap.size 5 1 (.slice p1 n1 c1) n1 (x.rest.map (Value.int .u8))):=by
  show World.ownsRow _ _ _ _ _ _ _;rw[hW1, <-o9];exact aG HO1.o fun k e=>heap_setCell_other w1 _ k _ (by show k≠w.heap.size;have:=aB HO1.o e;have:=HSZ.o;omega)
 have HS1:Hd (W0.heap.size<=W1.heap.size):=by show _<=_;rw[hW1];have:=HB1.o.size;simpa using this
 rw[<- hW1];clear hW1 q1 f1 HB1 HO1 HX1 HRS;have HVS:=hD (HQ.o.v.below nU HA1.o);have q2:=(HY1.o.below (br.alloc lr (.cells #[] 4))).cell (i:=2) rfl;go_upto_region 3 with (at_builtin;(refine eu Bf rfl (.tmp 10) (.tmp 12) rfl W1.heap.size (.slice (some ⟨W1.heap.size,0,none⟩) 0 0) 0 [] rfl (a9 W1 4 1) (.slice q.vp q.vn q.vc) x.valid.length _ rfl ((HVS.o.below nU (br.alloc lr _)).src zB.toFlatG) (by have:=HSM.o.v;omega) (by have:=HSM.o.v;unfold maxLen;omega) sm ?_;intro y2 w2 h1 h2;have HB2:Hd (Bl W1 w2):=aW (br.alloc lr _) (a9 W1 4 1) h2.grown lr sm;have HO2:=hD (kX h1);clear h1 h2;obtain ⟨p2,c2,rfl⟩:=jb HO2.o;have HX2:=hD (HY1.o.below HB2.o);have q2:=HX2.o.cell (i:=2) rfl;have f2:=HX2.o.free 2));obtain ⟨n2,hn2⟩:=nm x.valid.length;rw[<- hn2] at HO2⊢;have HN2:=hD hn2;clear hn2;obtain ⟨W2,hW2⟩:=nm (w2.setCell ⟨w.heap.size,2,none⟩ (.slice p2 n2 c2));have HF2:Hd (∀ k,w.heap.size+2<=k->k<W1.heap.size->W2.heap[k]?=W1.heap[k]?):=by show _;rw[hW2];exact pj HB2.o om
 have HA2:Hd (Bl w W2):=by show Below _ _ _;rw[hW2];exact (HA1.o.trans (HB2.o.mono HA1.o.size)).setCell lr _
 have HY2:Hd (Bx W2 w.heap.size [.int .i64 po, .slice p1 n1 c1, .slice p2 n2 c2, .slice q.fp q.fn q.fc, .slice q.mp q.mn q.mc, .bool dr, .bool se, .int .i64 eg, .bool ac]):=by show Bx _ _ _;rw[hW2];exact HX2.o.put 2 _
 have HZ2:Hd (Bx W2 (w.heap.size+1) zL):=by show Bx _ _ _;rw[hW2];exact (HZ1.o.below HB2.o).other om _
 have HR2:Hd (W2.ownsRow W1.heap.size 4 1 (.slice p2 n2 c2) n2 (x.valid.map Value.bool)):=by
  show World.ownsRow _ _ _ _ _ _ _;rw[hW2, <-iZ];exact aG HO2.o fun k e=>heap_setCell_other w2 _ k _ (by show k≠w.heap.size;have:=aB HO2.o e;have:=HSZ.o;have:=HS1.o;omega)
 have HS2:Hd (W1.heap.size<=W2.heap.size):=by show _<=_;rw[hW2];have:=HB2.o.size;simpa using this
 rw[<- hW2];clear hW2 q2 f2 HB2 HO2 HX2 HVS;have HMS:=hD (HQ.o.m.below aM HA2.o);have q3:=(HY2.o.below (br.alloc lr (.cells #[] 60))).cell (i:=4) rfl;go_upto_region 4 with (at_builtin;(refine eu jr rfl (.tmp 15) (.tmp 17) rfl W2.heap.size (.slice (some ⟨W2.heap.size,0,none⟩) 0 0) 0 [] rfl (a9 W2 60 2) (.slice q.mp q.mn q.mc) x.metas.length _ rfl ((HMS.o.below aM (br.alloc lr _)).src fK) (by have:=HSM.o.m;omega) (by have:=HSM.o.m;unfold maxLen;omega) sm ?_;intro y3 w3 h1 h2;have HB3:Hd (Bl W2 w3):=aW (br.alloc lr _) (a9 W2 60 2) h2.grown lr sm;have HO3:=hD (kX h1);clear h1 h2;obtain ⟨p3,c3,rfl⟩:=jb HO3.o;have HX3:=hD (HY2.o.below HB3.o);have q3:=HX3.o.cell (i:=4) rfl;have f3:=HX3.o.free 4));obtain ⟨n3,hn3⟩:=nm x.metas.length;rw[<- hn3] at HO3⊢;have HN3:=hD hn3;clear hn3;obtain ⟨W3,hW3⟩:=nm (w3.setCell ⟨w.heap.size,4,none⟩ (.slice p3 n3 c3));have HF3:Hd (∀ k,w.heap.size+2<=k->k<W2.heap.size->W3.heap[k]?=W2.heap[k]?):=by show _;rw[hW3];exact pj HB3.o om
 have HA3:Hd (Bl w W3):=by show Below _ _ _;rw[hW3];exact (HA2.o.trans (HB3.o.mono HA2.o.size)).setCell lr _
 have HY3:Hd (Bx W3 w.heap.size [.int .i64 po, .slice p1 n1 c1, .slice p2 n2 c2, .slice q.fp q.fn q.fc, .slice p3 n3 c3, .bool dr, .bool se, .int .i64 eg, .bool ac]):=by show Bx _ _ _;rw[hW3];exact HX3.o.put 4 _
 have HZ3:Hd (Bx W3 (w.heap.size+1) zL):=by show Bx _ _ _;rw[hW3];exact (HZ2.o.below HB3.o).other om _
 have HR3:Hd (NOwn W2.heap.size W3 (.slice p3 n3 c3) x.metas):=by
  show NOwn _ _ _ _;rw[HN3.o] at HO3;refine ⟨?_,HMS.o.nums⟩;rw[hW3,HN3.o];exact aG HO3.o fun k e=>heap_setCell_other w3 _ k _ (by show k≠w.heap.size;have:=aB HO3.o e;have:=HSZ.o;have:=HS1.o;have:=HS2.o;omega)
 have HS3:Hd (W2.heap.size<=W3.heap.size):=by show _<=_;rw[hW3];have:=HB3.o.size;simpa using this
 rw[<- hW3];clear hW3 q3 f3 HB3 HO3 HX3 HMS;have HROW:Hd (OwnRows (w.heap.size+2) W1.heap.size W2.heap.size W3.heap.size W3 x 0 (.slice p1 n1 c1) (.slice p2 n2 c2) (.slice p3 n3 c3) (.slice none 0 0) []):=by
  have s0:=HSZ.o;have s1:=HS1.o;have s2:=HS2.o;have s3:=HS3.o;have a1:=HR1.o;have a2:=HR2.o;have a3:=HR3.o;rw[HN1.o] at a1⊢;rw[HN2.o] at a2⊢;have b1:W2.ownsRow W0.heap.size 5 1 (.slice p1 x.rest.length c1) x.rest.length (x.rest.map (Value.int .u8)):=aG a1 fun k e=>HF2.o k (by have:=aB a1 e;omega) (aB a1 e).2
  have b2:W3.ownsRow W0.heap.size 5 1 (.slice p1 x.rest.length c1) x.rest.length (x.rest.map (Value.int .u8)):=aG b1 fun k e=>HF3.o k (by have:=aB b1 e;omega) (aB b1 e).2
  have b3:W3.ownsRow W1.heap.size 4 1 (.slice p2 x.valid.length c2) x.valid.length (x.valid.map Value.bool):=aG a2 fun k e=>HF3.o k (by have:=aB a2 e;omega) (aB a2 e).2
  exact ⟨cg b2 om,fun k e=>(aB a1 e).2,b3,fun k e=>(aB a2 e).2,a3,fun k e=>(aB a3.1 e).2,World.ownsRow_nil _ _ _ _,fun i u l h=>by simp at h,fun u hu=>by simp at hu,List.Pairwise.nil,zl,om,om,om⟩
 clear HR1 HR2 HR3 HF1 HF2 HF3 HY1 HZ1 HY2 HZ2 HX0 HZ0;have HQF:Hd (∀ W,Bl w W->NsRow W (.slice q.fp q.fn q.fc) x.fields):=fun W h=>HQ.o.f.below lR h
 have HTS:Hd (w.heap.size+2<=W3.heap.size):=by show _<=_;have:=HSZ.o;have:=HS1.o;have:=HS2.o;have:=HS3.o;omega
 have hfn:q.fn<=1000000:=by have:=HN.o;have:=HSM.o.f;omega
 clear HSZ HS1 HS2 HS3 HB0 HA1 HA2;go_wp2_with fail;go_loopw [3,4] (fun u i wr=>∃(k:Nat) (fs:List Value),k<=q.fn/\i= .int .i64 k/\Hd (OwnRows (w.heap.size+2) W1.heap.size W2.heap.size W3.heap.size wr x k (.slice p1 n1 c1) (.slice p2 n2 c2) (.slice p3 n3 c3) u fs)/\Hd (Bx wr w.heap.size [.int .i64 po, .slice p1 n1 c1, .slice p2 n2 c2, .slice q.fp q.fn q.fc, .slice p3 n3 c3, .bool dr, .bool se, .int .i64 eg, .bool ac])/\Hd (Bx wr (w.heap.size+1) zL)/\Hd (Bl w wr)/\Hd (W3.heap.size<=wr.heap.size)) (fun _ i _=>q.fn-(intOf i).toNat)
 case atStart=>exact ⟨0,_,zl,rfl,HROW.o,HY3.o,HZ3.o,HA3.o,Nat.le_refl _⟩
 case round=>
  clear HROW HY3 HZ3;obtain ⟨k,fs,hk,rfl,HROW,HY,HZ,HA,HSS⟩:=hrel;have q3:=HY.o.cell (i:=3) rfl;obtain ⟨pu,cu,rfl⟩:=jb HROW.o.hf;by_cases hlt:k<q.fn
  ·have hki:(k:Int)<(q.fn:Int):=om;obtain ⟨l,hl⟩:∃l,x.fields[k]?=some l:=⟨_,bS (by have:=HN.o;omega)⟩;obtain ⟨b,o,lp,ln,lc,hps,hb,y0,hy0⟩:=NsRow.el (HQF.o wr HA.o) hl;have HLR:=hD hy0;have HLL:Hd (l.length<=1000000):=HSM.o.fl l (cX hl);have HL:=hD hl;have q4:=(HY.o.below (br.alloc lr (.cells #[] 60))).cell (i:=3) rfl;have y1:=(((Below.refl wr.heap.size wr).alloc lr (.cells #[] 60)).cell (p:=⟨b,o+k,none⟩) hb).trans y0;rw[hps] at q3 q4;have HPS:=hD hps;clear hps hy0 hl;go_wp2_with (first
    |(at_builtin;refine eu jr rfl (.tmp 28) (.tmp 33) rfl wr.heap.size (.slice (some ⟨wr.heap.size,0,none⟩) 0 0) 0 [] rfl (a9 wr 60 2) (.slice lp ln lc) l.length _ rfl ((HLR.o.below aM (br.alloc lr _)).src fK) (by have:=HLL.o;omega) (by have:=HLL.o;unfold maxLen;omega) sm ?_;intro y1 w1 h1 h2;have HB1:Hd (Bl wr w1):=aW (br.alloc lr _) (a9 wr 60 2) h2.grown lr sm;have HO1:Hd (NOwn wr.heap.size w1 y1 l):=⟨kX h1,HLR.o.nums⟩;clear h1 h2;obtain ⟨py,cy,rfl⟩:=jb HO1.o.1;obtain ⟨ny,hny⟩:=nm l.length;rw[<- hny] at HO1⊢;clear hny)
    |(at_builtin;refine eu Ab rfl (.tmp 27) (.tmp 35) rfl W3.heap.size (.slice pu k cu) k fs rfl (World.ownsRow.alloc (aG HROW.o.hf fun k e=>HB1.o.block k (aB HROW.o.hf e).2) _) (.slice (some ⟨w1.heap.size,0,none⟩) 1 1) 1 [.slice py ny cy] rfl (iA (g:=w1.heap.size) rfl (fun u hu=>by simp at hu;subst hu;rfl) (fun j u hj=>by match j,hj with|0,hj=>cases hj;simp[go_sem])) om (by unfold maxLen;omega) (by have:=HB1.o.size;have:=HSS.o;simp only[World.size_alloc];omega) ?_;intro y2 w2 h1 h2;have HR2:=hD (HROW.o.snoc HL.o HB1.o HO1.o rfl HSS.o h1 h2);have HG2:=hD h2;have HO2:=hD h1;clear h1 h2))
   have HFB:Hd (∀ z,z<W3.heap.size->z<wr.heap.size->w2.heap[z]?=wr.heap[z]?):=fun z h1 h2=>by
    have hb1:=HB1.o;refine (HG2.o.grown.block z (by have:=hb1.size;simp only[World.size_alloc];omega) fun e=>?_).trans ((Below.heap_alloc _ _ _ (by have:=hb1.size;omega)).trans (hb1.block z h2));have:=aB HROW.o.hf e.symm;omega
   have HS2:Hd (wr.heap.size<=w2.heap.size):=by show _<=_;have h1:=HB1.o.size;have h2:=HG2.o.grown.size;simp only[World.size_alloc] at h2;omega
   go_roundw
   case rel=>exact ⟨k+1,_,om,by go_num,HR2.o,(HFB.o _ (by have:=HTS.o;omega) HY.o.lt).trans HY.o,(HFB.o _ (by have:=HTS.o;omega) HZ.o.lt).trans HZ.o,aW ((HA.o.trans (HB1.o.mono HA.o.size)).alloc (by have:=HA.o.size;have:=HB1.o.size;omega) _) (World.ownsRow.alloc (aG HROW.o.hf fun k e=>HB1.o.block k (aB HROW.o.hf e).2) _) HG2.o.grown (by have:=HTS.o;omega) (by have:=HA.o.size;have:=HB1.o.size;simp only[World.size_alloc];omega),Nat.le_trans HSS.o HS2.o⟩
   case measure=>exact mz
  obtain rfl:k=q.fn:=om;have hki:¬(q.fn:Int)<(q.fn:Int):=om;have f3:=HY.o.free 3;go_upto_region 10 with fail;obtain ⟨W4,hW4⟩:=nm (wr.setCell ⟨w.heap.size,3,none⟩ (.slice pu q.fn cu));have HA4:Hd (Bl w W4):=by show Below _ _ _;rw[hW4];exact HA.o.setCell lr _
  have hY4:Bx W4 w.heap.size [.int .i64 po, .slice p1 n1 c1, .slice p2 n2 c2, .slice pu q.fn cu, .slice p3 n3 c3, .bool dr, .bool se, .int .i64 eg, .bool ac]:=by rw[hW4];exact HY.o.put 3 _
  have hZ4:Bx W4 (w.heap.size+1) zL:=by rw[hW4];exact HZ.o.other om _
  have HR4:Hd (OwnRows (w.heap.size+2) W1.heap.size W2.heap.size W3.heap.size W4 x x.fields.length (.slice p1 n1 c1) (.slice p2 n2 c2) (.slice p3 n3 c3) (.slice pu q.fn cu) fs):=by
   show OwnRows _ _ _ _ _ _ _ _ _ _ _ _;rw[<- HN.o.2.2.1,hW4];exact HROW.o.store om
  rw[<- hW4];have HS4:Hd (w.heap.size+2<=W4.heap.size):=by show _<=_;rw[hW4];have:=HTS.o;have:=HSS.o;simp;omega
  clear hW4 f3 q3;have HZ4:Hd (W4.heap[w.heap.size+1]?=some (.cells zA 40 (0,0))):=hZ4;obtain ⟨d0,d1,d2,d3,d4,d5,d6,d7,d8⟩:=Bx.c9 hY4;obtain ⟨e0,e1,e2,e3,e4,e5,e6,e7,e8⟩:=Bx.c9 hZ4;have l0:=Bx.free hZ4 0;have l1:=Bx.free hZ4 1;have l2:=Bx.free hZ4 2;have l3:=Bx.free hZ4 3;have l4:=Bx.free hZ4 4;have l5:=Bx.free hZ4 5;have l6:=Bx.free hZ4 6;have l7:=Bx.free hZ4 7;have l8:=Bx.free hZ4 8;clear hY4 hZ4;go_wp2_with fail;have hb4:=bU (.int .i64 po) (.slice p1 n1 c1) (.slice p2 n2 c2) (.slice pu q.fn cu) (.slice p3 n3 c3) (.bool dr) (.bool se) (.int .i64 eg) (.bool ac) HZ4.o;refine bodyPost_ret (v:= .agg #[.int .i64 po, .slice p1 n1 c1, .slice p2 n2 c2, .slice pu q.fn cu, .slice p3 n3 c3, .bool dr, .bool se, .int .i64 eg, .bool ac]) ?_ rfl ⟨⟨_,_,_,_,fs,rfl,?_⟩,?_⟩
  ·change Sem.run Tryz.prog (results _ _) (bw W4 (w.heap.size+1) (.int .i64 po) (.slice p1 n1 c1) (.slice p2 n2 c2) (.slice pu q.fn cu) (.slice p3 n3 c3) (.bool dr) (.bool se) (.int .i64 eg) (.bool ac))=Result.ok _ (bw W4 (w.heap.size+1) (.int .i64 po) (.slice p1 n1 c1) (.slice p2 n2 c2) (.slice pu q.fn cu) (.slice p3 n3 c3) (.bool dr) (.bool se) (.int .i64 eg) (.bool ac));generalize bw W4 (w.heap.size+1) (.int .i64 po) (.slice p1 n1 c1) (.slice p2 n2 c2) (.slice pu q.fn cu) (.slice p3 n3 c3) (.bool dr) (.bool se) (.int .i64 eg) (.bool ac)=W5 at hb4⊢;have hb5:Bx W5 (w.heap.size+1) [.int .i64 po, .slice p1 n1 c1, .slice p2 n2 c2, .slice pu q.fn cu, .slice p3 n3 c3, .bool dr, .bool se, .int .i64 eg, .bool ac]:=hb4;obtain ⟨m0,m1,m2,m3,m4,m5,m6,m7,m8⟩:=Bx.c9 hb5;simp[results,Tryz.results7,go_sem,m0,m1,m2,m3,m4,m5,m6,m7,m8]
  ·exact (HR4.o.whole.far fun k h1 h2=>cC W4 (.int .i64 po) (.slice p1 n1 c1) (.slice p2 n2 c2) (.slice pu q.fn cu) (.slice p3 n3 c3) (.bool dr) (.bool se) (.int .i64 eg) (.bool ac) om).lower om
  exact cM (.int .i64 po) (.slice p1 n1 c1) (.slice p2 n2 c2) (.slice pu q.fn cu) (.slice p3 n3 c3) (.bool dr) (.bool se) (.int .i64 eg) (.bool ac) HA4.o om
end Go.Proofs.YtjfhfaodbjecdaaGreat
