/- Lemmas. -/
import Derived.Test.YtikilcbpogfgkaaGreatJI37
import Derived.Test.YtikilcbpogfgkaaGreatJI36
set_option maxHeartbeats 12800000
set_option maxRecDepth 100000
namespace Go.Proofs.YtikilcbpogfgkaaGreat
open Go.RowKit Stab
variable {w:World} {k:Nat} {L:List Value} {x:Int}
section
variable {w0 w w':World} {base X:Nat} {p:Prg} {act:Int} {x y:Pkt} {r v f mm:Value} {fs:List Value} {args:List Nat} {gp:Option Addr} {gn gc:Nat}
theorem runsIn (s:PgS) (lp:Option Addr) (ln lc:Nat) {l:List Ent} (hp:PgOk w0 s p) (hW:WPos p) (hSm:Sm p) (hl:ERow w0 (.slice lp ln lc) l):RunsIn w0 base X p s lp ln lc l r v f mm fs:=
 fun j W y args gp gn gc c bp bn bc hc hrow hlen hm hj=>runRA hc s lp ln lc true hp hW hSm hl hrow hlen hm (fun h=>by omega) (fun h=>by omega) (fun h=>by omega)
theorem actionRun (h:RCtx w0 w base X p act x r v f mm fs args gp gn gc) (s:PgS) (lp:Option Addr) (ln lc:Nat) {l:List Ent} {c:List Ist} {cp:Option Addr} {cn cc:Nat} (hp:PgOk w0 s p) (hW:WPos p) (hSm:Sm p) (hl:ERow w0 (.slice lp ln lc) l) (hc:IstRow w0 (.slice cp cn cc) c) (hcl:∀i∈c,i.e.length<=6000) (hm:mayInstsP p act c=true) (hao:act<0->ApOk p l):
 Calls Tryz.prog 23 #[pgV s, .slice lp ln lc, .pointer (some ⟨X,0,none⟩), .slice cp cn cc, .slice gp gn gc] w fun e w'=>e= .returned (.tuple #[])/\PktB base w' X (runA p l act args c x) r v f mm fs/\Fr (PS X r v f mm fs) w w':=by
 have HR:Hd (∀ W,Bl w W->Calls Tryz.prog 55 #[.agg #[.slice s.hp s.hn s.hc, .slice s.mp s.mn s.mc, .slice s.sp s.sn s.sc, .slice s.ap s.an s.ac, .slice s.tp s.tn s.tc, .slice s.cp s.cn s.cc, .slice s.ep s.en s.ec, .slice s.v1 s.n1 s.c1, .slice s.v2 s.n2 s.c2, .slice s.v3 s.n3 s.c3, .slice s.v4 s.n4 s.c4, .slice s.v5 s.n5 s.c5, .slice lp ln lc, .pointer (some ⟨X,0,none⟩), .slice gp gn gc, .bool false], .slice cp cn cc] W fun e w'=>e= .returned (.tuple #[])/\PktB base w' X (runA p l act args c x) r v f mm fs/\Fr (PS X r v f mm fs) W w'):=fun W hb=>
  runRA (h.below hb) s lp ln lc false hp hW hSm hl hc hcl hm (fun _=>rfl) hao (fun _=>runsIn s lp ln lc hp hW hSm hl)
 clear h hp hW hSm hl hc hcl hm hao;unfold pgV;go_enter Tryz.func23,Tryz.ntmps23;have HB:Hd (Bl w (w.alloc (.cells (pA s) 33))):=br.alloc lr _;go_wp2_with (go_at_call 55;refine (HR.o _ HB.o).mono ?_;rintro e w1 ⟨rfl,h1,h2⟩;have H1:=hD h1;have H2:=hD h2;clear h1 h2);go_end0;exact ⟨rfl,H1.o,(Fr.of_below HB.o).trans H2.o⟩
end
open Go.RowKit Stab
def set6 (w:World) (g:Nat) (b0 b1 b2 b3 b4 b5:Value):World:=(((((w.setCell ⟨g,0,none⟩ b0).setCell ⟨g,1,none⟩ b1).setCell ⟨g,2,none⟩ b2).setCell ⟨g,3,none⟩ b3).setCell ⟨g,4,none⟩ b4).setCell ⟨g,5,none⟩ b5
theorem set6_heap {g:Nat} {t:TypeId} {a0 a1 a2 a3 a4 a5:Value} (b0 b1 b2 b3 b4 b5:Value) (h:w.heap[g]?=some (.cells #[a0,a1,a2,a3,a4,a5] t (0,0))):(set6 w g b0 b1 b2 b3 b4 b5).heap[g]?=some (.cells #[b0,b1,b2,b3,b4,b5] t (0,0)):=by
 have h1:(w.setCell ⟨g,0,none⟩ b0).heap[g]?=some (.cells #[b0,a1,a2,a3,a4,a5] t (0,0)):=heap_setCell_same w g 0 _ t b0 h;have h2:((w.setCell ⟨g,0,none⟩ b0).setCell ⟨g,1,none⟩ b1).heap[g]?=some (.cells #[b0,b1,a2,a3,a4,a5] t (0,0)):=heap_setCell_same (w.setCell ⟨g,0,none⟩ b0) g 1 _ t b1 h1;have h3:(((w.setCell ⟨g,0,none⟩ b0).setCell ⟨g,1,none⟩ b1).setCell ⟨g,2,none⟩ b2).heap[g]?=some (.cells #[b0,b1,b2,a3,a4,a5] t (0,0)):=heap_setCell_same ((w.setCell ⟨g,0,none⟩ b0).setCell ⟨g,1,none⟩ b1) g 2 _ t b2 h2;have h4:((((w.setCell ⟨g,0,none⟩ b0).setCell ⟨g,1,none⟩ b1).setCell ⟨g,2,none⟩ b2).setCell ⟨g,3,none⟩ b3).heap[g]?=some (.cells #[b0,b1,b2,b3,a4,a5] t (0,0)):=heap_setCell_same (((w.setCell ⟨g,0,none⟩ b0).setCell ⟨g,1,none⟩ b1).setCell ⟨g,2,none⟩ b2) g 3 _ t b3 h3;have h5:(((((w.setCell ⟨g,0,none⟩ b0).setCell ⟨g,1,none⟩ b1).setCell ⟨g,2,none⟩ b2).setCell ⟨g,3,none⟩ b3).setCell ⟨g,4,none⟩ b4).heap[g]?=some (.cells #[b0,b1,b2,b3,b4,a5] t (0,0)):=heap_setCell_same ((((w.setCell ⟨g,0,none⟩ b0).setCell ⟨g,1,none⟩ b1).setCell ⟨g,2,none⟩ b2).setCell ⟨g,3,none⟩ b3) g 4 _ t b4 h4;have h6:((((((w.setCell ⟨g,0,none⟩ b0).setCell ⟨g,1,none⟩ b1).setCell ⟨g,2,none⟩ b2).setCell ⟨g,3,none⟩ b3).setCell ⟨g,4,none⟩ b4).setCell ⟨g,5,none⟩ b5).heap[g]?=some (.cells #[b0,b1,b2,b3,b4,b5] t (0,0)):=heap_setCell_same (((((w.setCell ⟨g,0,none⟩ b0).setCell ⟨g,1,none⟩ b1).setCell ⟨g,2,none⟩ b2).setCell ⟨g,3,none⟩ b3).setCell ⟨g,4,none⟩ b4) g 5 _ t b5 h5;exact h6
theorem set6_other (w:World) {g:Nat} (b0 b1 b2 b3 b4 b5:Value) (h:k≠g):(set6 w g b0 b1 b2 b3 b4 b5).heap[k]?=w.heap[k]?:=by
 unfold set6;rw[setCell_heap h,setCell_heap h,setCell_heap h,setCell_heap h,setCell_heap h,setCell_heap h]
theorem set6_size (w:World) (g:Nat) (b0 b1 b2 b3 b4 b5:Value):(set6 w g b0 b1 b2 b3 b4 b5).heap.size=w.heap.size:=by unfold set6;simp
theorem set6_below {N:Nat} {w0:World} {g:Nat} (b0 b1 b2 b3 b4 b5:Value) (h:Below N w0 w) (hg:N<=g):Below N w0 (set6 w g b0 b1 b2 b3 b4 b5):=by
 unfold set6;exact ((((((h.setCell hg b0).setCell hg b1).setCell hg b2).setCell hg b3).setCell hg b4).setCell hg b5)
def Gx (w:World) (g:Nat) (L:List Value):Prop:=w.heap[g]?=some (.cells L.toArray 39 (0,0))
theorem Gx.cell {g:Nat} (h:Gx w g L) {i:Nat} {v:Value} (hv:L[i]?=some v):w.cell? ⟨g,i,none⟩=some v:=by
 unfold Gx at h;simp[World.cell?,h,hv]
theorem Gx.free {g:Nat} (h:Gx w g L) (i:Nat):w.frozen? ⟨g,i,none⟩=false:=by
 unfold Gx at h;simp[World.frozen?,h]
structure Gn where
 acc:Bool
 o:Bool
 long:Bool
 access:Bool
 port:Int
 b:List Int
def passP (p:Prg) (l:List Ent) (port:Int) (xs:List Int):Gn:=
 if (parseP p port xs).2=false then ⟨false,false,false,(parseP p port xs).1.access,0,[]⟩ else
 if (runA p l (-1) [] p.ctl (parseP p port xs).1).dropped=true\/(runA p l (-1) [] p.ctl (parseP p port xs).1).sent=false then ⟨true,false,false,(runA p l (-1) [] p.ctl (parseP p port xs).1).access,0,[]⟩ else
 if 64<(emtP p (runA p l (-1) [] p.ctl (parseP p port xs).1)).length then ⟨true,false,true,(runA p l (-1) [] p.ctl (parseP p port xs).1).access,0,[]⟩ else
 ⟨true,true,false,(runA p l (-1) [] p.ctl (parseP p port xs).1).access,(runA p l (-1) [] p.ctl (parseP p port xs).1).egress,emtP p (runA p l (-1) [] p.ctl (parseP p port xs).1)⟩
def By (b:Nat) (w:World) (v:Value) (xs:List Int):Prop:=w.ownsRow b 5 1 v xs.length (xs.map (Value.int .u8))
def AnsGn (base:Nat) (w:World) (g:Gn) (e:Ending):Prop:=∃bv,e= .returned (.agg #[.bool g.acc, .bool g.o, .bool g.long, .bool g.access, .int .i64 g.port,bv])/\By base w bv g.b
theorem By.row {b:Nat} {v:Value} {xs:List Int} (h:By b w v xs):URow w v xs:=RowAt.of_flat flatU rfl (by rw[flat_u8];exact h)
structure PaOk (p:Prg) (l:List Ent):Prop where
 sm:Sm p
 may:mayP p=true
 ap:ApOk p l
 emit:∀h∈p.emit,0<=h/\h<(p.heads.length:Int)
theorem runA_fits {p:Prg} {l:List Ent} (hk:PaOk p l) {x:Pkt} (hx:PktF p x):PktF p (runA p l (-1) [] p.ctl x)/\(runA p l (-1) [] p.ctl x).rest=x.rest/\(runA p l (-1) [] p.ctl x).port=x.port/\((runA p l (-1) [] p.ctl x).egress=x.egress\/(0<=(runA p l (-1) [] p.ctl x).egress/\(runA p l (-1) [] p.ctl x).egress<512)):=by
 have e:runA p l (-1) [] p.ctl x=runP p l [] p.ctl x:=by
  unfold runA runP runFrom apF;rw[if_pos dq]
 rw[e];obtain ⟨h1,h2,h3⟩:=runP_all (bodies_of hk.ap) l [] (mayP_parts hk.may).2.2.1 x.egress hx (.inl rfl);exact ⟨h1,h2.rest,h2.port,h3⟩
theorem parse_psd {p:Prg} {l:List Ent} (hk:PaOk p l) (port:Int) (xs:List Int):Psd p (newP p port xs) (parseP p port xs).1:=parseP_ok (hdOk_of hk.may) (stOk_of hk.may) port xs
theorem passA_any (s:PgS) (p:Prg) (l:List Ent) (lp:Option Addr) (ln lc:Nat) (port:Int) (bp:Option Addr) (n bc:Nat) (xs:List Int) (w:World) (hp:PgOk w s p) (hk:PaOk p l) (hl:ERow w (.slice lp ln lc) l) (hb:URow w (.slice bp n bc) xs) (hn:n<=1000000) (hpo:0<=port/\port<=511):
 Calls Tryz.prog 8 #[pgV s, .slice lp ln lc, .int .i64 port, .slice bp n bc] w fun e w'=>AnsGn w.heap.size w' (passP p l port xs) e/\Bl w w':=by
 have hnx:n=xs.length:=hb.ln.1;have HPA:Hd (∀ W,Bl w W->Calls Tryz.prog 9 #[pgV s, .int .i64 port, .slice bp n bc] W fun e w'=>AnsP W.heap.size w' (parseP p port xs) e/\Bl W w'):=fun W h=>parseA_any s p port bp n bc xs W (hp.below h) hk.sm (hdOk_of hk.may) (stOk_of hk.may) (hb.below keepU h) hn hpo
 obtain ⟨R,hR⟩:=nm (parseP p port xs);have hps:Psd p (newP p port xs) R.1:=by rw[hR];exact parse_psd hk port xs
 obtain ⟨Y,hY⟩:=nm (runA p l (-1) [] p.ctl R.1);have hyf:=runA_fits hk hps.fits;rw[<- hY] at hyf;have HRUN:Hd (∀ (W:World) (X base:Nat) (r v f m:Value) (fs:List Value),Bl w W->w.heap.size<=base->PktB base W X R.1 r v f m fs->Calls Tryz.prog 23 #[pgV s, .slice lp ln lc, .pointer (some ⟨X,0,none⟩), .slice s.cp s.cn s.cc, .slice none 0 0] W fun e w'=>e= .returned (.tuple #[])/\PktB base w' X Y r v f m fs/\Fr (PS X r v f m fs) W w'):=fun W X base r v f m fs h hb hP=>by
  have hc:RCtx w W base X p (-1) R.1 r v f m fs [] none 0 0:=⟨hP,h,hb,hps.fits,by rw[hps.port];exact hpo,fun e=>absurd e dq,RowAt.nil,fun b o e=>by cases e⟩;have:=actionRun hc s lp ln lc (l:=l) hp (wpos_of hk.may) hk.sm hl hp.ctl hk.sm.ccode (mayP_parts hk.may).2.2.1 (fun _=>hk.ap);rw[<- hY] at this;exact this
 have HEM:Hd (∀ (W:World) (base:Nat) (r v f m:Value) (fs:List Value),Bl w W->base<=W.heap.size->PktO base W Y r v f m fs->Calls Tryz.prog 24 #[pgV s, .agg (pktCells Y r v f m).toArray] W fun e w'=>∃y,e= .returned y/\w'.ownsRow W.heap.size 5 1 y (emtP p Y).length ((emtP p Y).map (Value.int .u8))/\Bl W w'):=fun W base r v f m fs h hb hP=>
  emitA_any s (hp.below h) (hdOk_of hk.may) hk.emit hk.sm.emit hyf.1 hP (by rw[hyf.2.1];obtain ⟨k,hk2⟩:=hps.rest;rw[hk2];show (List.drop k xs).length<=_;rw[List.length_drop];omega) hb
 have HPP:Hd (passP p l port xs=if R.2=false then ⟨false,false,false,R.1.access,0,[]⟩ else if Y.dropped=true\/Y.sent=false then ⟨true,false,false,Y.access,0,[]⟩ else if 64<(emtP p Y).length then ⟨true,false,true,Y.access,0,[]⟩ else ⟨true,true,false,Y.access,Y.egress,emtP p Y⟩):=by show _=_;rw[hY,hR];rfl
 generalize passP p l port xs=G at*;rw[<- hR] at HPA;clear hp hk hl hb hn hpo hnx hR hps hY hyf;unfold pgV at HPA HRUN HEM⊢;go_enter Tryz.func8,Tryz.ntmps8;go_upto_region 1 with fail;obtain ⟨W0,hW0⟩:=nm ((w.alloc (.cells (pA s) 33)).alloc (.cells #[.bool false, .bool false, .bool false, .bool false, .int .i64 0, .slice none 0 0] 39));have HW:Hd (Bl w W0):=by show Below _ _ _;rw[hW0];exact bL
 have HSZ:Hd (W0.heap.size=w.heap.size+1+1):=by show _=_;rw[hW0];simp
 have HG0:Hd (GBox W0 w.heap.size s):=by show _=_;rw[hW0,Below.heap_alloc _ _ _ sm];exact heap_new _ _
 have HR0:Hd (W0.heap[w.heap.size+1]?=some (.cells #[.bool false, .bool false, .bool false, .bool false, .int .i64 0, .slice none 0 0] 39 (0,0))):=by
  exact gZ
 rw[<- hW0];clear hW0;obtain ⟨q0,q1,q2,q3,q4,q5,q6,q7,q8,q9,q10,q11⟩:=HG0.o.cells;go_upto_region 2 with (go_at_call 9;refine (HPA.o _ HW.o).mono ?_;rintro e w1 ⟨⟨r0,v,f,mm,fs,rfl,ho⟩,hb1⟩;obtain ⟨K,rfl,rfl,rfl,rfl,-⟩:=ho.ks;unfold pktCells;have HO:=hD ho;have HB1:=hD hb1;clear ho hb1);obtain ⟨W1,hW1⟩:=nm (w1.alloc (.cells (kA K R.1.port R.1.dropped R.1.sent R.1.egress R.1.access) 45));have hb2:Bl w1 W1:=by rw[hW1];exact br.alloc lr _
 have HB2:=hD (HB1.o.trans (hb2.mono HB1.o.size));have HX:Hd (W1.heap[w1.heap.size]?=some (.cells (kA K R.1.port R.1.dropped R.1.sent R.1.egress R.1.access) 45 (0,0))):=by show _=_;rw[hW1];exact heap_new w1 _
 have HPK:Hd (PktB W0.heap.size W1 w1.heap.size R.1 (.slice K.rp K.rn K.rc) (.slice K.vp K.vn K.vc) (.slice K.fp K.fn K.fc) (.slice K.mp K.mn K.mc) fs):=(HO.o.far fun j _ h2=>hb2.block j h2).boxed HX.o HB1.o.size (fun z hz e=>by have:=(HO.o.blk z hz _ e).2;omega);rw[<- hW1];have HX1:Hd (W0.heap.size<=w1.heap.size):=HB1.o.size;clear hW1 hb2 q0 q1 q2 q3 q4 q5 q6 q7 q8 q9 q10 q11 HO HX;generalize w1.heap.size=X at*;obtain ⟨b,hbq⟩:=nm R.2;rw[<- hbq] at HPP⊢;clear hbq;have HR1:Hd (W1.heap[w.heap.size+1]?=some (.cells #[.bool false, .bool false, .bool false, .bool false, .int .i64 0, .slice none 0 0] 39 (0,0))):=(HB2.o.block _ (lt_some HR0.o)).trans HR0.o;have HG1:Hd (GBox W1 w.heap.size s):=(HB2.o.block _ (lt_some HG0.o)).trans HG0.o;have HW1:=hD (HW.o.trans (HB2.o.mono HW.o.size));cases b
 ·have k8:=HPK.o.cell (i:=8) rfl;have h2c:Gx W1 (w.heap.size+1) [.bool false, .bool false, .bool false, .bool false, .int .i64 0, .slice none 0 0]:=HR1.o;have c0:=Gx.cell (i:=0) h2c rfl;have cf0:=Gx.free h2c 0;have c1:=Gx.cell (i:=1) h2c rfl;have cf1:=Gx.free h2c 1;have c2:=Gx.cell (i:=2) h2c rfl;have cf2:=Gx.free h2c 2;have c3:=Gx.cell (i:=3) h2c rfl;have cf3:=Gx.free h2c 3;have c4:=Gx.cell (i:=4) h2c rfl;have cf4:=Gx.free h2c 4;have c5:=Gx.cell (i:=5) h2c rfl;have cf5:=Gx.free h2c 5;clear h2c;have HGn:=hD (HPP.o.trans (if_pos rfl)).symm;go_wp2_with fail;have hg:=set6_heap (.bool false) (.bool false) (.bool false) (.bool R.1.access) (.int .i64 0) (.slice none 0 0) HR1.o;have hb7:=set6_below (.bool false) (.bool false) (.bool false) (.bool R.1.access) (.int .i64 0) (.slice none 0 0) HW1.o (g:=w.heap.size+1) om;obtain ⟨W7,hW7⟩:=nm (set6 (W1) (w.heap.size+1) (.bool false) (.bool false) (.bool false) (.bool R.1.access) (.int .i64 0) (.slice none 0 0));have hot2:∀k,k≠w.heap.size+1->W7.heap[k]?=(W1).heap[k]?:=fun k hk=>by rw[hW7];exact set6_other (W1) (.bool false) (.bool false) (.bool false) (.bool R.1.access) (.int .i64 0) (.slice none 0 0) hk
  have hsz7:W7.heap.size=(W1).heap.size:=by rw[hW7];exact set6_size (W1) _ (.bool false) (.bool false) (.bool false) (.bool R.1.access) (.int .i64 0) (.slice none 0 0)
  rw[<- hW7] at hg hb7;unfold set6 at hW7;rw[<- hW7];clear hW7 c0 cf0 c1 cf1 c2 cf2 c3 cf3 c4 cf4 c5 cf5 k8;have m0:W7.cell? ⟨w.heap.size+1,0,none⟩=some (.bool false):=by simp[World.cell?,hg]
  have m1:W7.cell? ⟨w.heap.size+1,1,none⟩=some (.bool false):=by simp[World.cell?,hg]
  have m2:W7.cell? ⟨w.heap.size+1,2,none⟩=some (.bool false):=by simp[World.cell?,hg]
  have m3:W7.cell? ⟨w.heap.size+1,3,none⟩=some (.bool R.1.access):=by simp[World.cell?,hg]
  have m4:W7.cell? ⟨w.heap.size+1,4,none⟩=some (.int .i64 0):=by simp[World.cell?,hg]
  have m5:W7.cell? ⟨w.heap.size+1,5,none⟩=some (.slice none 0 0):=by simp[World.cell?,hg]
  have hGn:=HGn.o;subst hGn;refine bodyPost_ret (v:= .agg #[.bool false, .bool false, .bool false, .bool R.1.access, .int .i64 0, .slice none 0 0]) ?_ rfl ⟨⟨_,rfl,World.ownsRow_nil _ _ _ _⟩,hb7⟩;simp[results,Tryz.results8,go_sem,m0,m1,m2,m3,m4,m5]
 ·have HPQ:=hD (HPP.o.trans (if_neg dq));obtain ⟨q0,q1,q2,q3,q4,q5,q6,q7,q8,q9,q10,q11⟩:=HG1.o.cells;go_upto_region 5 with (go_at_call 23;refine (HRUN.o W1 X W0.heap.size _ _ _ _ fs HW1.o HW.o.size HPK.o).mono ?_;rintro e w3 ⟨rfl,hp3,hf3⟩;have HP3:=hD hp3;have HF3:=hD hf3;clear hp3 hf3);have HB3:Hd (Bl W0 w3):=HB2.o.trans (HF3.o.below HB2.o.size fun q e=>(HPK.o.blk e).1);have HR3:Hd (w3.heap[w.heap.size+1]?=some (.cells #[.bool false, .bool false, .bool false, .bool false, .int .i64 0, .slice none 0 0] 39 (0,0))):=(HB3.o.block _ (lt_some HR0.o)).trans HR0.o;have HG3:Hd (GBox w3 w.heap.size s):=(HB3.o.block _ (lt_some HG0.o)).trans HG0.o;have HW3:=hD (HW.o.trans (HB3.o.mono HW.o.size));clear q0 q1 q2 q3 q4 q5 q6 q7 q8 q9 q10 q11;obtain ⟨k0,k1,k2,k3,k4,k5,k6,k7,k8⟩:=HP3.o.c9;go_upto_region 6 with fail;obtain ⟨W4,hW4⟩:=nm (w3.alloc (.cells #[.bool true, .bool false, .bool false, .bool Y.access, .int .i64 0, .slice none 0 0] 39));have HB4:Hd (Bl w3 W4):=by show Below _ _ _;rw[hW4];exact br.alloc lr _
  have HO4:Hd (W4.heap[w3.heap.size]?=some (.cells #[.bool true, .bool false, .bool false, .bool Y.access, .int .i64 0, .slice none 0 0] 39 (0,0))):=by show _=_;rw[hW4];exact heap_new _ _
  have HW4:=hD (HW3.o.trans (HB4.o.mono HW3.o.size));have HR4:Hd (W4.heap[w.heap.size+1]?=some (.cells #[.bool false, .bool false, .bool false, .bool false, .int .i64 0, .slice none 0 0] 39 (0,0))):=(HB4.o.block _ (lt_some HR3.o)).trans HR3.o;have HG4:Hd (GBox W4 w.heap.size s):=(HB4.o.block _ (lt_some HG3.o)).trans HG3.o;have HP4:Hd (PktB W0.heap.size W4 X Y (.slice K.rp K.rn K.rc) (.slice K.vp K.vn K.vc) (.slice K.fp K.fn K.fc) (.slice K.mp K.mn K.mc) fs):=HP3.o.below HB4.o;have HLT:Hd (w.heap.size+1<w3.heap.size/\X<w3.heap.size/\w3.heap.size<W4.heap.size/\W0.heap.size<=W4.heap.size):=⟨lt_some HR3.o,HP3.o.lt,lt_some HO4.o,by have:=HP4.o.lt;have:=HP4.o.lo;show _<=_;omega⟩;rw[<- hW4];clear hW4 k0 k1 k2 k3 k4 k5 k6 k7 k8 HB4 HP3 HR3 HG3 HW3 HB3 HF3 HR1 HG1 HW1 HPK HB2;generalize w3.heap.size=G4 at*;obtain ⟨k0,k1,k2,k3,k4,k5,k6,k7,k8⟩:=HP4.o.c9;have hem:=HEM.o W4 W0.heap.size _ _ _ _ fs HW4.o HLT.o.2.2.2 (PktB.loose HP4.o);unfold pktCells at hem;obtain ⟨d,hd⟩:=nm Y.dropped;obtain ⟨se,hse⟩:=nm Y.sent;rw[<- hd, <-hse] at hem HPQ;rw[<- hd] at k5;rw[<- hse] at k6;have HEMX:=hD hem;clear hd hse hem;generalize emtP p Y=BB at*;have hcs:(d=true\/se=false)\/(d=false/\se=true):=by cases d<;>cases se<;>simp
  have hG4r:¬G4=w.heap.size+1:=by have:=HLT.o;omega
  have hrG4:¬w.heap.size+1=G4:=by have:=HLT.o;omega
  have h2c:Gx W4 (w.heap.size+1) [.bool false, .bool false, .bool false, .bool false, .int .i64 0, .slice none 0 0]:=HR4.o;have c0:=Gx.cell (i:=0) h2c rfl;have cf0:=Gx.free h2c 0;have c1:=Gx.cell (i:=1) h2c rfl;have cf1:=Gx.free h2c 1;have c2:=Gx.cell (i:=2) h2c rfl;have cf2:=Gx.free h2c 2;have c3:=Gx.cell (i:=3) h2c rfl;have cf3:=Gx.free h2c 3;have c4:=Gx.cell (i:=4) h2c rfl;have cf4:=Gx.free h2c 4;have c5:=Gx.cell (i:=5) h2c rfl;have cf5:=Gx.free h2c 5;clear h2c;have h2o:Gx W4 G4 [.bool true, .bool false, .bool false, .bool Y.access, .int .i64 0, .slice none 0 0]:=HO4.o;have o0:=Gx.cell (i:=0) h2o rfl;have of0:=Gx.free h2o 0;have o1:=Gx.cell (i:=1) h2o rfl;have of1:=Gx.free h2o 1;have o2:=Gx.cell (i:=2) h2o rfl;have of2:=Gx.free h2o 2;have o3:=Gx.cell (i:=3) h2o rfl;have of3:=Gx.free h2o 3;have o4:=Gx.cell (i:=4) h2o rfl;have of4:=Gx.free h2o 4;have o5:=Gx.cell (i:=5) h2o rfl;have of5:=Gx.free h2o 5;clear h2o;rcases hcs with hds|⟨rfl,rfl⟩
  ·have HGn:=hD (HPQ.o.trans (if_pos hds)).symm;have hd2:d=true\/(d=false/\se=false):=by revert hds;cases d<;>cases se<;>simp
   clear hds HPQ HEMX;rcases hd2 with rfl|⟨rfl,rfl⟩
   all_goals
    go_wp2_with fail;have hg:=set6_heap (.bool true) (.bool false) (.bool false) (.bool Y.access) (.int .i64 0) (.slice none 0 0) HR4.o;have hb7:=set6_below (.bool true) (.bool false) (.bool false) (.bool Y.access) (.int .i64 0) (.slice none 0 0) HW4.o (g:=w.heap.size+1) om;obtain ⟨W7,hW7⟩:=nm (set6 (W4) (w.heap.size+1) (.bool true) (.bool false) (.bool false) (.bool Y.access) (.int .i64 0) (.slice none 0 0));have hot2:∀k,k≠w.heap.size+1->W7.heap[k]?=(W4).heap[k]?:=fun k hk=>by rw[hW7];exact set6_other (W4) (.bool true) (.bool false) (.bool false) (.bool Y.access) (.int .i64 0) (.slice none 0 0) hk
    have hsz7:W7.heap.size=(W4).heap.size:=by rw[hW7];exact set6_size (W4) _ (.bool true) (.bool false) (.bool false) (.bool Y.access) (.int .i64 0) (.slice none 0 0)
    rw[<- hW7] at hg hb7;unfold set6 at hW7;rw[<- hW7];clear hW7 c0 cf0 c1 cf1 c2 cf2 c3 cf3 c4 cf4 c5 cf5 o0 of0 o1 of1 o2 of2 o3 of3 o4 of4 o5 of5 k0 k1 k2 k3 k4 k5 k6 k7 k8;have m0:W7.cell? ⟨w.heap.size+1,0,none⟩=some (.bool true):=by simp[World.cell?,hg]
    have m1:W7.cell? ⟨w.heap.size+1,1,none⟩=some (.bool false):=by simp[World.cell?,hg]
    have m2:W7.cell? ⟨w.heap.size+1,2,none⟩=some (.bool false):=by simp[World.cell?,hg]
    have m3:W7.cell? ⟨w.heap.size+1,3,none⟩=some (.bool Y.access):=by simp[World.cell?,hg]
    have m4:W7.cell? ⟨w.heap.size+1,4,none⟩=some (.int .i64 0):=by simp[World.cell?,hg]
    have m5:W7.cell? ⟨w.heap.size+1,5,none⟩=some (.slice none 0 0):=by simp[World.cell?,hg]
    have hGn:=HGn.o;subst hGn;refine bodyPost_ret (v:= .agg #[.bool true, .bool false, .bool false, .bool Y.access, .int .i64 0, .slice none 0 0]) ?_ rfl ⟨⟨_,rfl,World.ownsRow_nil _ _ _ _⟩,hb7⟩;simp[results,Tryz.results8,go_sem,m0,m1,m2,m3,m4,m5]
  have HPZ:=hD (HPQ.o.trans (if_neg dq));obtain ⟨q0,q1,q2,q3,q4,q5,q6,q7,q8,q9,q10,q11⟩:=HG4.o.cells;go_upto_region 9 with (go_at_call 24;refine HEMX.o.mono ?_;rintro e w5 ⟨y5,rfl,ho5,hb5⟩;have hu5:URow w5 y5 BB:=(RowAt.of_flat flatU rfl (by rw[flat_u8];exact ho5));obtain ⟨p5,cp5,rfl,-⟩:=hu5.shape;have HO5:=hD ho5;have HB5:=hD hb5;clear hu5 ho5 hb5);have HR5:Hd (w5.heap[w.heap.size+1]?=some (.cells #[.bool false, .bool false, .bool false, .bool false, .int .i64 0, .slice none 0 0] 39 (0,0))):=(HB5.o.block _ (lt_some HR4.o)).trans HR4.o;have HX5:Hd (w5.heap[G4]?=some (.cells #[.bool true, .bool false, .bool false, .bool Y.access, .int .i64 0, .slice none 0 0] 39 (0,0))):=(HB5.o.block _ (lt_some HO4.o)).trans HO4.o;have HW5:=hD (HW4.o.trans (HB5.o.mono HW4.o.size));have HP5:Hd (PktB W0.heap.size w5 X Y (.slice K.rp K.rn K.rc) (.slice K.vp K.vn K.vc) (.slice K.fp K.fn K.fc) (.slice K.mp K.mn K.mc) fs):=HP4.o.below HB5.o;have HLG:Hd (w.heap.size<=G4/\G4<W4.heap.size):=⟨by have:=HLT.o;omega,HLT.o.2.2.1⟩;clear q0 q1 q2 q3 q4 q5 q6 q7 q8 q9 q10 q11 c0 cf0 c1 cf1 c2 cf2 c3 cf3 c4 cf4 c5 cf5 o0 of0 o1 of1 o2 of2 o3 of3 o4 of4 o5 of5 k0 k1 k2 k3 k4 k5 k6 k7 k8;have h2c:Gx w5 (w.heap.size+1) [.bool false, .bool false, .bool false, .bool false, .int .i64 0, .slice none 0 0]:=HR5.o;have c0:=Gx.cell (i:=0) h2c rfl;have cf0:=Gx.free h2c 0;have c1:=Gx.cell (i:=1) h2c rfl;have cf1:=Gx.free h2c 1;have c2:=Gx.cell (i:=2) h2c rfl;have cf2:=Gx.free h2c 2;have c3:=Gx.cell (i:=3) h2c rfl;have cf3:=Gx.free h2c 3;have c4:=Gx.cell (i:=4) h2c rfl;have cf4:=Gx.free h2c 4;have c5:=Gx.cell (i:=5) h2c rfl;have cf5:=Gx.free h2c 5;clear h2c;have h2o:Gx w5 G4 [.bool true, .bool false, .bool false, .bool Y.access, .int .i64 0, .slice none 0 0]:=HX5.o;have o0:=Gx.cell (i:=0) h2o rfl;have of0:=Gx.free h2o 0;have o1:=Gx.cell (i:=1) h2o rfl;have of1:=Gx.free h2o 1;have o2:=Gx.cell (i:=2) h2o rfl;have of2:=Gx.free h2o 2;have o3:=Gx.cell (i:=3) h2o rfl;have of3:=Gx.free h2o 3;have o4:=Gx.cell (i:=4) h2o rfl;have of4:=Gx.free h2o 4;have o5:=Gx.cell (i:=5) h2o rfl;have of5:=Gx.free h2o 5;clear h2o;by_cases hlt:64<BB.length
  ·have hgt:(64:Int)<(BB.length:Int):=om;have HGn:=hD (HPZ.o.trans (if_pos hlt)).symm;have HRX:(w5.setCell ⟨G4,2,none⟩ (.bool true)).heap[w.heap.size+1]?=some (.cells #[.bool false, .bool false, .bool false, .bool false, .int .i64 0, .slice none 0 0] 39 (0,0)):=(setCell_heap hrG4).trans HR5.o;have HRXX:=hD HRX;clear HRX;go_wp2_with fail;have hg:=set6_heap (.bool true) (.bool false) (.bool true) (.bool Y.access) (.int .i64 0) (.slice none 0 0) HRXX.o;have hb7:=set6_below (.bool true) (.bool false) (.bool true) (.bool Y.access) (.int .i64 0) (.slice none 0 0) (HW5.o.setCell (p:=⟨G4,2,none⟩) HLG.o.1 (.bool true)) (g:=w.heap.size+1) om;obtain ⟨W7,hW7⟩:=nm (set6 (w5.setCell ⟨G4,2,none⟩ (.bool true)) (w.heap.size+1) (.bool true) (.bool false) (.bool true) (.bool Y.access) (.int .i64 0) (.slice none 0 0));have hot2:∀k,k≠w.heap.size+1->W7.heap[k]?=(w5.setCell ⟨G4,2,none⟩ (.bool true)).heap[k]?:=fun k hk=>by rw[hW7];exact set6_other (w5.setCell ⟨G4,2,none⟩ (.bool true)) (.bool true) (.bool false) (.bool true) (.bool Y.access) (.int .i64 0) (.slice none 0 0) hk
   have hsz7:W7.heap.size=(w5.setCell ⟨G4,2,none⟩ (.bool true)).heap.size:=by rw[hW7];exact set6_size (w5.setCell ⟨G4,2,none⟩ (.bool true)) _ (.bool true) (.bool false) (.bool true) (.bool Y.access) (.int .i64 0) (.slice none 0 0)
   rw[<- hW7] at hg hb7;unfold set6 at hW7;rw[<- hW7];clear hW7 c0 cf0 c1 cf1 c2 cf2 c3 cf3 c4 cf4 c5 cf5 o0 of0 o1 of1 o2 of2 o3 of3 o4 of4 o5 of5;have m0:W7.cell? ⟨w.heap.size+1,0,none⟩=some (.bool true):=by simp[World.cell?,hg]
   have m1:W7.cell? ⟨w.heap.size+1,1,none⟩=some (.bool false):=by simp[World.cell?,hg]
   have m2:W7.cell? ⟨w.heap.size+1,2,none⟩=some (.bool true):=by simp[World.cell?,hg]
   have m3:W7.cell? ⟨w.heap.size+1,3,none⟩=some (.bool Y.access):=by simp[World.cell?,hg]
   have m4:W7.cell? ⟨w.heap.size+1,4,none⟩=some (.int .i64 0):=by simp[World.cell?,hg]
   have m5:W7.cell? ⟨w.heap.size+1,5,none⟩=some (.slice none 0 0):=by simp[World.cell?,hg]
   have hGn:=HGn.o;subst hGn;refine bodyPost_ret (v:= .agg #[.bool true, .bool false, .bool true, .bool Y.access, .int .i64 0, .slice none 0 0]) ?_ rfl ⟨⟨_,rfl,World.ownsRow_nil _ _ _ _⟩,hb7⟩;simp[results,Tryz.results8,go_sem,m0,m1,m2,m3,m4,m5]
  have hgt:¬(64:Int)<(BB.length:Int):=om;have HGn:=hD (HPZ.o.trans (if_neg hlt)).symm;have k7:=HP5.o.cell (i:=7) rfl;go_upto_region 12 with fail;go_region;obtain ⟨W6,hW6⟩:=nm ((((w5.setCell ⟨G4,1,none⟩ (.bool true)).setCell ⟨G4,4,none⟩ (.int .i64 Y.egress)).setCell ⟨G4,5,none⟩ (.slice p5 BB.length cp5)).drew);have hX6:W6.heap[G4]?=some (.cells #[.bool true, .bool true, .bool false, .bool Y.access, .int .i64 Y.egress, .slice p5 BB.length cp5] 39 (0,0)):=by
   rw[hW6];exact heap_setCell_same _ G4 5 _ _ _ (heap_setCell_same _ G4 4 _ _ _ (heap_setCell_same _ G4 1 _ _ _ HX5.o))
  have hot6:∀k,k≠G4->W6.heap[k]?=w5.heap[k]?:=fun k hk=>by rw[hW6];exact (setCell_heap hk).trans ((setCell_heap hk).trans (setCell_heap hk))
  have HR6:Hd (W6.heap[w.heap.size+1]?=some (.cells #[.bool false, .bool false, .bool false, .bool false, .int .i64 0, .slice none 0 0] 39 (0,0))):=(hot6 _ hrG4).trans HR5.o;have HO6:Hd (W6.ownsRow W4.heap.size 5 1 (.slice p5 BB.length cp5) BB.length (BB.map (Value.int .u8))):=own_far HO5.o fun k e=>hot6 k (by have:=(own_size HO5.o e).1;have:=HLG.o.2;omega)
  have HW6:Hd (Bl w W6):=by
   show Below _ _ _;rw[hW6];exact (((HW5.o.setCell (p:=⟨G4,1,none⟩) HLG.o.1 _).setCell (p:=⟨G4,4,none⟩) HLG.o.1 _).setCell (p:=⟨G4,5,none⟩) HLG.o.1 _).drew
  have HX6:=hD hX6;rw[<- hW6];clear hW6 hX6 hot6 k7 c0 cf0 c1 cf1 c2 cf2 c3 cf3 c4 cf4 c5 cf5 o0 of0 o1 of1 o2 of2 o3 of3 o4 of4 o5 of5;have h2c:Gx W6 (w.heap.size+1) [.bool false, .bool false, .bool false, .bool false, .int .i64 0, .slice none 0 0]:=HR6.o;have c0:=Gx.cell (i:=0) h2c rfl;have cf0:=Gx.free h2c 0;have c1:=Gx.cell (i:=1) h2c rfl;have cf1:=Gx.free h2c 1;have c2:=Gx.cell (i:=2) h2c rfl;have cf2:=Gx.free h2c 2;have c3:=Gx.cell (i:=3) h2c rfl;have cf3:=Gx.free h2c 3;have c4:=Gx.cell (i:=4) h2c rfl;have cf4:=Gx.free h2c 4;have c5:=Gx.cell (i:=5) h2c rfl;have cf5:=Gx.free h2c 5;clear h2c;have h2o:Gx W6 G4 [.bool true, .bool true, .bool false, .bool Y.access, .int .i64 Y.egress, .slice p5 BB.length cp5]:=HX6.o;have o0:=Gx.cell (i:=0) h2o rfl;have of0:=Gx.free h2o 0;have o1:=Gx.cell (i:=1) h2o rfl;have of1:=Gx.free h2o 1;have o2:=Gx.cell (i:=2) h2o rfl;have of2:=Gx.free h2o 2;have o3:=Gx.cell (i:=3) h2o rfl;have of3:=Gx.free h2o 3;have o4:=Gx.cell (i:=4) h2o rfl;have of4:=Gx.free h2o 4;have o5:=Gx.cell (i:=5) h2o rfl;have of5:=Gx.free h2o 5;clear h2o;go_wp2_with fail;have hg:=set6_heap (.bool true) (.bool true) (.bool false) (.bool Y.access) (.int .i64 Y.egress) (.slice p5 BB.length cp5) HR6.o;have hb7:=set6_below (.bool true) (.bool true) (.bool false) (.bool Y.access) (.int .i64 Y.egress) (.slice p5 BB.length cp5) HW6.o (g:=w.heap.size+1) om;obtain ⟨W7,hW7⟩:=nm (set6 (W6) (w.heap.size+1) (.bool true) (.bool true) (.bool false) (.bool Y.access) (.int .i64 Y.egress) (.slice p5 BB.length cp5));have hot2:∀k,k≠w.heap.size+1->W7.heap[k]?=(W6).heap[k]?:=fun k hk=>by rw[hW7];exact set6_other (W6) (.bool true) (.bool true) (.bool false) (.bool Y.access) (.int .i64 Y.egress) (.slice p5 BB.length cp5) hk
  have hsz7:W7.heap.size=(W6).heap.size:=by rw[hW7];exact set6_size (W6) _ (.bool true) (.bool true) (.bool false) (.bool Y.access) (.int .i64 Y.egress) (.slice p5 BB.length cp5)
  rw[<- hW7] at hg hb7;unfold set6 at hW7;rw[<- hW7];clear hW7 c0 cf0 c1 cf1 c2 cf2 c3 cf3 c4 cf4 c5 cf5 o0 of0 o1 of1 o2 of2 o3 of3 o4 of4 o5 of5;have m0:W7.cell? ⟨w.heap.size+1,0,none⟩=some (.bool true):=by simp[World.cell?,hg]
  have m1:W7.cell? ⟨w.heap.size+1,1,none⟩=some (.bool true):=by simp[World.cell?,hg]
  have m2:W7.cell? ⟨w.heap.size+1,2,none⟩=some (.bool false):=by simp[World.cell?,hg]
  have m3:W7.cell? ⟨w.heap.size+1,3,none⟩=some (.bool Y.access):=by simp[World.cell?,hg]
  have m4:W7.cell? ⟨w.heap.size+1,4,none⟩=some (.int .i64 Y.egress):=by simp[World.cell?,hg]
  have m5:W7.cell? ⟨w.heap.size+1,5,none⟩=some (.slice p5 BB.length cp5):=by simp[World.cell?,hg]
  have hGn:=HGn.o;subst hGn;refine bodyPost_ret (v:= .agg #[.bool true, .bool true, .bool false, .bool Y.access, .int .i64 Y.egress, .slice p5 BB.length cp5]) ?_ rfl ⟨⟨_,rfl,own_base (own_far HO6.o fun k e=>hot2 k (by have h1:=(own_size HO6.o e).1;have h2:=HLG.o.2;have h3:=HLG.o.1;have h4:=HLT.o.1;omega)) HW4.o.size⟩,hb7⟩;simp[results,Tryz.results8,go_sem,m0,m1,m2,m3,m4,m5]
open Go.RowKit Stab
structure GnOk (p:Prg) (port:Int) (xs:List Int) (g:Gn) (R:Pkt×Bool):Prop where
 o:g.o=true->g.acc=true/\g.long=false/\g.b.length<=64/\0<=g.port/\g.port<=511
 not:g.o=false->g.b=[]/\g.port=0
 long:g.long=true->g.acc=true
 acc:R.2=g.acc
 fits:PktF p R.1
 dropped:R.1.dropped=false
 sent:R.1.sent=false
 port:R.1.port=port
 rest:R.1.rest=xs.drop (xs.length-R.1.rest.length)
 len:R.1.rest.length<=xs.length
theorem gn_ok {p:Prg} {l:List Ent} (hk:PaOk p l) (port:Int) (xs:List Int):GnOk p port xs (passP p l port xs) (parseP p port xs):=by
 have hps:=parse_psd hk port xs;obtain ⟨n,hn⟩:=hps.rest;have hn:(parseP p port xs).1.rest=xs.drop n:=hn;have hg:(parseP p port xs).1.egress=0:=hps.egress;obtain ⟨-,-,-,he⟩:=runA_fits hk hps.fits;have hr:(parseP p port xs).1.rest.length=xs.length-n:=by rw[hn,List.length_drop]
 have e1:(passP p l port xs).o=true->(passP p l port xs).acc=true/\(passP p l port xs).long=false/\(passP p l port xs).b.length<=64/\0<=(passP p l port xs).port/\(passP p l port xs).port<=511:=by
  unfold passP;split
  ·intro h;cases h
  split
  ·intro h;cases h
  split
  ·intro h;cases h
  rename_i h3;exact fun _=>⟨rfl,rfl,by show (emtP _ _).length<=64;omega,by show (0:Int)<=(runA p l (-1) [] p.ctl (parseP p port xs).1).egress;rcases he with q|q<;>omega,by show (runA p l (-1) [] p.ctl (parseP p port xs).1).egress<=(511:Int);rcases he with q|q<;>omega⟩
 have e2:(passP p l port xs).o=false->(passP p l port xs).b=[]/\(passP p l port xs).port=0:=by
  unfold passP;split
  ·exact fun _=>⟨rfl,rfl⟩
  split
  ·exact fun _=>⟨rfl,rfl⟩
  split
  ·exact fun _=>⟨rfl,rfl⟩
  intro h;cases h
 have e3:(passP p l port xs).long=true->(passP p l port xs).acc=true:=by
  unfold passP;split
  ·intro h;cases h
  split
  ·exact fun _=>rfl
  split<;>exact fun _=>rfl
 have e4:(parseP p port xs).2=(passP p l port xs).acc:=by
  unfold passP;split
  ·rename_i h;exact h
  rename_i h;have h2:(parseP p port xs).2=true:=by revert h;cases (parseP p port xs).2<;>simp
  rw[h2];split
  ·rfl
  split<;>rfl
 refine ⟨e1,e2,e3,e4,hps.fits,hps.dropped,hps.sent,hps.port,?_,om⟩;rw[hr,hn];by_cases h:n<=xs.length
 ·rw[show xs.length-(xs.length-n)=n by omega]
 rw[List.drop_eq_nil_of_le om,List.drop_eq_nil_of_le om]
open Go.RowKit
structure Ed where
 sw:Int
 port:Int
 deriving DecidableEq
structure Lnk where
 a:Ed
 b:Ed
structure Net where
 sws:List ByteArray
 ports:List (List Int)
 links:List Lnk
def EdV (e:Ed):Value:= .agg #[.int .i64 e.sw, .int .i64 e.port]
def LAt (w:World) (b o:Nat) (l:Lnk):Prop:=
 w.cell? ⟨b,o,none⟩=some (.int .i64 l.a.sw)/\w.cell? ⟨b,o+1,none⟩=some (.int .i64 l.a.port)/\w.cell? ⟨b,o+2,none⟩=some (.int .i64 l.b.sw)/\w.cell? ⟨b,o+3,none⟩=some (.int .i64 l.b.port)
theorem keepL:KeepAt LAt:=fun _w _w' b o _n hb hlt ⟨h1,h2,h3,h4⟩=>
 ⟨(hb.cell (p:=⟨b,o,none⟩) hlt).trans h1,(hb.cell (p:=⟨b,o+1,none⟩) hlt).trans h2,(hb.cell (p:=⟨b,o+2,none⟩) hlt).trans h3,(hb.cell (p:=⟨b,o+3,none⟩) hlt).trans h4⟩
abbrev LRow:=RowAt 4 LAt
structure NtS where
 sp:Option Addr
 sn:Nat
 sc:Nat
 pp:Option Addr
 pn:Nat
 pc:Nat
 lp:Option Addr
 ln:Nat
 lc:Nat
def ntV (s:NtS):Value:= .agg #[.slice s.sp s.sn s.sc, .slice s.pp s.pn s.pc, .slice s.lp s.ln s.lc]
structure NtOk (w:World) (s:NtS) (n:Net):Prop where
 sws:StRow w (.slice s.sp s.sn s.sc) n.sws
 ports:IsRow w (.slice s.pp s.pn s.pc) n.ports
 links:LRow w (.slice s.lp s.ln s.lc) n.links
theorem NtOk.below {w':World} {s:NtS} {n:Net} (h:NtOk w s n) (hb:Bl w w'):NtOk w' s n:=
 ⟨h.sws.below keepS hb,h.ports.below keepIs hb,h.links.below keepL hb⟩
def ntThere (n:Net) (e:Ed):Bool:=decide (0<=e.sw/\e.sw<(n.ports.length:Int))&&(n.ports.getD e.sw.toNat []).contains e.port
def linkP (e:Ed):List Lnk->Option Ed
 |[]=>none
 |l::r=>if l.a=e then some l.b else if l.b=e then some l.a else linkP e r
def nextT (n:Net) (e:Ed):Ed×Bool×Bool:=
 if ntThere n e then (match linkP e n.links with|some x=>(x,true,true)|none=>(⟨0,0⟩,true,false)) else (⟨0,0⟩,false,false)
theorem contains_drop {l:List Int} (h:k<l.length) (hn:l[k]?.getD 0≠x):(l.drop k).contains x=(l.drop (k+1)).contains x:=by
 rw[List.drop_eq_getElem_cons h,List.contains_cons];rw[gE_ h,Option.getD_some] at hn;have:(x==l[k])=false:=by simp;exact fun e=>hn e.symm
 rw[this,Bool.false_or]
theorem contains_here {l:List Int} (h:k<l.length) (hn:l[k]?.getD 0=x):(l.drop k).contains x=true:=by
 rw[List.drop_eq_getElem_cons h,List.contains_cons];rw[gE_ h,Option.getD_some] at hn;rw[hn];simp
def IxOk (l:List Int) (x i:Int):Prop:=decide (0<=i)=l.contains x
theorem index_int (l:List Int) (p:Option Addr) (n c:Nat) (x:Int) (w:World) (h:IRow w (.slice p n c) l):
 Calls Tryz.prog 121 #[.slice p n c, .int .i64 x] w fun e w'=>∃i:Int,e= .returned (.int .i64 i)/\IxOk l x i/\Bl w w':=by
 have HN:Hd (n=l.length):=h.ln.1;have hmx:n<=9223372036854775807:=by obtain ⟨h1,h2,h3,-⟩:=h.ln;unfold maxLen at h3;omega
 have HC:=hD h;clear h;go_enter Tryz.func121,Tryz.ntmps121;go_wp2_with fail;go_loopw [5,8] (fun u i wr=>∃k:Nat,k<=n/\i= .int .i64 (k:Int)/\Hd (l.contains x=(l.drop k).contains x)/\Hd (Bl w wr)) (fun _ i _=>n-(intOf i).toNat)
 case atStart=>exact ⟨0,zl,rfl,rfl,Below.refl _ _⟩
 case round=>
  obtain ⟨k,hk,rfl,HE,HB⟩:=hrel;by_cases hlt:k<n
  ·have hki:(k:Int)<(n:Int):=om;obtain ⟨b,o,rfl,hb,y0⟩:=IRow.el (HC.o.below keepI HB.o) (j:=k) (by have:=HN.o;omega);by_cases hx:x=l[k]?.getD 0
   ·have hx':l.getD k 0=x:=by rw[List.getD_eq_getElem?_getD];exact hx.symm
    rw[hx'] at y0;go_wp2_with fail;go_ret;exact ⟨_,rfl,by unfold IxOk;rw[HE.o,contains_here (by have:=HN.o;omega) hx.symm];simp,HB.o⟩
   have hx':¬x=l.getD k 0:=by rw[List.getD_eq_getElem?_getD];exact hx
   exact gG2
  obtain rfl:k=n:=om;have hki:¬(k:Int)<(k:Int):=om;go_wp2_with fail;go_ret;exact ⟨_,rfl,by unfold IxOk;rw[HE.o,List.drop_eq_nil_of_le (by have:=HN.o;omega)];rfl,HB.o⟩
theorem contains_int (l:List Int) (p:Option Addr) (n c:Nat) (x:Int) (w:World) (h:IRow w (.slice p n c) l):
 Calls Tryz.prog 107 #[.slice p n c, .int .i64 x] w fun e w'=>e= .returned (.bool (l.contains x))/\Bl w w':=by
 have HI:=hD (index_int l p n c x w h);clear h;go_enter Tryz.func107,Tryz.ntmps107;go_wp2_with (go_at_call 121;refine HI.o.mono ?_;rintro e w1 ⟨i,rfl,hi,hb⟩;have HB:=hD hb;have HI1:=hD hi;clear hi hb);go_ret;exact ⟨by have h:=HI1.o;unfold IxOk at h;rw[<- h];rfl,HB.o⟩
theorem has1_any (l:List Int) (p:Option Addr) (n c:Nat) (x:Int) (w:World) (h:IRow w (.slice p n c) l):
 Calls Tryz.prog 106 #[.slice p n c, .int .i64 x] w fun e w'=>e= .returned (.bool (l.contains x))/\Bl w w':=by
 obtain ⟨R,hR⟩:=nm (l.contains x);have HR:Hd (R=(l.drop 0).contains x):=hR;rw[<- hR];clear hR;have HN:Hd (n=l.length):=h.ln.1;have hmx:n<=9223372036854775807:=by obtain ⟨h1,h2,h3,-⟩:=h.ln;unfold maxLen at h3;omega
 have HC:=hD h;clear h;go_enter Tryz.func106,Tryz.ntmps106;go_wp2_with fail;go_loopw [5] (fun i wr=>∃k:Nat,k<=n/\i= .int .i64 (k:Int)/\Hd (R=(l.drop k).contains x)/\Hd (Bl w wr)) (fun i _=>n-(intOf i).toNat)
 case atStart=>exact ⟨0,zl,rfl,HR.o,Below.refl _ _⟩
 case round=>
  obtain ⟨k,hk,rfl,HE,HB⟩:=hrel;by_cases hlt:k<n
  ·have hki:(k:Int)<(n:Int):=om;obtain ⟨b,o,rfl,hb,y0⟩:=IRow.el (HC.o.below keepI HB.o) (j:=k) (by have:=HN.o;omega);by_cases hx:x=l[k]?.getD 0
   ·have hx':l.getD k 0=x:=by rw[List.getD_eq_getElem?_getD];exact hx.symm
    rw[hx'] at y0;go_wp2_with fail;go_ret;exact ⟨by rw[HE.o,contains_here (by have:=HN.o;omega) hx.symm];rfl,HB.o⟩
   have hx':¬l.getD k 0=x:=by rw[List.getD_eq_getElem?_getD];exact fun e=>hx e.symm
   exact gG2
  obtain rfl:k=n:=om;have hki:¬(k:Int)<(k:Int):=om;go_wp2_with fail;go_ret;exact ⟨by rw[HE.o,List.drop_eq_nil_of_le (by have:=HN.o;omega)];rfl,HB.o⟩
end Go.Proofs.YtikilcbpogfgkaaGreat
