/- Lemmas. -/
import Derived.Test.YtikilcbpogfgkaaGreatJI29
set_option maxHeartbeats 6400000
set_option maxRecDepth 100000
namespace Go.Proofs.YtikilcbpogfgkaaGreat
open Go.RowKit
variable {g n c cap h X en ec:Nat} {w:World} {ep:Option Addr}
structure PR (base X:Nat) (x Y:Pkt) (r v f m:Value) (fs:List Value) (W W':World):Prop where
 fr:Fr (PS X r v f m fs) W W'
 go:PktB base W X x r v f m fs->PktB base W' X x r v f m fs\/PktB base W' X Y r v f m fs
 is:PktB base W X Y r v f m fs->PktB base W' X Y r v f m fs
structure PQ (base X:Nat) (x Y:Pkt) (r v f m:Value) (fs:List Value) (W0 W:World):Prop where
 fr:Fr (PS X r v f m fs) W0 W
 or:PktB base W X x r v f m fs\/PktB base W X Y r v f m fs
section
variable {base X:Nat} {x Y:Pkt} {r v f m:Value} {fs:List Value} {W0 W W':World}
theorem PR.refl (base X:Nat) (x Y:Pkt) (r v f m:Value) (fs:List Value) (W:World):PR base X x Y r v f m fs W W:=⟨Fr.refl _ _, .inl,id⟩
theorem PR.of_below (h:Bl W W'):PR base X x Y r v f m fs W W':=⟨Fr.of_below h,fun k=> .inl (k.below h),fun k=>k.below h⟩
theorem PQ.step (h:PQ base X x Y r v f m fs W0 W) (hr:PR base X x Y r v f m fs W W'):PQ base X x Y r v f m fs W0 W':=
 ⟨h.fr.trans hr.fr,h.or.elim hr.go fun k=> .inr (hr.is k)⟩
theorem PQ.start (h:PktB base W X x r v f m fs):PQ base X x Y r v f m fs W W.drew:=⟨Fr.of_below (Below.drew br), .inl (h.below (Below.drew br))⟩
theorem PQ.cell (h:PQ base X x Y r v f m fs W0 W) {p:Addr} {u:Value} (hp:¬PS X r v f m fs p.block) (hc:W0.cell? p=some u):W.cell? p=some u:=h.fr.cell hp hc
theorem PQ.c3 (h:PQ base X x Y r v f m fs W0 W):W.cell? ⟨X,3,none⟩=some f:=h.or.elim (fun k=>k.cell (i:=3) rfl) fun k=>k.cell (i:=3) rfl
theorem PQ.c4 (h:PQ base X x Y r v f m fs W0 W):W.cell? ⟨X,4,none⟩=some m:=h.or.elim (fun k=>k.cell (i:=4) rfl) fun k=>k.cell (i:=4) rfl
theorem PktB.rowCell (h:PktB base W X x r v f m fs) {i:Nat} {u:Value} (hf:f= .slice (some ⟨g,0,none⟩) n c) (hu:fs[i]?=some u):W.cell? ⟨g,i,none⟩=some u:=by
 obtain ⟨hlen,h0|⟨g',cap,cur,h1,h2,h3,h4,h5,h6,h7⟩⟩:=h.hf
 ·rw[hf] at h0;simp at h0
 have h8:=hf.symm.trans h1;simp only[Value.slice.injEq,Option.some.injEq,Addr.mk.injEq,and_true] at h8;obtain ⟨rfl,rfl,rfl⟩:=h8;subst hf;exact own_get ⟨hlen, .inr ⟨g,c,cur,rfl,h2,h3,h4,h5,h6,h7⟩⟩ hu
theorem PQ.rowCell (h:PQ base X x Y r v f m fs W0 W) {i:Nat} {u:Value} (hf:f= .slice (some ⟨g,0,none⟩) n c) (hu:fs[i]?=some u):W.cell? ⟨g,i,none⟩=some u:=h.or.elim (fun k=>k.rowCell hf hu) fun k=>k.rowCell hf hu
theorem PQ.field (h:PQ base X x Y r v f m fs W0 W) {i j k:Nat} {l:List Nat} (hY:Y={ x with fields:=x.fields.set i (l.set j k) }) (hu:fs[i]?=some (.slice (some ⟨g,0,none⟩) l.length cap)) (hl:x.fields[i]?=some l) (hj:j<l.length) (hk:k<B*B):
 (∀ q,W.frozen? ⟨g,q,none⟩=false)/\(∃ y,W.cell? ⟨g,j*2,none⟩=some y)/\(∃ y,W.cell? ⟨g,j*2+1,none⟩=some y)/\
 PR base X x Y r v f m fs W ((W.setCell ⟨g,j*2,none⟩ (.int .u64 ((k/B:Nat):Int))).setCell ⟨g,j*2+1,none⟩ (.int .u64 ((k%B:Nat):Int)))/\
 PktB base ((W.setCell ⟨g,j*2,none⟩ (.int .u64 ((k/B:Nat):Int))).setCell ⟨g,j*2+1,none⟩ (.int .u64 ((k%B:Nat):Int))) X Y r v f m fs:=by
 have hil:=(gL_ hl).1;have hg:PS X r v f m fs g:= .inr ⟨.slice (some ⟨g,0,none⟩) l.length cap,by simp[gM_ hu],rfl⟩;have hfr:Fr (PS X r v f m fs) W ((W.setCell ⟨g,j*2,none⟩ (.int .u64 ((k/B:Nat):Int))).setCell ⟨g,j*2+1,none⟩ (.int .u64 ((k%B:Nat):Int))):=((Fr.refl _ _).set (.inl hg) _).set (.inl hg) _;rcases h.or with h1|h1
 ·obtain ⟨g',cap',e,-,-,-,-,f0,k0,k1,hP⟩:=h1.field hu hl hj hk;cases e;rw[<- hY] at hP;exact gV2
 have hl2:Y.fields[i]?=some (l.set j k):=by rw[hY];exact List.getElem?_set_self hil
 obtain ⟨g',cap',e,-,-,-,-,f0,k0,k1,hP⟩:=h1.field hu hl2 (by rw[List.length_set];exact hj) hk;simp only[Value.slice.injEq,Option.some.injEq,Addr.mk.injEq,and_true] at e;obtain ⟨rfl,-,rfl⟩:=e;have e2:{ Y with fields:=Y.fields.set i ((l.set j k).set j k) }=Y:=by
  rw[hY];simp
 rw[e2] at hP;exact gV2
theorem PQ.meta' (h:PQ base X x Y r v f m fs W0 W) {j k:Nat} (hY:Y={ x with metas:=x.metas.set j k }) (hm:m= .slice (some ⟨g,0,none⟩) x.metas.length cap) (hj:j<x.metas.length) (hk:k<B*B):
 (∀ q,W.frozen? ⟨g,q,none⟩=false)/\(∃ y,W.cell? ⟨g,j*2,none⟩=some y)/\(∃ y,W.cell? ⟨g,j*2+1,none⟩=some y)/\
 PR base X x Y r v f m fs W ((W.setCell ⟨g,j*2,none⟩ (.int .u64 ((k/B:Nat):Int))).setCell ⟨g,j*2+1,none⟩ (.int .u64 ((k%B:Nat):Int)))/\
 PktB base ((W.setCell ⟨g,j*2,none⟩ (.int .u64 ((k/B:Nat):Int))).setCell ⟨g,j*2+1,none⟩ (.int .u64 ((k%B:Nat):Int))) X Y r v f m fs:=by
 have hg:PS X r v f m fs g:= .inr ⟨m,by simp,by rw[hm];rfl⟩;have hfr:Fr (PS X r v f m fs) W ((W.setCell ⟨g,j*2,none⟩ (.int .u64 ((k/B:Nat):Int))).setCell ⟨g,j*2+1,none⟩ (.int .u64 ((k%B:Nat):Int))):=((Fr.refl _ _).set (.inl hg) _).set (.inl hg) _;rcases h.or with h1|h1
 ·obtain ⟨g',cap',e,-,-,-,-,f0,k0,k1,hP⟩:=h1.setMeta hj hk;have e:=hm.symm.trans e;cases e;rw[<- hY] at hP;exact gV2
 obtain ⟨g',cap',e,-,-,-,-,f0,k0,k1,hP⟩:=h1.setMeta (j:=j) (k:=k) (by rw[hY];simpa using hj) hk;have e:=hm.symm.trans e;simp only[Value.slice.injEq,Option.some.injEq,Addr.mk.injEq,and_true] at e;obtain ⟨rfl,-,rfl⟩:=e;have e2:{ Y with metas:=Y.metas.set j k }=Y:=by
  rw[hY];simp
 rw[e2] at hP;exact gV2
end
open Go.RowKit Stab
def JA (a:Int) (l:List Nat) (n2:Nat) (W:World) (g:Nat):Prop:=∃up uc,W.heap[g]?=some (R1 a (.slice up l.length uc))/\NRow W (.slice up l.length uc) l/\∀b o,up=some ⟨b,o,none⟩->n2<=b
structure AQ (base X n2:Nat) (x Y:Pkt) (r v f m:Value) (fs:List Value) (a:Int) (l:List Nat) (W W':World):Prop where
 ar:AR base R0 (JA a l n2) W W'
 fr:Fr (fun k=>PS X r v f m fs k\/n2<=k) W W'
 go:PktB base W X x r v f m fs->PktB base W' X x r v f m fs\/PktB base W' X Y r v f m fs
 is:PktB base W X Y r v f m fs->PktB base W' X Y r v f m fs
structure AS (base X n2:Nat) (x Y:Pkt) (r v f m:Value) (fs:List Value) (W0 W:World):Prop where
 fr:Fr (fun k=>PS X r v f m fs k\/n2<=k) W0 W
 or:PktB base W X x r v f m fs\/PktB base W X Y r v f m fs
 low:Below base W0 W
section
variable {base X n2:Nat} {x Y:Pkt} {r v f m:Value} {fs:List Value} {a:Int} {l:List Nat} {W0 W W':World}
theorem JA.below (g:Nat) (W W':World) (h:Bl W W') (hj:JA a l n2 W g):JA a l n2 W' g:=by
 obtain ⟨up,uc,h1,h2,h3⟩:=hj;exact ⟨up,uc,(h.block g (lt_some h1)).trans h1,h2.below keepN h,h3⟩
theorem AQ.refl (base X n2:Nat) (x Y:Pkt) (r v f m:Value) (fs:List Value) (a:Int) (l:List Nat) (W:World):AQ base X n2 x Y r v f m fs a l W W:=⟨AR.refl _ _ _ _,Fr.refl _ _, .inl,id⟩
theorem AQ.of_below (hb:base<=W.heap.size) (h:Bl W W'):AQ base X n2 x Y r v f m fs a l W W':=
 ⟨AR.of_below JA.below hb h,Fr.of_below h,fun k=> .inl (k.below h),fun k=>k.below h⟩
theorem AS.step (h:AS base X n2 x Y r v f m fs W0 W) (hr:AQ base X n2 x Y r v f m fs a l W W'):AS base X n2 x Y r v f m fs W0 W':=
 ⟨h.fr.trans hr.fr,h.or.elim hr.go fun k=> .inr (hr.is k),h.low.trans hr.ar.low⟩
theorem AS.start (h:PktB base W X x r v f m fs):AS base X n2 x Y r v f m fs W W.drew:=⟨Fr.of_below (Below.drew br), .inl (h.below (Below.drew br)),Below.drew br⟩
theorem AS.blk (h:AS base X n2 x Y r v f m fs W0 W) {k:Nat} {o:Obj} (hp:¬PS X r v f m fs k) (hn:k<n2) (hc:W0.heap[k]?=some o):W.heap[k]?=some o:=(h.fr.block k (lt_some hc) (fun e=>e.elim hp fun q=>by omega)).trans hc
theorem AS.st (h:AS base X n2 x Y r v f m fs W0 W):∃z:Pkt,PktB base W X z r v f m fs:=h.or.elim (fun k=>⟨_,k⟩) fun k=>⟨_,k⟩
theorem AQ.keys (hst:∃z:Pkt,PktB base W X z r v f m fs) (hb:base<=W.heap.size) (hf:Fr (·=X) W W') (hY:PktB base W' X Y r v f m fs):AQ base X n2 x Y r v f m fs a l W W':=by
 obtain ⟨z,hz⟩:=hst;have hn:∀u k,NRow W u k->NRow W' u k:=fun u k h=>h.fr hf fun b e=>by rw[show b=X from e];exact hz.no64
 have hJ:∀g,JA a l n2 W g->g≠X:=fun g ⟨up,uc,h1,_⟩ e=>by
  rw[e,hz.st] at h1;unfold R1 at h1;simp at h1
 have hJ2:∀g,JA a l n2 W g->JA a l n2 W' g:=fun g hj=>by
  have hg:=hJ g hj;obtain ⟨up,uc,h1,h2,h3⟩:=hj;exact ⟨up,uc,(hf.block g (lt_some h1) hg).trans h1,hn _ _ h2,h3⟩
 refine ⟨⟨hf.below hb fun k e=>by rw[show k=X from e];exact hz.lo,hn,fun g _ hg=>?_,fun g _=>hJ2 g⟩,hf.more fun k e=> .inl (.inl e),fun _=> .inr hY,fun _=>hY⟩;rcases hg with hg|hg
 ·refine .inl ((hf.block g (lt_some hg) fun e=>?_).trans hg);rw[show g=X from e,hz.st] at hg;unfold R0 at hg;simp at hg
 exact .inr (hJ2 g hg)
theorem AQ.store {up:Option Addr} {uc:Nat} (hu:NRow W (.slice up l.length uc) l) (hup:∀b o,up=some ⟨b,o,none⟩->n2<=b) (hbn:base<=n2) (hT:∀k,PS X r v f m fs k->k<n2) (hg:n2<=g) (h:W.heap[g]?=some R0\/JA a l n2 W g):
 AQ base X n2 x Y r v f m fs a l W ((W.setCell ⟨g,0,none⟩ (.int .i64 a)).setCell ⟨g,1,none⟩ (.slice up l.length uc))/\JA a l n2 ((W.setCell ⟨g,0,none⟩ (.int .i64 a)).setCell ⟨g,1,none⟩ (.slice up l.length uc)) g:=by
 have hj0:W.heap[g]?=some R0\/JR a l W g:=h.imp id fun ⟨up,uc,h1,h2,_⟩=>⟨_,h1,h2⟩
 obtain ⟨xx,yy,hk,hy⟩:=jr_cells hj0;have ho:∀k,k≠g->((W.setCell ⟨g,0,none⟩ (.int .i64 a)).setCell ⟨g,1,none⟩ (.slice up l.length uc)).heap[k]?=W.heap[k]?:=fun k hk=>set2_other W g 0 1 _ _ hk
 have hn:∀i n,W.cell? ⟨g,i,none⟩≠some (.int .u64 n):=fun i n e=>by
  unfold World.cell? at e;rw[hk] at e;unfold R1 at e
  match i,e with
  |0,e=>simp at e
  |1,e=>simp at e;exact hy n e
  |i+2,e=>simp at e
 have hs:W.heap.size<=((W.setCell ⟨g,0,none⟩ (.int .i64 a)).setCell ⟨g,1,none⟩ (.slice up l.length uc)).heap.size:=by simp
 have hnew:((W.setCell ⟨g,0,none⟩ (.int .i64 a)).setCell ⟨g,1,none⟩ (.slice up l.length uc)).heap[g]?=some (R1 a (.slice up l.length uc)):=by
  have h1:(W.setCell ⟨g,0,none⟩ (.int .i64 a)).heap[g]?=some (R1 a yy):=by
   have:=heap_setCell_same W g 0 _ _ (.int .i64 a) hk;exact this
  exact heap_setCell_same (W.setCell ⟨g,0,none⟩ (.int .i64 a)) g 1 _ _ (.slice up l.length uc) h1
 have hj:JA a l n2 ((W.setCell ⟨g,0,none⟩ (.int .i64 a)).setCell ⟨g,1,none⟩ (.slice up l.length uc)) g:=⟨up,uc,hnew,NRow.past hu hs ho hn,hup⟩;refine ⟨⟨AR.store (Nat.le_trans hbn hg) (((Below.refl base W).setCell (by show base<=g;omega) _).setCell (by show base<=g;omega) _) hs ho hn hj (fun k hk ⟨up,uc,h1,h2,h3⟩=>⟨up,uc,(ho k hk).trans h1,NRow.past h2 hs ho hn,h3⟩),((Fr.refl _ _).set (.inl (.inr hg)) _).set (.inl (.inr hg)) _,fun k=> .inl (k.kept fun q hq=>ho q (by have:=hT q hq;omega)),fun k=>k.kept fun q hq=>ho q (by have:=hT q hq;omega)⟩,hj⟩
end
theorem TblRow.all {p:Option Addr} {l:List Tbl} (h:TblRow w (.slice p n c) l) {j:Nat} {x:Tbl} (hj:l[j]?=some x):∃b o p1 n1 c1 p2 n2 c2 p3 n3 c3 p4 n4 c4,p=some ⟨b,o,none⟩/\b<w.heap.size/\w.cell? ⟨b,o+j*5,none⟩=some (.slice p1 n1 c1)/\CsRow w (.slice p1 n1 c1) x.keys/\w.cell? ⟨b,o+j*5+1,none⟩=some (.slice p2 n2 c2)/\w.cell? ⟨b,o+j*5+2,none⟩=some (.slice p3 n3 c3)/\w.cell? ⟨b,o+j*5+3,none⟩=some (.int .i64 x.dact)/\w.cell? ⟨b,o+j*5+4,none⟩=some (.slice p4 n4 c4)/\NRow w (.slice p4 n4 c4) x.dargs:=by
 obtain ⟨b,o,e,h1,⟨p1,n1,c1,h2,h3⟩,⟨p2,n2,c2,h4,-⟩,⟨p3,n3,c3,h5,-⟩,h6,⟨p4,n4,c4,h7,h8⟩⟩:=h.get hj;exact ⟨b,o,p1,n1,c1,p2,n2,c2,p3,n3,c3,p4,n4,c4,e,h1,h2,h3,h4,h5,h6,h7,h8⟩
open Go.RowKit
theorem numCut_ret (n:Nat) (k:Int) (W:World) (hn:n<B*B):Calls Tryz.prog 99 #[numV n, .int .i64 k] W fun e w'=>e= .returned (numV (n%2 ^ sh k))/\Bl W w':=numCut_any n k W hn
theorem widthsA_any (s:PgS) {hb0 ho0 hp1n hp1c:Nat} {hp1:Option Addr} (w:World) (hh:(h:Int)<(s.hn:Int)) (hps:s.hp=some ⟨hb0,ho0,none⟩) (hc:w.cell? ⟨hb0,ho0+h,none⟩=some (.slice hp1 hp1n hp1c)):
 Calls Tryz.prog 58 #[pgV s, .int .i64 (h:Int)] w fun e w'=>e= .returned (.slice hp1 hp1n hp1c)/\Bl w w':=by
 have hbl:=(cell_there hc).1;have i0:¬(h:Int)<0:=om;have i1:¬(s.hn:Int)<=(h:Int):=om;unfold pgV;rw[hps];clear hps;go_enter Tryz.func58,Tryz.ntmps58;go_wp2_with fail;go_ret;exact ⟨rfl,bL⟩
theorem setA_any {base:Nat} {w0:World} {x:Pkt} {r v f mm:Value} {fs:List Value} (s:PgS) {p:Prg} (hp:PgOk w0 s p) (hlow:Bl w0 w) (hbs:w0.heap.size<=base) (hP:PktB base w X x r v f mm fs) (hF:PktF p x) {j:Nat} {l:List Nat} {vb:Bool} (hl:x.fields[h]?=some l) (hj:j<l.length) (hv:x.valid[h]?=some vb) (hn:n<B*B):
 Calls Tryz.prog 114 #[pgV s, .pointer (some ⟨X,0,none⟩), .int .i64 (h:Int), .int .i64 (j:Int),numV n] w fun e w'=>e= .returned (.tuple #[])/\PktB base w' X (setF p x (h:Int) (j:Int) n) r v f mm fs/\Fr (PS X r v f mm fs) w w':=by
 obtain ⟨Y,hY⟩:=nm (setF p x (h:Int) (j:Int) n);rw[<- hY];obtain ⟨nj,hnj⟩:∃nj,l[j]?=some nj:=⟨_,gE_ hj⟩;have h1:=(gL_ hv).1;have h2:=(gL_ hl).1;have hgv:x.valid.getD h false=vb:=by rw[List.getD_eq_getElem?_getD,hv];rfl
 have hgl:x.fields.getD h []=l:=by rw[List.getD_eq_getElem?_getD,hl];rfl
 obtain ⟨wd,hwd⟩:=nm ((p.heads.getD h []).getD j 0);have hY2:Y=if vb=true then { x with fields:=x.fields.set h (l.set j (n%2 ^ sh wd)) } else { x with access:=true }:=by
  rw[hY];unfold setF headW;rw[Int.toNat_natCast,Int.toNat_natCast,hgv,hgl, <-hwd,if_pos];unfold thereP;rw[Int.toNat_natCast,hgl];omega
 have hhl:h<p.heads.length:=by rw[<- hF.f];exact h2
 have hjl:j<(p.heads.getD h []).length:=by rw[<- hF.fl h l hl];exact hj
 obtain ⟨hb0,ho0,hp1,hn1,hc1,hps,hhb,z0,hz0⟩:=IsRow.el hp.heads (j:=h) hhl;obtain ⟨wb,wo,hps1,hwb,z1⟩:=IRow.el hz0 (j:=j) hjl;rw[<- hwd] at z1;have hhi:(h:Int)<(s.hn:Int):=by have:=hp.heads.ln.1;omega
 have hfi:(j:Int)<(hn1:Int):=by have:=hz0.ln.1;omega
 have hfi2:¬(hn1:Int)<=(j:Int):=om;have HYH:Hd (∀ W,Bl w W->Cl W hb0 (ho0+h) (.slice hp1 hn1 hc1)/\Cl W wb (wo+j) (.int .i64 wd)):=fun W hh=>by
  have hb:=hlow.trans (hh.mono hlow.size);exact ⟨(hb.cell (p:=⟨hb0,ho0+h,none⟩) hhb).trans z0,(hb.cell (p:=⟨wb,wo+j,none⟩) hwb).trans z1⟩
 have HPS:=hD hps;have HHB:Hd (hb0<base):=Nat.lt_of_lt_of_le hhb hbs;have HWB:Hd (wb<base):=Nat.lt_of_lt_of_le hwb hbs;have HWI:Hd (∀ W,Bl w W->CR 58 #[pgV s, .int .i64 (h:Int)] W (.slice hp1 hn1 hc1)):=fun W hb=>widthsA_any s W hhi hps (HYH.o W hb).1
 have HCU:Hd (∀ W,CR 99 #[numV n, .int .i64 wd] W (numV (n%2 ^ sh wd))):=fun W=>numCut_ret n wd W hn
 have hMB:n%2 ^ sh wd<B*B:=Nat.lt_of_le_of_lt (Nat.mod_le _ _) hn;have HYV:=hD hY2;have HP:=hD hP;have HHV:=hD hv;have HHL:=hD hl;have HHN:=hD hnj;have HJ:=hD hj;have HAS:Hd (∀ W,Bl w W->CR 57 #[.pointer (some ⟨X,0,none⟩), .int .i64 (h:Int)] W (.bool true)):=fun W hb=>has_true (hP.below hb) h h1 h2
 have i1:(h:Int)<(x.valid.length:Int):=om;have i2:(h:Int)<(x.fields.length:Int):=om;have i3:(j:Int)<(l.length:Int):=om;have i4:¬(l.length:Int)<=(j:Int):=om;have i5:¬(j:Int)<0:=om;have hXl:=hP.lt;subst hps1;clear hY hY2 hP hl hv h1 h2 hgv hgl hwd hp hlow hbs hF hj hnj hhl hjl hps hhb z0 hz0 hwb z1 hn;obtain ⟨y0,z0,he,hey,hez⟩:=numV_parts n;have HE:=hD he;rw[he] at HCU⊢;clear he hey hez;generalize n%2 ^ sh wd=M at*;obtain ⟨y3,z3,he3,hey3,hez3⟩:=numV_parts M;have HE3:=hD (And.intro he3 (And.intro hey3 hez3));rw[he3] at HCU;clear he3 hey3 hez3;unfold pgV at HWI⊢;go_enter Tryz.func114,Tryz.ntmps114;go_upto_region 1 with fail;obtain ⟨W0,hW0⟩:=nm ((w.alloc (.cells (pA s) 33)).alloc (.cells #[.int .u64 (y0:Int), .int .u64 (z0:Int)] 82));have HB0:Hd (Bl w W0):=by show Below _ _ _;rw[hW0];exact bL
 have HG0:Hd (GBox W0 w.heap.size s):=by show _=_;rw[hW0,Below.heap_alloc _ _ _ sm];exact heap_new _ _
 have HX0:Hd (Bx2 W0 (w.heap.size+1) (y0:Int) (z0:Int)):=by
  exact gZ
 rw[<- hW0];clear hW0;go_upto_region 2 with (first
  |(go_at_call 57;refine (HAS.o _ HB0.o).mono ?_;rintro e w1 ⟨rfl,hb1⟩;have HBA:=hD hb1;have HB1:=hD (HB0.o.trans (hb1.mono HB0.o.size));have HP1:=hD (HP.o.below HB1.o);have HG1:Hd (GBox w1 w.heap.size s):=(hb1.block _ (lt_of_some HG0.o)).trans HG0.o;have HX1:Hd (Bx2 w1 (w.heap.size+1) (y0:Int) (z0:Int)):=HX0.o.below hb1;obtain ⟨vg,vc,fg,fc,ug,uc,c2,c3,cv,cf,d0,d1⟩:=HP1.o.reads HHL.o HHN.o HHV.o;obtain ⟨q0,q1,q2,q3,q4,q5,q6,q7,q8,q9,q10,q11⟩:=HG1.o.cells;clear hb1)
  |(go_at_call 58;refine (HWI.o _ HB1.o).mono ?_;rintro e w2 ⟨rfl,hb2⟩;have HB2:=hD (HB1.o.trans (hb2.mono HB1.o.size));have HP2:=hD (HP.o.below HB2.o);have HG2:Hd (GBox w2 w.heap.size s):=(hb2.block _ (lt_of_some HG1.o)).trans HG1.o;have HX2:Hd (Bx2 w2 (w.heap.size+1) (y0:Int) (z0:Int)):=HX1.o.below hb2;clear c2 c3 cv cf d0 d1 q0 q1 q2 q3 q4 q5 q6 q7 q8 q9 q10 q11 hb2))
 obtain ⟨vg2,vc2,fg2,fc2,ug2,uc2,c2,c3,cv,cf,d0,d1⟩:=HP2.o.reads HHL.o HHN.o HHV.o;cases vb
 ·have HYX:Hd (Y=x.acc true):=by
   show _=_;rw[HYV.o,if_neg sm];simp[Pkt.acc]
  have e8:=HP2.o.cell (i:=8) rfl;have f8:=HP2.o.free 8;go_wp2_with fail;exact bodyPost_ret (v:= .tuple #[]) (by simp[results,Tryz.results114,go_sem]) rfl ⟨rfl,by rw[HYX.o];exact HP2.o.setAcc,(Fr.of_below HB2.o).set (.inl (.inl rfl)) _⟩
 ·have HYX:Hd (Y={ x with fields:=x.fields.set h (l.set j M) }):=by show _=_;rw[HYV.o,if_pos rfl]
  go_upto_region 4 with fail;obtain ⟨q0,q1,q2,q3,q4,q5,q6,q7,q8,q9,q10,q11⟩:=HG2.o.cells;rw[HPS.o] at q0;obtain ⟨b0,b1,-,-⟩:=HX2.o.cells;obtain ⟨z0',z1'⟩:=HYH.o w2 HB2.o;clear q1 q2 q3 q4 q5 q6 q7 q8 q9 q10 q11;clear c2 c3 cv cf d0 d1;obtain ⟨fg,fc,u,hfe,-,cf,hu,-⟩:=HP2.o.getRow HHL.o;obtain ⟨g,cap,hue,-⟩:=HP2.o.field hu HHL.o HJ.o hMB;subst hue;have HU:=hD hu;have HFE:=hD hfe;have HQ:Hd (Cl w2 w.heap.size 0 (.slice (some ⟨hb0,ho0,none⟩) s.hn s.hc)/\Cl w2 (w.heap.size+1) 0 (.int .u64 (y0:Int))/\Cl w2 (w.heap.size+1) 1 (.int .u64 (z0:Int))/\Cl w2 hb0 (ho0+h) (.slice (some ⟨wb,wo,none⟩) hn1 hc1)/\Cl w2 wb (wo+j) (.int .i64 wd)):=⟨q0,b0,b1,z0',z1'⟩;have HNS:Hd (∀ k,PS X r v f mm fs k->k<w.heap.size/\k≠hb0/\k≠wb):=fun k hk=>⟨(HP.o.blk hk).2,fun e=>by have:=(HP.o.blk hk).1;have:=HHB.o;omega,fun e=>by have:=(HP.o.blk hk).1;have:=HWB.o;omega⟩
  have HCW:Hd (∀ W,Calls Tryz.prog 99 #[.agg #[.int .u64 (y0:Int), .int .u64 (z0:Int)], .int .i64 wd] W fun e w'=>e= .returned (.agg #[.int .u64 (y3:Int), .int .u64 (z3:Int)])/\PR base X x Y r v f mm fs W w'):=fun W=>(HCU.o W).mono fun e w' h=>⟨h.1,PR.of_below h.2⟩
  clear hu hfe cf q0 b0 b1 z0' z1';have HCB:=hD (fun (W:World) (hI:PQ base X x Y r v f mm fs w2 W)=>And.intro (hI.cell (p:=⟨w.heap.size,0,none⟩) (fun e=>by have:=(HNS.o _ e).1;exact absurd this (Nat.lt_irrefl _)) HQ.o.1) (And.intro (hI.cell (p:=⟨w.heap.size+1,0,none⟩) (fun e=>by have h0:w.heap.size+1<w.heap.size:=(HNS.o _ e).1;omega) HQ.o.2.1) (And.intro (hI.cell (p:=⟨w.heap.size+1,1,none⟩) (fun e=>by have h0:w.heap.size+1<w.heap.size:=(HNS.o _ e).1;omega) HQ.o.2.2.1) (And.intro (hI.cell (p:=⟨hb0,ho0+h,none⟩) (fun e=>(HNS.o _ e).2.1 rfl) HQ.o.2.2.2.1) (hI.cell (p:=⟨wb,wo+j,none⟩) (fun e=>(HNS.o _ e).2.2 rfl) HQ.o.2.2.2.2)))));refine region_outR (PR base X x Y r v f mm fs) (PR.refl _ _ _ _ _ _ _ _ _) kq (PQ base X x Y r v f mm fs w2) (fun _ _ h hr=>h.step hr) kq (PQ.start HP2.o) ?_;refine sq (fun aa ww ll hh=>by exact ov (xmv (hh.oL 1))) ?_;refine sq (fun aa ww ll hh=>by have:=hh.gt 0 0;exact ov gX) ?_;refine sq (fun aa ww ll hh=>by have:=hh.gt 1 0;exact ov gX) ?_;refine sq (fun aa ww ll hh=>by have:=hh.gt 2 0;obtain ⟨q0,b0,b1,d0,d1⟩:=HCB.o ww hh.inv;have c3:=hh.inv.c3;rw[HFE.o] at c3;have cf:=hh.inv.rowCell HFE.o HU.o;exact ov gX) ?_;refine sq (fun aa ww ll hh=>by exact ov (xmv (hh.oL 2))) ?_;refine sq (fun aa ww ll hh=>by have:=hh.gt 3 1;have:=hh.gt 4 0;exact ov gX) ?_;refine sq (fun aa ww ll hh=>by have:=hh.gt 5 0;obtain ⟨q0,b0,b1,d0,d1⟩:=HCB.o ww hh.inv;have c3:=hh.inv.c3;rw[HFE.o] at c3;have cf:=hh.inv.rowCell HFE.o HU.o;exact ov gX) ?_;refine sq (fun aa ww ll hh=>by exact ov (xmv (hh.oL 3))) ?_;refine sq (fun aa ww ll hh=>by have:=hh.oL 9;obtain ⟨q0,b0,b1,d0,d1⟩:=HCB.o ww hh.inv;have c3:=hh.inv.c3;rw[HFE.o] at c3;have cf:=hh.inv.rowCell HFE.o HU.o;exact ov gX) ?_;refine sq (fun aa ww ll hh=>by have:=hh.oL 5;exact ov gX) ?_;refine sq (fun aa ww ll hh=>by have:=hh.gt 9 0;obtain ⟨q0,b0,b1,d0,d1⟩:=HCB.o ww hh.inv;have c3:=hh.inv.c3;rw[HFE.o] at c3;have cf:=hh.inv.rowCell HFE.o HU.o;exact ov gX) ?_;refine sq (fun aa ww ll hh=>by exact ov (xmv (hh.oL 2))) ?_;refine sq (fun aa ww ll hh=>by have:=hh.gt 10 1;have:=hh.gt 11 0;exact ov gX) ?_;refine sq (fun aa ww ll hh=>by have:=hh.gt 12 0;obtain ⟨q0,b0,b1,d0,d1⟩:=HCB.o ww hh.inv;have c3:=hh.inv.c3;rw[HFE.o] at c3;have cf:=hh.inv.rowCell HFE.o HU.o;exact ov gX) ?_;refine sq (fun aa ww ll hh=>by exact ov (xmv (hh.oL 3))) ?_;refine sq (fun aa ww ll hh=>by have:=hh.gt 13 1;have:=hh.gt 14 0;exact ov gX) ?_;refine sq (fun aa ww ll hh=>by have:=hh.gt 15 0;obtain ⟨q0,b0,b1,d0,d1⟩:=HCB.o ww hh.inv;have c3:=hh.inv.c3;rw[HFE.o] at c3;have cf:=hh.inv.rowCell HFE.o HU.o;exact ov gX) ?_;refine ⟨.eq (.agg #[.int .u64 (y3:Int), .int .u64 (z3:Int)]),trivial,rfl,fun aa ww ll hh=>?_,?_⟩
  ·have e57:=hh.gt 8 8;have e65:=hh.gt 16 0;have ef:=evf aa;refine out_call_eq (wanted_none rfl) ?_ (HCW.o ww);exact gX
  refine sq (fun aa ww ll hh=>by have:=hh.gt 6 11;have:=hh.gt 7 10;exact ov gX) ?_;refine ⟨.rel (fun W _=>PktB base W X Y r v f mm fs),(fun W W' v h hr=>hr.is h),rfl,fun aa ww ll hh=>?_,?_⟩
  ·have e67:=hh.gt 18 0;have e66:=hh.gt 17 1;obtain ⟨fz,⟨o0,k0⟩,⟨o1,k1⟩,hpr,hpk⟩:=hh.inv.field HYX.o HU.o HHL.o HJ.o hMB;have fz0:=fz (j*2);have fz1:=fz (j*2+1);rw[<- HE3.o.2.1, <-HE3.o.2.2] at hpr hpk;refine out_store (wanted_none rfl) ?_ hpr hpk;try clear fz;exact gX
  intro ll w3 hS3 hok;have p19:=hok 19 _ rfl;clear hok;simp only[ly];first|go_wp2_with fail|skip
  go_end0;exact ⟨rfl,p19,(Fr.of_below HB2.o).trans hS3.fr⟩
open Go.RowKit
def SR (g:Nat) (s:PgS) (lp:Option Addr) (ln lc X:Nat) (gp:Option Addr) (gn gc:Nat) (wi:Bool) (i:Ist) (ep:Option Addr) (en ec:Nat) (Wk:World):Prop:=Wk.cell? ⟨g,0,none⟩=some (.slice s.hp s.hn s.hc)/\Wk.cell? ⟨g,1,none⟩=some (.slice s.mp s.mn s.mc)/\Wk.cell? ⟨g,2,none⟩=some (.slice s.sp s.sn s.sc)/\Wk.cell? ⟨g,3,none⟩=some (.slice s.ap s.an s.ac)/\Wk.cell? ⟨g,4,none⟩=some (.slice s.tp s.tn s.tc)/\Wk.cell? ⟨g,5,none⟩=some (.slice s.cp s.cn s.cc)/\Wk.cell? ⟨g,6,none⟩=some (.slice s.ep s.en s.ec)/\Wk.cell? ⟨g,7,none⟩=some (.slice s.v1 s.n1 s.c1)/\Wk.cell? ⟨g,8,none⟩=some (.slice s.v2 s.n2 s.c2)/\Wk.cell? ⟨g,9,none⟩=some (.slice s.v3 s.n3 s.c3)/\Wk.cell? ⟨g,10,none⟩=some (.slice s.v4 s.n4 s.c4)/\Wk.cell? ⟨g,11,none⟩=some (.slice s.v5 s.n5 s.c5)/\Wk.cell? ⟨g,12,none⟩=some (.slice lp ln lc)/\Wk.cell? ⟨g,13,none⟩=some (.pointer (some ⟨X,0,none⟩))/\Wk.cell? ⟨g,14,none⟩=some (.slice gp gn gc)/\Wk.cell? ⟨g,15,none⟩=some (.bool wi)/\Wk.cell? ⟨g+1,0,none⟩=some (.int .u8 i.k)/\Wk.cell? ⟨g+1,1,none⟩=some (.int .i64 i.a)/\Wk.cell? ⟨g+1,2,none⟩=some (.int .i64 i.b)/\Wk.cell? ⟨g+1,3,none⟩=some (.slice ep en ec)/\Wk.cell? ⟨g+1,4,none⟩=some (.int .i64 i.to)
theorem SR.of {W:World} {s:PgS} {lp:Option Addr} {ln lc:Nat} {gp:Option Addr} {gn gc:Nat} {wi:Bool} {i:Ist} (h1:RnBox W g s lp ln lc X gp gn gc wi) (h2:IBoxA W (g+1) i ep en ec):SR g s lp ln lc X gp gn gc wi i ep en ec W:=by
 obtain ⟨r0,r1,r2,r3,r4,r5,r6,r7,r8,r9,r10,r11,r12,r13,r14,r15⟩:=h1.cells;obtain ⟨j0,j1,j2,j3,j4⟩:=h2.cells;exact ⟨r0,r1,r2,r3,r4,r5,r6,r7,r8,r9,r10,r11,r12,r13,r14,r15,j0,j1,j2,j3,j4⟩
section
variable {w0 w w':World} {base X:Nat} {p:Prg} {act:Int} {x y:Pkt} {r v f mm:Value} {fs:List Value} {args:List Nat} {gp:Option Addr} {gn gc:Nat}
theorem dropA (h:RCtx w0 w base X p act x r v f mm fs args gp gn gc) (s:PgS) (lp:Option Addr) (ln lc:Nat) (wi:Bool) {i:Ist} :
 Calls Tryz.prog 91 #[rnA s lp ln lc X gp gn gc wi,inA i ep en ec] w fun e w'=>e= .returned (.tuple #[])/\PktB base w' X ({ x with dropped:=true }) r v f mm fs/\Fr (PS X r v f mm fs) w w':=by
 have HP:=hD h.P;have hXl:=h.P.lt;clear h;unfold rnA inA;go_enter Tryz.func91,Tryz.ntmps91;go_upto_region 1 with fail;obtain ⟨W0,hW0⟩:=nm ((w.alloc (.cells #[.slice s.hp s.hn s.hc, .slice s.mp s.mn s.mc, .slice s.sp s.sn s.sc, .slice s.ap s.an s.ac, .slice s.tp s.tn s.tc, .slice s.cp s.cn s.cc, .slice s.ep s.en s.ec, .slice s.v1 s.n1 s.c1, .slice s.v2 s.n2 s.c2, .slice s.v3 s.n3 s.c3, .slice s.v4 s.n4 s.c4, .slice s.v5 s.n5 s.c5, .slice lp ln lc, .pointer (some ⟨X,0,none⟩), .slice gp gn gc, .bool wi] 127)).alloc (.cells #[.int .u8 i.k, .int .i64 i.a, .int .i64 i.b, .slice ep en ec, .int .i64 i.to] 86));have HB0:Hd (Bl w W0):=by show Below _ _ _;rw[hW0];exact bL
 have HR0:Hd (RnBox W0 w.heap.size s lp ln lc X gp gn gc wi):=by show _=_;rw[hW0,Below.heap_alloc _ _ _ sm];exact heap_new _ _
 have HI0:Hd (IBoxA W0 (w.heap.size+1) i ep en ec):=by
  exact gZ
 have hsz:W0.heap.size=w.heap.size+1+1:=by rw[hW0];simp
 rw[<- hW0];clear hW0;obtain ⟨r0,r1,r2,r3,r4,r5,r6,r7,r8,r9,r10,r11,r12,r13,r14,r15⟩:=HR0.o.cells;obtain ⟨j0,j1,j2,j3,j4⟩:=HI0.o.cells;have a5:=(HP.o.below HB0.o).cell (i:=5) rfl;have f5:=(HP.o.below HB0.o).free 5;go_wp2_with fail;go_end0;exact ⟨rfl,(HP.o.below HB0.o).put (i:=5) (u:= .bool true) (by simp[pktCells]) rfl rfl rfl rfl,(Fr.of_below HB0.o).set (.inl (.inl rfl)) _⟩
theorem validRA (h:RCtx w0 w base X p act x r v f mm fs args gp gn gc) (s:PgS) (lp:Option Addr) (ln lc:Nat) (wi:Bool) {i:Ist} (ha:0<=i.a/\i.a<(p.heads.length:Int)):
 Calls Tryz.prog 93 #[rnA s lp ln lc X gp gn gc wi,inA i ep en ec] w fun e w'=>e= .returned (.tuple #[])/\PktB base w' X (validF x i.a (decide (i.b=1))) r v f mm fs/\Fr (PS X r v f mm fs) w w':=by
 obtain ⟨n,hn⟩:∃n:Nat,i.a=(n:Int):=⟨i.a.toNat,om⟩;have hl:=getD_at (l:=x.fields) [] (show n<x.fields.length by rw[h.F.f];omega);have hv:=getD_at (l:=x.valid) false (show n<x.valid.length by rw[h.F.v];omega);have HC:Hd (∀ W,Bl w W->Calls Tryz.prog 116 #[.pointer (some ⟨X,0,none⟩), .int .i64 i.a, .bool (decide (i.b=1))] W fun e w'=>e= .returned (.tuple #[])/\PktB base w' X (validF x i.a (decide (i.b=1))) r v f mm fs/\Fr (PS X r v f mm fs) W w'):=fun W hb=>by
  rw[hn];exact validA_any (h.P.below hb) _ hl hv
 clear h ha hn hl hv;unfold rnA inA;go_enter Tryz.func93,Tryz.ntmps93;go_upto_region 1 with fail;obtain ⟨W0,hW0⟩:=nm ((w.alloc (.cells #[.slice s.hp s.hn s.hc, .slice s.mp s.mn s.mc, .slice s.sp s.sn s.sc, .slice s.ap s.an s.ac, .slice s.tp s.tn s.tc, .slice s.cp s.cn s.cc, .slice s.ep s.en s.ec, .slice s.v1 s.n1 s.c1, .slice s.v2 s.n2 s.c2, .slice s.v3 s.n3 s.c3, .slice s.v4 s.n4 s.c4, .slice s.v5 s.n5 s.c5, .slice lp ln lc, .pointer (some ⟨X,0,none⟩), .slice gp gn gc, .bool wi] 127)).alloc (.cells #[.int .u8 i.k, .int .i64 i.a, .int .i64 i.b, .slice ep en ec, .int .i64 i.to] 86));have HB0:Hd (Bl w W0):=by show Below _ _ _;rw[hW0];exact bL
 have HR0:Hd (RnBox W0 w.heap.size s lp ln lc X gp gn gc wi):=by show _=_;rw[hW0,Below.heap_alloc _ _ _ sm];exact heap_new _ _
 have HI0:Hd (IBoxA W0 (w.heap.size+1) i ep en ec):=by
  exact gZ
 have hsz:W0.heap.size=w.heap.size+1+1:=by rw[hW0];simp
 rw[<- hW0];clear hW0;obtain ⟨r0,r1,r2,r3,r4,r5,r6,r7,r8,r9,r10,r11,r12,r13,r14,r15⟩:=HR0.o.cells;obtain ⟨j0,j1,j2,j3,j4⟩:=HI0.o.cells;go_wp2_with (go_at_call 116;refine (HC.o _ HB0.o).mono ?_;rintro e w1 ⟨rfl,hp1,hf1⟩;have HP1:=hD hp1;have HF1:=hD hf1;clear hp1 hf1);go_end0;exact ⟨rfl,HP1.o,(Fr.of_below HB0.o).trans HF1.o⟩
theorem seen_fits (hF:PktF p x) (c:List Nod):PktF p (seen x c):=hF.other rfl rfl rfl
theorem setRA (h:RCtx w0 w base X p act x r v f mm fs args gp gn gc) (s:PgS) (lp:Option Addr) (ln lc:Nat) (wi:Bool) {i:Ist} {wt:Int} (hp:PgOk w0 s p) (hw:widthP p act i.e=some wt) (hlen:i.e.length<=6000) (hc:CRow w0 (.slice ep en ec) i.e) (ha:0<=i.a/\i.a<(p.heads.length:Int)/\0<=i.b/\i.b<((p.heads.getD i.a.toNat []).length:Int)):
 Calls Tryz.prog 88 #[rnA s lp ln lc X gp gn gc wi,inA i ep en ec] w fun e w'=>e= .returned (.tuple #[])/\PktB base w' X (setF p (seen x i.e) i.a i.b (evC x args i.e)) r v f mm fs/\Fr (PS X r v f mm fs) w w':=by
 obtain ⟨n,hn⟩:∃n:Nat,i.a=(n:Int):=⟨i.a.toNat,om⟩;obtain ⟨j,hj⟩:∃j:Nat,i.b=(j:Int):=⟨i.b.toNat,om⟩;have hl:=getD_at (l:=x.fields) [] (show n<x.fields.length by rw[h.F.f];omega);have hv:=getD_at (l:=x.valid) false (show n<x.valid.length by rw[h.F.v];omega);have hjl:j<(x.fields.getD n []).length:=by
  rw[h.F.fl n _ hl];have:=ha.2.2.2;rw[hn,Int.toNat_natCast] at this;omega
 have hBB:evC x args i.e<B*B:=sh_ltBB (evC_width x args hw);have HV:Hd (∀ W,Bl w W->Calls Tryz.prog 94 #[rnA s lp ln lc X gp gn gc wi,inA i ep en ec] W fun e w'=>e= .returned (numV (evC x args i.e))/\PktB base w' X (seen x i.e) r v f mm fs/\Fr (·=X) W w'):=fun W hb=>rvalueA (h.below hb) s lp ln lc wi hw hlen hc
 have HC:Hd (∀ W,Bl w0 W->PktB base W X (seen x i.e) r v f mm fs->Calls Tryz.prog 114 #[pgV s, .pointer (some ⟨X,0,none⟩), .int .i64 i.a, .int .i64 i.b,numV (evC x args i.e)] W fun e w'=>e= .returned (.tuple #[])/\PktB base w' X (setF p (seen x i.e) i.a i.b (evC x args i.e)) r v f mm fs/\Fr (PS X r v f mm fs) W w'):=fun W hb hP=>by
  rw[hn,hj];exact setA_any s hp hb h.hb hP (seen_fits h.F i.e) hl hjl hv hBB
 have HLW:Hd (∀ W,Fr (·=X) w W->Bl w0 W):=fun W hf=>h.low.trans (hf.below h.low.size fun k e=>by rw[show k=X from e];exact Nat.le_trans h.hb h.P.lo)
 have HPS:Hd (∀ k,PS X r v f mm fs k->k<w.heap.size):=fun k hk=>(h.lt hk).2
 have hXl:=h.P.lt;clear h hp hw hlen hc ha hn hj hl hv hjl hBB;generalize evC x args i.e=R at*;obtain ⟨y3,z3,he3,-,-⟩:=numV_parts R;rw[he3] at HV HC;generalize setF p (seen x i.e) i.a i.b R=Y at*;clear he3;unfold pgV at HC;unfold rnA inA at HV;unfold rnA inA;go_enter Tryz.func88,Tryz.ntmps88;go_upto_region 1 with fail;obtain ⟨W0,hW0⟩:=nm ((w.alloc (.cells #[.slice s.hp s.hn s.hc, .slice s.mp s.mn s.mc, .slice s.sp s.sn s.sc, .slice s.ap s.an s.ac, .slice s.tp s.tn s.tc, .slice s.cp s.cn s.cc, .slice s.ep s.en s.ec, .slice s.v1 s.n1 s.c1, .slice s.v2 s.n2 s.c2, .slice s.v3 s.n3 s.c3, .slice s.v4 s.n4 s.c4, .slice s.v5 s.n5 s.c5, .slice lp ln lc, .pointer (some ⟨X,0,none⟩), .slice gp gn gc, .bool wi] 127)).alloc (.cells #[.int .u8 i.k, .int .i64 i.a, .int .i64 i.b, .slice ep en ec, .int .i64 i.to] 86));have HB0:Hd (Bl w W0):=by show Below _ _ _;rw[hW0];exact bL
 have HR0:Hd (RnBox W0 w.heap.size s lp ln lc X gp gn gc wi):=by show _=_;rw[hW0,Below.heap_alloc _ _ _ sm];exact heap_new _ _
 have HI0:Hd (IBoxA W0 (w.heap.size+1) i ep en ec):=by
  exact gZ
 have hsz:W0.heap.size=w.heap.size+1+1:=by rw[hW0];simp
 rw[<- hW0];clear hW0;obtain ⟨r0,r1,r2,r3,r4,r5,r6,r7,r8,r9,r10,r11,r12,r13,r14,r15⟩:=HR0.o.cells;obtain ⟨j0,j1,j2,j3,j4⟩:=HI0.o.cells;have HSR0:Hd (SR w.heap.size s lp ln lc X gp gn gc wi i ep en ec W0.drew):=⟨r0,r1,r2,r3,r4,r5,r6,r7,r8,r9,r10,r11,r12,r13,r14,r15,j0,j1,j2,j3,j4⟩;go_region_held3 (fun Wk=>Wk.cell? ⟨w.heap.size,0,none⟩=some (.slice s.hp s.hn s.hc)/\Wk.cell? ⟨w.heap.size,1,none⟩=some (.slice s.mp s.mn s.mc)/\Wk.cell? ⟨w.heap.size,2,none⟩=some (.slice s.sp s.sn s.sc)/\Wk.cell? ⟨w.heap.size,3,none⟩=some (.slice s.ap s.an s.ac)/\Wk.cell? ⟨w.heap.size,4,none⟩=some (.slice s.tp s.tn s.tc)/\Wk.cell? ⟨w.heap.size,5,none⟩=some (.slice s.cp s.cn s.cc)/\Wk.cell? ⟨w.heap.size,6,none⟩=some (.slice s.ep s.en s.ec)/\Wk.cell? ⟨w.heap.size,7,none⟩=some (.slice s.v1 s.n1 s.c1)/\Wk.cell? ⟨w.heap.size,8,none⟩=some (.slice s.v2 s.n2 s.c2)/\Wk.cell? ⟨w.heap.size,9,none⟩=some (.slice s.v3 s.n3 s.c3)/\Wk.cell? ⟨w.heap.size,10,none⟩=some (.slice s.v4 s.n4 s.c4)/\Wk.cell? ⟨w.heap.size,11,none⟩=some (.slice s.v5 s.n5 s.c5)/\Wk.cell? ⟨w.heap.size,12,none⟩=some (.slice lp ln lc)/\Wk.cell? ⟨w.heap.size,13,none⟩=some (.pointer (some ⟨X,0,none⟩))/\Wk.cell? ⟨w.heap.size,14,none⟩=some (.slice gp gn gc)/\Wk.cell? ⟨w.heap.size,15,none⟩=some (.bool wi)/\Wk.cell? ⟨w.heap.size+1,0,none⟩=some (.int .u8 i.k)/\Wk.cell? ⟨w.heap.size+1,1,none⟩=some (.int .i64 i.a)/\Wk.cell? ⟨w.heap.size+1,2,none⟩=some (.int .i64 i.b)/\Wk.cell? ⟨w.heap.size+1,3,none⟩=some (.slice ep en ec)/\Wk.cell? ⟨w.heap.size+1,4,none⟩=some (.int .i64 i.to))
  (first|exact HSR0.o|exact HSR1.o|exact HSR2.o|assumption)
  (first
  |(go_at_call 94;refine (HV.o _ HB0.o.drew).mono ?_;rintro e w1 ⟨rfl,hp1,hf1⟩;have HP1:=hD hp1;have HF1:Hd (Fr (·=X) W0 w1):=(Fr.of_below (Below.drew br)).trans hf1;clear hp1 hf1;have HR1:Hd (RnBox w1 w.heap.size s lp ln lc X gp gn gc wi):=(HF1.o.block _ om (by show ¬w.heap.size=X;omega)).trans HR0.o;have HI1:Hd (IBoxA w1 (w.heap.size+1) i ep en ec):=(HF1.o.block _ om (by show ¬w.heap.size+1=X;omega)).trans HI0.o;have HSR1:Hd (SR w.heap.size s lp ln lc X gp gn gc wi i ep en ec w1):=SR.of HR1.o HI1.o)
  |(go_at_call 114;refine (HC.o _ (HLW.o _ ((Fr.of_below HB0.o).trans HF1.o)) HP1.o).mono ?_;rintro e w2 ⟨rfl,hp2,hf2⟩;have HP2:=hD hp2;have HF2:=hD hf2;clear hp2 hf2;have HSR2:Hd (SR w.heap.size s lp ln lc X gp gn gc wi i ep en ec w2):=SR.of ((HF2.o.block _ (by have:=HF1.o.size;omega) (fun e=>by have:=HPS.o _ e;omega)).trans HR1.o) ((HF2.o.block _ (by have:=HF1.o.size;omega) (fun e=>by have:=HPS.o _ e;omega)).trans HI1.o)))
 rename_i hH;clear hH;go_wp2_with fail;go_end0;exact ⟨rfl,HP2.o,((Fr.of_below HB0.o).trans HF1.o.ps).trans HF2.o⟩
end
end Go.Proofs.YtikilcbpogfgkaaGreat
