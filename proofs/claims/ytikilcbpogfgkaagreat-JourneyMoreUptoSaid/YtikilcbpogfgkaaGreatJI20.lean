/- Lemmas. -/
import Derived.Test.YtikilcbpogfgkaaGreatJI19
import Derived.Test.YtikilcbpogfgkaaGreatJI16
namespace Go.Proofs.YtikilcbpogfgkaaGreat
open Go.RowKit
variable {w:World} {base E size n g cap k X a:Nat} {xs fs:List Value} {v r m u z:Value} {x y:Pkt} {t:Tr}
def BAt (w:World) (b o:Nat) (k:Bool):Prop:=w.cell? ⟨b,o,none⟩=some (.bool k)
abbrev BRow:=RowAt 1 BAt
abbrev NsRow:=RowAt 1 (SlAt NRow)
theorem own_set (h:w.ownsRow base E size (.slice (some ⟨g,0,none⟩) n cap) n xs) {i:Nat} (_hi:i<xs.length) (v:Value):(w.setCell ⟨g,i,none⟩ v).ownsRow base E size (.slice (some ⟨g,0,none⟩) n cap) n (xs.set i v):=by
 obtain ⟨hl,h|⟨g',cap',cur,h1,h2,h3,h4,h5,h6,h7⟩⟩:=h
 ·simp at h
 simp only[Value.slice.injEq,Option.some.injEq,Addr.mk.injEq,and_true,true_and] at h1;obtain ⟨rfl,rfl⟩:=h1;refine ⟨by simpa using hl, .inr ⟨g,cap,_,rfl,h2,heap_setCell_same w g i cur E v h3,h4,h5,by simpa using h6,?_⟩⟩;rw[Array.toList_setIfInBounds,List.take_set,h7]
theorem own_far {w':World} (h:w.ownsRow base E size v n xs) (hk:∀k,v.ownBlock=some k->w'.heap[k]?=w.heap[k]?):w'.ownsRow base E size v n xs:=by
 obtain ⟨hl,h|⟨g,cap,cur,h1,h2,h3,h4⟩⟩:=h
 ·exact ⟨hl, .inl h⟩
 exact ⟨hl, .inr ⟨g,cap,cur,h1,h2,by rw[hk g (by rw[h1];rfl)];exact h3,h4⟩⟩
theorem NOwn.far {w':World} {l:List Nat} (h:NOwn base w v l) (hk:∀k,v.ownBlock=some k->w'.heap[k]?=w.heap[k]?):NOwn base w' v l:=⟨own_far h.1 hk,h.2⟩
theorem own_size (h:w.ownsRow base E size v n xs) (hk:v.ownBlock=some k):base<=k/\k<w.heap.size:=h.lt k hk
theorem own_get {n0 e:Nat} (h:w.ownsRow n0 e k (.slice (some ⟨g,0,none⟩) n cap) n xs) {i:Nat} (hv:xs[i]?=some v):w.cell? ⟨g,i,none⟩=some v:=by
 exact gP1
theorem own_some (h:w.ownsRow base E size v n xs) (hn:0<n):∃g cap,v= .slice (some ⟨g,0,none⟩) n cap/\base<=g/\g<w.heap.size/\n<=cap/\cap<=maxLen/\(∀ i u,xs[i]?=some u->w.cell? ⟨g,i,none⟩=some u)/\(∀ i,w.frozen? ⟨g,i,none⟩=false):=by
 obtain ⟨hl,h|⟨g,cap,cur,h1,h2,h3,h4,h5,h6,h7⟩⟩:=h
 ·omega
 refine ⟨g,cap,h1,h2,(gA_ h3).1,h4,h5,fun i u hi=>?_,fun i=>by simp[World.frozen?,h3]⟩;subst h1;exact own_get ⟨hl, .inr ⟨g,cap,cur,rfl,h2,h3,h4,h5,h6,h7⟩⟩ hi
def pktCells (x:Pkt) (r v f m:Value):List Value:=[.int .i64 x.port,r,v,f,m, .bool x.dropped, .bool x.sent, .int .i64 x.egress, .bool x.access]
structure PktB (base:Nat) (w:World) (X:Nat) (x:Pkt) (r v f m:Value) (fs:List Value):Prop where
 st:w.heap[X]?=some (.cells (pktCells x r v f m).toArray 45 (0,0))
 hr:w.ownsRow base 5 1 r x.rest.length (x.rest.map (Value.int .u8))
 hv:w.ownsRow base 4 1 v x.valid.length (x.valid.map Value.bool)
 hf:w.ownsRow base 43 1 f x.fields.length fs
 hfs:∀(i:Nat) (u:Value) (l:List Nat),fs[i]?=some u->x.fields[i]?=some l->NOwn base w u l
 hm:NOwn base w m x.metas
 lo:base<=X
 nd:(X::([r,v,f,m]++fs).filterMap Value.ownBlock).Nodup
theorem PktB.flen {f:Value} (h:PktB base w X x r v f m fs):fs.length=x.fields.length:=by have:=h.hf.1;omega
theorem PktB.far {w':World} {f:Value} (h:PktB base w X x r v f m fs) (hk:∀k,base<=k->k<w.heap.size->w'.heap[k]?=w.heap[k]?):PktB base w' X x r v f m fs:=by
 have hX:X<w.heap.size:=(gA_ h.st).1;refine ⟨(hk X h.lo hX).trans h.st,own_far h.hr fun k e=>?_,own_far h.hv fun k e=>?_,own_far h.hf fun k e=>?_,fun i u l h1 h2=>(h.hfs i u l h1 h2).far fun k e=>?_,h.hm.far fun k e=>?_,h.lo,h.nd⟩
 ·have:=own_size h.hr e;exact gC3
 ·have:=own_size h.hv e;exact gC3
 ·have:=own_size h.hf e;exact gC3
 ·have:=own_size (h.hfs i u l h1 h2).1 e;exact gC3
 have:=own_size h.hm.1 e;exact gC3
theorem PktB.below {w':World} {f:Value} (h:PktB base w X x r v f m fs) (hb:Bl w w'):PktB base w' X x r v f m fs:=h.far fun k _ hk=>hb.block k hk
theorem PktB.cell {f:Value} (h:PktB base w X x r v f m fs) {i:Nat} (hi:(pktCells x r v f m)[i]?=some u):w.cell? ⟨X,i,none⟩=some u:=by
 simp only[World.cell?,h.st];simpa using hi
theorem PktB.free {f:Value} (h:PktB base w X x r v f m fs) (i:Nat):w.frozen? ⟨X,i,none⟩=false:=by simp[World.frozen?,h.st]
theorem PktB.lt {f:Value} (h:PktB base w X x r v f m fs):X<w.heap.size:=(gA_ h.st).1
theorem PktB.put {f:Value} (h:PktB base w X x r v f m fs) {i:Nat} (hc:(pktCells x r v f m).set i u=pktCells y r v f m) (e1:y.rest=x.rest) (e2:y.valid=x.valid) (e3:y.fields=x.fields) (e4:y.metas=x.metas):PktB base (w.setCell ⟨X,i,none⟩ u) X y r v f m fs:=by
 have hne:∀k,k∈([r,v,f,m]++fs).filterMap Value.ownBlock->(w.setCell ⟨X,i,none⟩ u).heap[k]?=w.heap[k]?:=fun k hk=>heap_setCell_other w _ k u (fun e=>(List.nodup_cons.1 h.nd).1 (by have:k=X:=e;rw[this] at hk;exact hk))
 have hmem:∀z∈[r,v,f,m]++fs,∀k,z.ownBlock=some k->(w.setCell ⟨X,i,none⟩ u).heap[k]?=w.heap[k]?:=fun z hz k hk=>hne k (List.mem_filterMap.2 ⟨z,hz,hk⟩)
 refine ⟨?_,?_,?_,?_,?_,?_,h.lo,h.nd⟩
 ·rw[heap_setCell_same w X i _ _ u h.st, <-hc];simp
 ·rw[e1];exact own_far h.hr (hmem r sm)
 ·rw[e2];exact own_far h.hv (hmem v sm)
 ·rw[e3];exact own_far h.hf (hmem f sm)
 ·intro j z l h1 h2;rw[e3] at h2;exact (h.hfs j z l h1 h2).far (hmem z (by simp[gM_ h1]))
 rw[e4];exact h.hm.far (hmem m sm)
theorem blocks_ne {L:List Value} (h:(L.filterMap Value.ownBlock).Nodup) {b:Nat} {y:Value} (ha:L[a]?=some z) (hb:L[b]?=some y) (hab:a≠b) (hg:z.ownBlock=some g) (hk:y.ownBlock=some k):k≠g:=by
 rw[List.Nodup,List.pairwise_filterMap,List.pairwise_iff_getElem] at h;obtain ⟨a1,rfl⟩:=gL_ ha;obtain ⟨b1,rfl⟩:=gL_ hb;rcases Nat.lt_or_gt_of_ne hab with q|q
 ·exact (h a b a1 b1 q g hg k hk).symm
 exact h b a b1 a1 q k hk g hg
section
variable {base:Nat} {w w':World} {X:Nat} {x:Pkt} {r v f m:Value} {fs:List Value}
theorem PktB.nd2 (h:PktB base w X x r v f m fs):(([r,v,f,m]++fs).filterMap Value.ownBlock).Nodup:=(List.nodup_cons.1 h.nd).2
theorem PktB.nX (h:PktB base w X x r v f m fs) (ha:([r,v,f,m]++fs)[a]?=some z) (hg:z.ownBlock=some g):g≠X:=fun e=>
 (List.nodup_cons.1 h.nd).1 (by rw[<- e];exact List.mem_filterMap.2 ⟨z,gM_ ha,hg⟩)
theorem PktB.row (h:PktB base w X x r v f m fs) (ha:([r,v,f,m]++fs)[a]?=some z) (hg:z.ownBlock=some g) (hk:∀k,k≠g->w'.heap[k]?=w.heap[k]?):
 w'.heap[X]?=some (.cells (pktCells x r v f m).toArray 45 (0,0))/\∀(b:Nat) (y:Value),([r,v,f,m]++fs)[b]?=some y->b≠a->∀k,y.ownBlock=some k->w'.heap[k]?=w.heap[k]?:=
 ⟨(hk X (h.nX ha hg).symm).trans h.st,fun _b _y hb hab k hy=>hk k (blocks_ne h.nd2 ha hb (fun e=>hab e.symm) hg hy)⟩
theorem set2_other (w:World) (g i j:Nat) (a b:Value) (h:k≠g):((w.setCell ⟨g,i,none⟩ a).setCell ⟨g,j,none⟩ b).heap[k]?=w.heap[k]?:=
 (heap_setCell_other _ _ k b h).trans (heap_setCell_other w _ k a h)
theorem numC_set:∀(l:List Nat) (j n:Nat),j<l.length->((l.flatMap numC).set (j*2) (.int .u64 ((n/B:Nat):Int))).set (j*2+1) (.int .u64 ((n%B:Nat):Int))=(l.set j n).flatMap numC
 |[],j,n,h=>by simp at h
 |y::l,0,n,_=>by simp[numC]
 |y::l,j+1,n,h=>by
  have ih:=numC_set l j n (by simpa using h);rw[List.set_cons_succ,List.flatMap_cons,List.flatMap_cons, <-ih];have e1:(j+1)*2=j*2+1+1:=om
  rw[e1];simp only[numC,List.cons_append,List.nil_append,List.set_cons_succ]
theorem NOwn.set {l:List Nat} (h:NOwn base w (.slice (some ⟨g,0,none⟩) n cap) l) {j:Nat} (hj:j<l.length) (hk:k<B*B):NOwn base ((w.setCell ⟨g,j*2,none⟩ (.int .u64 ((k/B:Nat):Int))).setCell ⟨g,j*2+1,none⟩ (.int .u64 ((k%B:Nat):Int))) (.slice (some ⟨g,0,none⟩) n cap) (l.set j k):=by
 have hlen:(l.flatMap numC).length=l.length*2:=flat_len flatGN.len l;obtain ⟨h1,h2⟩:=h;have e0:n=l.length:=by
  obtain ⟨-,h|⟨g',cap',cur,e,-⟩⟩:=h1
  ·simp at h
  simp only[Value.slice.injEq] at e;exact e.2.1
 subst e0;have q1:=own_set h1 (i:=j*2) om (.int .u64 ((k/B:Nat):Int));have q2:=own_set q1 (i:=j*2+1) (by rw[List.length_set];omega) (.int .u64 ((k%B:Nat):Int));rw[numC_set l j k hj] at q2;refine ⟨by rw[List.length_set];exact q2,fun y hy=>?_⟩;rcases List.mem_or_eq_of_mem_set hy with q|q
 ·exact h2 y q
 rw[q];exact hk
theorem PktB.field (h:PktB base w X x r v f m fs) {i j:Nat} {l:List Nat} (hi:fs[i]?=some u) (hl:x.fields[i]?=some l) (hj:j<l.length) (hk:k<B*B):∃g cap,u= .slice (some ⟨g,0,none⟩) l.length cap/\base<=g/\g<w.heap.size/\g≠X/\(l.length:Int)<=(cap:Int)/\
 (∀ q,w.frozen? ⟨g,q,none⟩=false)/\(∃ y,w.cell? ⟨g,j*2,none⟩=some y)/\(∃ y,w.cell? ⟨g,j*2+1,none⟩=some y)/\
 PktB base ((w.setCell ⟨g,j*2,none⟩ (.int .u64 ((k/B:Nat):Int))).setCell ⟨g,j*2+1,none⟩ (.int .u64 ((k%B:Nat):Int))) X { x with fields:=x.fields.set i (l.set j k) } r v f m fs:=by
 have hn:=h.hfs i u l hi hl;obtain ⟨g,cap,rfl,g1,g2,g3,g4,g5,g6⟩:=own_some hn.1 om;have hlen:(l.flatMap numC).length=l.length*2:=flat_len flatGN.len l;have ha:([r,v,f,m]++fs)[4+i]?=some (.slice (some ⟨g,0,none⟩) l.length cap):=by
  rw[List.getElem?_append_right sm];simpa using hi
 refine ⟨g,cap,rfl,g1,g2,h.nX ha rfl,om,g6,⟨_,g5 (j*2) _ (gE_ om)⟩,⟨_,g5 (j*2+1) _ (gE_ om)⟩,?_⟩;obtain ⟨s1,s2⟩:=h.row (w':=(w.setCell ⟨g,j*2,none⟩ (.int .u64 ((k/B:Nat):Int))).setCell ⟨g,j*2+1,none⟩ (.int .u64 ((k%B:Nat):Int))) ha rfl (fun q hq=>set2_other w g _ _ _ _ hq);refine ⟨s1,own_far h.hr (s2 0 r rfl om),own_far h.hv (s2 1 v rfl om),?_,fun a z l' h1 h2=>?_,h.hm.far (s2 3 m rfl om),h.lo,h.nd⟩
 ·have:=own_far h.hf (s2 2 f rfl om);simpa using this
 by_cases e:a=i
 ·subst e;rw[hi] at h1;cases h1;have hlt:=(gL_ hl).1;rw[show ({ x with fields:=x.fields.set a (l.set j k) }:Pkt).fields=x.fields.set a (l.set j k) from rfl,List.getElem?_set_self hlt] at h2;cases h2;exact hn.set hj hk
 rw[show ({ x with fields:=x.fields.set i (l.set j k) }:Pkt).fields=x.fields.set i (l.set j k) from rfl,List.getElem?_set_ne (fun q=>e q.symm)] at h2;refine (h.hfs a z l' h1 h2).far (s2 (4+a) z ?_ om);exact gB3
theorem PktB.setMeta (h:PktB base w X x r v f m fs) {j:Nat} (hj:j<x.metas.length) (hk:k<B*B):∃g cap,m= .slice (some ⟨g,0,none⟩) x.metas.length cap/\base<=g/\g<w.heap.size/\g≠X/\(x.metas.length:Int)<=(cap:Int)/\
 (∀ q,w.frozen? ⟨g,q,none⟩=false)/\(∃ y,w.cell? ⟨g,j*2,none⟩=some y)/\(∃ y,w.cell? ⟨g,j*2+1,none⟩=some y)/\
 PktB base ((w.setCell ⟨g,j*2,none⟩ (.int .u64 ((k/B:Nat):Int))).setCell ⟨g,j*2+1,none⟩ (.int .u64 ((k%B:Nat):Int))) X { x with metas:=x.metas.set j k } r v f m fs:=by
 obtain ⟨g,cap,rfl,g1,g2,g3,g4,g5,g6⟩:=own_some h.hm.1 om;have hlen:(x.metas.flatMap numC).length=x.metas.length*2:=flat_len flatGN.len _;have ha:([r,v,f, .slice (some ⟨g,0,none⟩) x.metas.length cap]++fs)[3]?=some (.slice (some ⟨g,0,none⟩) x.metas.length cap):=rfl;refine ⟨g,cap,rfl,g1,g2,h.nX ha rfl,om,g6,⟨_,g5 (j*2) _ (gE_ om)⟩,⟨_,g5 (j*2+1) _ (gE_ om)⟩,?_⟩;obtain ⟨s1,s2⟩:=h.row (w':=(w.setCell ⟨g,j*2,none⟩ (.int .u64 ((k/B:Nat):Int))).setCell ⟨g,j*2+1,none⟩ (.int .u64 ((k%B:Nat):Int))) ha rfl (fun q hq=>set2_other w g _ _ _ _ hq);refine ⟨s1,own_far h.hr (s2 0 r rfl om),own_far h.hv (s2 1 v rfl om),own_far h.hf (s2 2 f rfl om),fun a z l' h1 h2=>(h.hfs a z l' h1 h2).far (s2 (4+a) z ?_ om),h.hm.set hj hk,h.lo,h.nd⟩;exact gB3
theorem PktB.valid (h:PktB base w X x r v f m fs) {j:Nat} (b:Bool) (hj:j<x.valid.length):∃g cap,v= .slice (some ⟨g,0,none⟩) x.valid.length cap/\base<=g/\g<w.heap.size/\g≠X/\(x.valid.length:Int)<=(cap:Int)/\
 (∀ q,w.frozen? ⟨g,q,none⟩=false)/\(∃ y,w.cell? ⟨g,j,none⟩=some y)/\
 PktB base (w.setCell ⟨g,j,none⟩ (.bool b)) X { x with valid:=x.valid.set j b } r v f m fs:=by
 obtain ⟨g,cap,rfl,g1,g2,g3,g4,g5,g6⟩:=own_some h.hv om;have ha:([r, .slice (some ⟨g,0,none⟩) x.valid.length cap,f,m]++fs)[1]?=some (.slice (some ⟨g,0,none⟩) x.valid.length cap):=rfl;refine ⟨g,cap,rfl,g1,g2,h.nX ha rfl,om,g6,⟨_,g5 j _ (gE_ (by simpa using hj))⟩,?_⟩;obtain ⟨s1,s2⟩:=h.row (w':=w.setCell ⟨g,j,none⟩ (.bool b)) ha rfl (fun q hq=>heap_setCell_other w _ q _ hq);refine ⟨s1,own_far h.hr (s2 0 r rfl om),?_,own_far h.hf (s2 2 f rfl om),fun a z l' h1 h2=>(h.hfs a z l' h1 h2).far (s2 (4+a) z ?_ om),h.hm.far (s2 3 m rfl om),h.lo,h.nd⟩
 ·have:=own_set h.hv (i:=j) (by simpa using hj) (.bool b);rw[<- List.map_set] at this;rw[List.length_set];exact this
 exact gB3
theorem PktB.getValid (h:PktB base w X x r v f m fs) {j:Nat} {b:Bool} (hj:x.valid[j]?=some b):∃g cap,v= .slice (some ⟨g,0,none⟩) x.valid.length cap/\(x.valid.length:Int)<=(cap:Int)/\w.cell? ⟨g,j,none⟩=some (.bool b):=by
 have hlt:=(gL_ hj).1;obtain ⟨g,cap,rfl,g1,g2,g3,g4,g5,g6⟩:=own_some h.hv om;exact ⟨g,cap,rfl,om,g5 j _ (by rw[List.getElem?_map,hj];rfl)⟩
theorem PktB.getRow (h:PktB base w X x r v f m fs) {i:Nat} {l:List Nat} (hi:x.fields[i]?=some l):∃g cap u,f= .slice (some ⟨g,0,none⟩) x.fields.length cap/\(x.fields.length:Int)<=(cap:Int)/\w.cell? ⟨g,i,none⟩=some u/\fs[i]?=some u/\NOwn base w u l:=by
 have hlt:=(gL_ hi).1;obtain ⟨g,cap,e,g1,g2,g3,g4,g5,g6⟩:=own_some h.hf om;have hu:=gE_ (l:=fs) (i:=i) (by rw[h.flen];exact hlt);exact ⟨g,cap,_,e,om,g5 i _ hu,hu,h.hfs i _ l hu hi⟩
end
theorem PktB.c9 {f:Value} (h:PktB base w X x r v f m fs):w.cell? ⟨X,0,none⟩=some (.int .i64 x.port)/\w.cell? ⟨X,1,none⟩=some (r)/\w.cell? ⟨X,2,none⟩=some (v)/\w.cell? ⟨X,3,none⟩=some (f)/\w.cell? ⟨X,4,none⟩=some (m)/\w.cell? ⟨X,5,none⟩=some (.bool x.dropped)/\w.cell? ⟨X,6,none⟩=some (.bool x.sent)/\w.cell? ⟨X,7,none⟩=some (.int .i64 x.egress)/\w.cell? ⟨X,8,none⟩=some (.bool x.access):=⟨PktB.cell h (i:=0) rfl,PktB.cell h (i:=1) rfl,PktB.cell h (i:=2) rfl,PktB.cell h (i:=3) rfl,PktB.cell h (i:=4) rfl,PktB.cell h (i:=5) rfl,PktB.cell h (i:=6) rfl,PktB.cell h (i:=7) rfl,PktB.cell h (i:=8) rfl⟩
open Stab
def stepE (x:Pkt) (args:List Nat) (st:List (Nat×Int)) (n:Nod):List (Nat×Int):=
 if n.op<=6 then (leafP x args n%2 ^ sh n.w,n.w)::st
 else if isUn n.op then (match st with|[]=>[]|a::r=>(un1 n a.1%2 ^ sh n.w,n.w)::r)
 else (match st with|b::a::r=>(bin2 n a.1 b.1 b.2%2 ^ sh n.w,n.w)::r|_=>[])
def evC (x:Pkt) (args:List Nat) (c:List Nod):Nat:=match c.foldl (stepE x args) [] with|a::_=>a.1|[]=>0
def accC (x:Pkt) (c:List Nod):Bool:=c.any (leafA x)
theorem isUn_gt {op:Int} (h:isUn op):¬op<=6:=by unfold isUn at h;omega
theorem foldE_flat {p:Prg} {act:Int} {w:Int} (x:Pkt) (args:List Nat) (h:WTr p act t w):∀st,t.flat.foldl (stepE x args) st=(evT x args t,t.root.w)::st:=by
 induction h with
 |leaf n h1 h2 _ _=>
  intro st;simp only[Tr.flat,List.foldl_cons,List.foldl_nil,Tr.root,evT];unfold stepE;rw[if_pos h2]
 |un n t w hu _ _ _ _ ih=>
  intro st;simp only[Tr.flat,List.foldl_append,List.foldl_cons,List.foldl_nil,ih st,Tr.root,evT];unfold stepE;rw[if_neg (isUn_gt hu),if_pos hu]
 |bin n a b wa wb h1 hu _ _ _ h6 h7 iha ihb=>
  intro st;have hop:=bin_op h6 h7;simp only[Tr.flat,List.foldl_append,List.foldl_cons,List.foldl_nil,iha st,ihb,Tr.root,evT];unfold stepE;rw[if_neg om,if_neg hu]
theorem evC_flat {p:Prg} {act:Int} {w:Int} (x:Pkt) (args:List Nat) (h:WTr p act t w):evC x args t.flat=evT x args t:=by
 unfold evC;rw[foldE_flat x args h]
theorem leafA_un {n:Nod} (h:¬n.op<=6):leafA x n=false:=by unfold leafA;rw[decide_eq_false om];rfl
def chooseF (l:List Ent) (tab:Int) (ks:List Nat):Nat->Int
 |0=>-1
 |k+1=>if matB (eAt l (k:Int)) tab ks=true/\(chooseF l tab ks k<0\/lts l (k:Int) (chooseF l tab ks k)=true) then (k:Int) else chooseF l tab ks k
theorem choose_best (l:List Ent) (tab:Int) (ks:List Nat):∀k,Best l tab ks k (chooseF l tab ks k)
 |0=>Best.zero l tab ks
 |k+1=>by
  have ih:=choose_best l tab ks k;rw[chooseF];cases hm:matB (eAt l (k:Int)) tab ks
  ·rw[if_neg sm];exact ih.no hm
  ·by_cases hc:chooseF l tab ks k<0
   ·rw[if_pos ⟨rfl, .inl hc⟩];have e:chooseF l tab ks k= -1:=by
     rcases ih with ⟨h,-⟩|⟨h,-⟩
     ·exact h
     ·omega
    rw[e] at ih;exact ih.first hm
   ·obtain ⟨c,hcc⟩:∃c:Nat,chooseF l tab ks k=(c:Int):=⟨(chooseF l tab ks k).toNat,om⟩;rw[hcc] at ih⊢;cases hl:lts l (k:Int) (c:Int)
    ·rw[if_neg (by rintro ⟨-,h|h⟩;omega;cases h)];exact ih.keep hl
    ·rw[if_pos ⟨rfl, .inr rfl⟩];exact ih.next hm hl
def lookA (l:List Ent) (tab:Int) (ks:List Nat) (a0:Int):Int:=if chooseF l tab ks l.length<0 then a0 else (eAt l (chooseF l tab ks l.length)).act
def lookG (l:List Ent) (tab:Int) (ks:List Nat) (g0:List Nat):List Nat:=if chooseF l tab ks l.length<0 then g0 else (eAt l (chooseF l tab ks l.length)).args
theorem look_is (l:List Ent) (tab:Int) (ks:List Nat) (a0:Int) (g0:List Nat):Look l tab ks a0 g0 (lookA l tab ks a0) (lookG l tab ks g0):=⟨_,choose_best l tab ks _,rfl,rfl⟩
def headW (p:Prg) (h f:Int):Int:=(p.heads.getD h.toNat []).getD f.toNat 0
def setF (p:Prg) (x:Pkt) (h f:Int) (n:Nat):Pkt:=
 if thereP x h f then (if x.valid.getD h.toNat false=true then { x with fields:=x.fields.set h.toNat ((x.fields.getD h.toNat []).set f.toNat (n%2 ^ sh (headW p h f))) } else { x with access:=true }) else x
def validF (x:Pkt) (h:Int) (on:Bool):Pkt:=
 if 0<=h/\h<(x.valid.length:Int)/\h<(x.fields.length:Int)/\x.valid.getD h.toNat false≠on then { x with valid:=x.valid.set h.toNat on,fields:=x.fields.set h.toNat ((x.fields.getD h.toNat []).map fun _=>0) } else x
def seen (x:Pkt) (c:List Nod):Pkt:={ x with access:=x.access||accC x c }
def execB (p:Prg) (args:List Nat) (x:Pkt) (i:Ist):Pkt:=
 if i.k=1 then setF p (seen x i.e) i.a i.b (evC x args i.e)
 else if i.k=2 then { seen x i.e with metas:=x.metas.set i.a.toNat (evC x args i.e%2 ^ sh (p.metas.getD i.a.toNat 0)) }
 else if i.k=4 then { x with dropped:=true }
 else if i.k=5 then { seen x i.e with egress:=(evC x args i.e:Nat),sent:=true,dropped:=false }
 else if i.k=6 then validF x i.a (decide (i.b=1))
 else if i.k=7 then seen x i.e
 else x
def nextI (args:List Nat) (x:Pkt) (i:Ist) (at':Nat):Nat:=if i.k=8\/(i.k=7/\evC x args i.e=0) then i.to.toNat else at'+1
def istAt (c:List Ist) (k:Nat):Ist:=c.getD k ⟨0,0,0,[],0⟩
def runF (p:Prg) (ap:Pkt->Ist->Pkt) (args:List Nat) (c:List Ist):Nat->Nat->Pkt->Pkt
 |0,_,x=>x
 |k+1,at',x=>if at'<c.length then (let i:=istAt c at';runF p ap args c k (nextI args x i at') (if i.k=3 then ap x i else execB p args x i)) else x
def runB (p:Prg) (args:List Nat) (c:List Ist) (x:Pkt):Pkt:=runF p (fun x _=>x) args c c.length 0 x
def seenAll (x:Pkt) (cs:List (List Nod)):Pkt:={ x with access:=x.access||cs.any (accC x) }
def tblAt (p:Prg) (i:Int):Tbl:=p.tabs.getD i.toNat ⟨[],[],[],0,[]⟩
def actAt (p:Prg) (i:Int):Actn:=p.acts.getD i.toNat ⟨[],[]⟩
def keysP (x:Pkt) (cs:List (List Nod)):List Nat:=cs.map (evC x [])
def applyP (p:Prg) (l:List Ent) (x:Pkt) (i:Ist):Pkt:=
 let t:=tblAt p i.a
 let ks:=keysP x t.keys
 runB p (lookG l i.a ks t.dargs) (actAt p (lookA l i.a ks t.dact)).body (seenAll x t.keys)
def runP (p:Prg) (l:List Ent) (args:List Nat) (c:List Ist) (x:Pkt):Pkt:=runF p (applyP p l) args c c.length 0 x
open Stab
theorem fitsP_mod (n:Nat) (w:Int):fitsP (n%2 ^ sh w) w=true:=by unfold fitsP;rw[Nat.mod_mod];simp
theorem fitsP_zero (w:Int):fitsP 0 w=true:=by unfold fitsP;rw[Nat.zero_mod];simp
structure PktF (p:Prg) (x:Pkt):Prop where
 v:x.valid.length=p.heads.length
 f:x.fields.length=p.heads.length
 m:x.metas.length=p.metas.length
 mf:∀(j:Nat) (a:Nat),x.metas[j]?=some a->fitsP a (p.metas.getD j 0)=true
 fl:∀(h:Nat) (l:List Nat),x.fields[h]?=some l->l.length=(p.heads.getD h []).length
 ff:∀(h:Nat) (l:List Nat),x.fields[h]?=some l->∀(j:Nat) (a:Nat),l[j]?=some a->fitsP a ((p.heads.getD h []).getD j 0)=true
 z:∀(h:Nat) (l:List Nat),x.fields[h]?=some l->x.valid.getD h false=false->∀a∈l,a=0
theorem PktF.get {p:Prg} (h:PktF p x) {a b:Int} (ht:thereP x a b):getP x a b=(x.fields.getD a.toNat []).getD b.toNat 0:=by
 unfold getP;cases hv:x.valid.getD a.toNat false
 ·rw[if_neg sm];obtain ⟨h1,h2,h3,h4,h5⟩:=ht;have h6:=some_getD (l:=x.fields) (j:=a.toNat) [] om;have h7:=some_getD (l:=x.fields.getD a.toNat []) (j:=b.toNat) 0 om;exact (h.z _ _ h6 hv _ (List.mem_iff_getElem?.2 ⟨_,h7⟩)).symm
 ·rw[if_pos ⟨ht,rfl⟩]
theorem PktF.other {p:Prg} (h:PktF p x) (h1:y.valid=x.valid) (h2:y.fields=x.fields) (h3:y.metas=x.metas):PktF p y:=by
 refine ⟨by rw[h1];exact h.v,by rw[h2];exact h.f,by rw[h3];exact h.m,by rw[h3];exact h.mf,by rw[h2];exact h.fl,by rw[h2];exact h.ff,by rw[h1,h2];exact h.z⟩
theorem PktF.metas_set {p:Prg} (h:PktF p x) (i:Nat) (n:Nat) (hn:fitsP n (p.metas.getD i 0)=true):PktF p { x with metas:=x.metas.set i n }:=by
 refine ⟨h.v,h.f,by rw[<- h.m];simp,fun j a hj=>?_,h.fl,h.ff,h.z⟩;simp only[List.getElem?_set] at hj;split at hj
 ·rename_i e;subst e;split at hj
  ·cases hj;exact hn
  cases hj
 exact h.mf j a hj
theorem PktF.field_set {p:Prg} (h:PktF p x) (i:Nat) (l:List Nat) (h1:l.length=(p.heads.getD i []).length) (h2:∀(j:Nat) (a:Nat),l[j]?=some a->fitsP a ((p.heads.getD i []).getD j 0)=true) (on:List Bool) (h3:on.length=x.valid.length) (h4:∀j,j≠i->on.getD j false=x.valid.getD j false) (h5:on.getD i false=false->∀a∈l,a=0):
 PktF p { x with valid:=on,fields:=x.fields.set i l }:=by
 refine ⟨by rw[<- h.v];exact h3,by rw[<- h.f];simp,h.m,h.mf,fun k r hk=>?_,fun k r hk=>?_,fun k r hk=>?_⟩;all_goals
  simp only[List.getElem?_set] at hk;split at hk
  ·rename_i e;subst e;split at hk
   ·cases hk;assumption
   ·cases hk
  ·rename_i e
   first
   |exact h.fl k r hk
   |exact h.ff k r hk
   |(intro hv;rw[show ({ x with valid:=on,fields:=x.fields.set i l }:Pkt).valid=on from rfl,h4 k (fun e2=>e e2.symm)] at hv;exact h.z k r hk hv)
theorem setF_fits {p:Prg} (hx:PktF p x) (h f:Int) (n:Nat):PktF p (setF p x h f n):=by
 unfold setF;split
 ·rename_i ht;split
  ·rename_i hv;obtain ⟨h1,h2,h3,h4,h5⟩:=ht;have h6:=some_getD (l:=x.fields) (j:=h.toNat) [] om;refine hx.field_set h.toNat _ (by rw[List.length_set];exact hx.fl _ _ h6) (fun j a hj=>?_) x.valid rfl (fun _ _=>rfl) (fun e=>by rw[hv] at e;cases e);simp only[List.getElem?_set] at hj;split at hj
   ·rename_i e;subst e;split at hj
    ·cases hj;exact fitsP_mod n _
    cases hj
   exact hx.ff _ _ h6 j a hj
  exact hx.other rfl rfl rfl
 exact hx
theorem validF_fits {p:Prg} (hx:PktF p x) (h:Int) (on:Bool):PktF p (validF x h on):=by
 unfold validF;split
 ·rename_i ht;obtain ⟨h1,h2,h3,h4⟩:=ht;have h6:=some_getD (l:=x.fields) (j:=h.toNat) [] om;refine hx.field_set h.toNat _ (by rw[List.length_map];exact hx.fl _ _ h6) (fun j a hj=>?_) _ sm (fun j hj=>?_) (fun _ a ha=>?_)
  ·rw[List.getElem?_map] at hj;cases hq:(x.fields.getD h.toNat [])[j]? with
   |none=>rw[hq] at hj;cases hj
   |some b=>rw[hq] at hj;cases hj;exact fitsP_zero _
  ·rw[List.getD_eq_getElem?_getD,List.getElem?_set_ne (fun e=>hj e.symm), <-List.getD_eq_getElem?_getD]
  obtain ⟨b,-,rfl⟩:=List.mem_map.1 ha;rfl
 exact hx
structure Stays (x y:Pkt):Prop where
 rest:y.rest=x.rest
 port:y.port=x.port
 sent:x.sent=true->y.sent=true
 acc:x.access=true->y.access=true
theorem Stays.refl (x:Pkt):Stays x x:=⟨rfl,rfl,id,id⟩
theorem Stays.trans {z:Pkt} (h1:Stays x y) (h2:Stays y z):Stays x z:=⟨h2.rest.trans h1.rest,h2.port.trans h1.port,fun h=>h2.sent (h1.sent h),fun h=>h2.acc (h1.acc h)⟩
theorem seen_stays (x:Pkt) (c:List Nod):Stays x (seen x c):=⟨rfl,rfl,id,fun h=>by show (x.access||_)=true;rw[h];rfl⟩
theorem setF_stays (p:Prg) (x:Pkt) (h f:Int) (n:Nat):Stays x (setF p x h f n):=by
 unfold setF;split
 ·split
  ·exact ⟨rfl,rfl,id,id⟩
  exact ⟨rfl,rfl,id,fun _=>rfl⟩
 exact Stays.refl x
theorem validF_stays (x:Pkt) (h:Int) (on:Bool):Stays x (validF x h on):=by
 unfold validF;split
 ·exact ⟨rfl,rfl,id,id⟩
 exact Stays.refl x
def Goes (e:Int) (y:Pkt):Prop:=y.egress=e\/(0<=y.egress/\y.egress<512)
def MayI (p:Prg) (act:Int) (i:Ist):Prop:=∃k many,mayInstP p act i k many=true
theorem mayI_code {p:Prg} {act:Int} {i:Ist} (h:MayI p act i):∃w,instW p act i=some w/\((w=0/\i.e.length=0)\/(w≠0/\widthP p act i.e=some w)):=by
 obtain ⟨k,many,h⟩:=h;unfold mayInstP at h;split at h
 ·cases h
 rename_i w hw;refine ⟨w,hw,?_⟩;rw[Bool.and_eq_true] at h;have h2:=h.2;split at h2
 ·exact .inl ⟨by assumption,of_decide_eq_true h2⟩
 exact .inr ⟨by assumption,of_decide_eq_true h2⟩
theorem evC_width {p:Prg} {act w:Int} {c:List Nod} (x:Pkt) (args:List Nat) (h:widthP p act c=some w):evC x args c<2 ^ sh w:=by
 obtain ⟨t,rfl,ht⟩:=tree_of h;rw[evC_flat x args ht];have:=ev_lt x args t
 rwa [ht.root.1] at this
theorem sh9:2 ^ sh 9=512:=by decide
theorem instW_fwd {p:Prg} {act:Int} {i:Ist} {w:Int} (h:instW p act i=some w) (hk:i.k=5):w=9:=by
 unfold instW at h;rw[hk] at h;simp only[show ¬(5:Int)=1 by decide,show ¬(5:Int)=2 by decide,show ¬(5:Int)=3 by decide,show ¬(5:Int)=6 by decide,show ¬(5:Int)=7 by decide,if_false,if_true,false_or,true_or] at h;split at h
 ·cases h;rfl
 cases h
theorem execB_all {p:Prg} {act:Int} {i:Ist} (args:List Nat) (hx:PktF p x) (hi:MayI p act i) (e:Int) (hg:Goes e x):
 PktF p (execB p args x i)/\Stays x (execB p args x i)/\Goes e (execB p args x i):=by
 have hs:PktF p (seen x i.e):=hx.other rfl rfl rfl;have gs:Goes e (seen x i.e):=hg;unfold execB;split
 ·refine ⟨setF_fits hs _ _ _,(seen_stays x i.e).trans (setF_stays p _ _ _ _),?_⟩;unfold setF;split
  ·split<;>exact hg
  exact gs
 split
 ·exact ⟨hs.metas_set i.a.toNat _ (fitsP_mod _ _),(seen_stays x i.e).trans ⟨rfl,rfl,id,id⟩,hg⟩
 split
 ·exact ⟨hx.other rfl rfl rfl,⟨rfl,rfl,id,id⟩,hg⟩
 split
 ·rename_i hk;refine ⟨hs.other rfl rfl rfl,(seen_stays x i.e).trans ⟨rfl,rfl,fun _=>rfl,id⟩, .inr ⟨by show (0:Int)<=((evC x args i.e:Nat):Int);omega,?_⟩⟩;obtain ⟨w,h1,h2⟩:=mayI_code hi;have hw:=instW_fwd h1 hk;subst hw;rcases h2 with ⟨h2,-⟩|⟨-,h2⟩
  ·cases h2
  have:=evC_width x args h2;rw[sh9] at this;show ((evC x args i.e:Nat):Int)<512;omega
 split
 ·refine ⟨validF_fits hx _ _,validF_stays x _ _,?_⟩;unfold validF;split<;>exact hg
 split
 ·exact ⟨hs,seen_stays x i.e,gs⟩
 exact ⟨hx,Stays.refl x,hg⟩
theorem runF_all {p:Prg} {act:Int} {ap:Pkt->Ist->Pkt} (args:List Nat) (c:List Ist) (e:Int) (hc:∀i∈c,MayI p act i)
 (hap:∀(x:Pkt) (i:Ist),i∈c->i.k=3->PktF p x->Goes e x->PktF p (ap x i)/\Stays x (ap x i)/\Goes e (ap x i)):
 ∀(k at':Nat) (x:Pkt),PktF p x->Goes e x->PktF p (runF p ap args c k at' x)/\Stays x (runF p ap args c k at' x)/\Goes e (runF p ap args c k at' x):=by
 intro k;induction k with
 |zero=>intro at' x hx hg;exact ⟨hx,Stays.refl x,hg⟩
 |succ k ih=>
  intro at' x hx hg;rw[runF];split
  ·rename_i hlt;have hm:istAt c at'∈c:=by
    unfold istAt;rw[List.getD_eq_getElem?_getD,gE_ hlt];exact List.getElem_mem _
   simp only;split
   ·rename_i h3;obtain ⟨a1,a2,a3⟩:=hap x _ hm h3 hx hg;obtain ⟨b1,b2,b3⟩:=ih (nextI args x (istAt c at') at') _ a1 a3;exact ⟨b1,a2.trans b2,b3⟩
   obtain ⟨a1,a2,a3⟩:=execB_all args hx (hc _ hm) e hg;obtain ⟨b1,b2,b3⟩:=ih (nextI args x (istAt c at') at') _ a1 a3;exact ⟨b1,a2.trans b2,b3⟩
  exact ⟨hx,Stays.refl x,hg⟩
theorem mayInsts_mem {p:Prg} {act:Int} {l:List Ist} (h:mayInstsP p act l=true):∀i∈l,MayI p act i:=by
 intro i hi;unfold mayInstsP at h;rw[Bool.and_eq_true] at h;obtain ⟨j,hj⟩:=List.mem_iff_getElem?.1 hi;exact ⟨_,_,allIdx_iff.1 h.2 j i hj⟩
def BodiesMay (p:Prg):Prop:=∀(a:Nat) (x:Actn),p.acts[a]?=some x->mayInstsP p (a:Int) x.body=true
theorem applyP_all {p:Prg} (hb:BodiesMay p) (l:List Ent) {i:Ist} (e:Int) (hx:PktF p x) (hg:Goes e x):PktF p (applyP p l x i)/\Stays x (applyP p l x i)/\Goes e (applyP p l x i):=by
 unfold applyP;simp only;have hx2:PktF p (seenAll x (tblAt p i.a).keys):=hx.other rfl rfl rfl;have hs:Stays x (seenAll x (tblAt p i.a).keys):=⟨rfl,rfl,id,fun h=>by show (x.access||_)=true;rw[h];rfl⟩;have hg2:Goes e (seenAll x (tblAt p i.a).keys):=hg;generalize lookG l i.a _ _=gs;generalize lookA l i.a _ _=a;generalize seenAll x _=y at hx2 hs hg2;by_cases hlt:a.toNat<p.acts.length
 ·have h6:=some_getD (l:=p.acts) (j:=a.toNat) ⟨[],[]⟩ hlt;have hm:=hb _ _ h6;obtain ⟨b1,b2,b3⟩:=runF_all (p:=p) (act:=(a.toNat:Int)) (ap:=fun x _=>x) gs (actAt p a).body e (mayInsts_mem hm) (fun x _ _ _ h1 h2=>⟨h1,Stays.refl x,h2⟩) (actAt p a).body.length 0 y hx2 hg2;exact ⟨b1,hs.trans b2,b3⟩
 have h7:actAt p a=⟨[],[]⟩:=by unfold actAt;rw[List.getD_eq_getElem?_getD,List.getElem?_eq_none om];rfl
 rw[h7];exact ⟨hx2,hs,hg2⟩
theorem runP_all {p:Prg} {act:Int} (hb:BodiesMay p) (l:List Ent) (args:List Nat) {c:List Ist} (hc:mayInstsP p act c=true) (e:Int) (hx:PktF p x) (hg:Goes e x):PktF p (runP p l args c x)/\Stays x (runP p l args c x)/\Goes e (runP p l args c x):=
 runF_all (ap:=applyP p l) args c e (mayInsts_mem hc) (fun _x _i _ _ h1 h2=>applyP_all hb l e h1 h2) c.length 0 x hx hg
open Go.RowKit
structure KS where
 rp:Option Addr
 rn:Nat
 rc:Nat
 vp:Option Addr
 vn:Nat
 vc:Nat
 fp:Option Addr
 fn:Nat
 fc:Nat
 mp:Option Addr
 mn:Nat
 mc:Nat
@[simp] abbrev kA (k:KS) (po:Int) (dr se:Bool) (eg:Int) (ac:Bool):Array Value:=#[.int .i64 po, .slice k.rp k.rn k.rc, .slice k.vp k.vn k.vc, .slice k.fp k.fn k.fc, .slice k.mp k.mn k.mc, .bool dr, .bool se, .int .i64 eg, .bool ac]
@[simp] abbrev kL (k:KS) (po:Int) (dr se:Bool) (eg:Int) (ac:Bool):List Value:=[.int .i64 po, .slice k.rp k.rn k.rc, .slice k.vp k.vn k.vc, .slice k.fp k.fn k.fc, .slice k.mp k.mn k.mc, .bool dr, .bool se, .int .i64 eg, .bool ac]
structure KOk (w:World) (k:KS) (x:Pkt):Prop where
 r:URow w (.slice k.rp k.rn k.rc) x.rest
 v:BRow w (.slice k.vp k.vn k.vc) x.valid
 f:NsRow w (.slice k.fp k.fn k.fc) x.fields
 m:NRow w (.slice k.mp k.mn k.mc) x.metas
section
variable {w w':World} {g:Nat} {k:KS} {po eg:Int} {dr se ac:Bool}
end
open Go.RowKit
def sumL {α:Type} (f:α->Nat) (l:List α):Nat:=(l.map f).sum
section
variable {α:Type} {f:α->Nat}
theorem sumL_cons (x:α) (l:List α):sumL f (x::l)=f x+sumL f l:=by simp[sumL]
theorem sumL_append (l r:List α):sumL f (l++r)=sumL f l+sumL f r:=by simp[sumL]
theorem sumL_take {l:List α} {x:α} (h:l[k]?=some x):sumL f (l.take (k+1))=sumL f (l.take k)+f x:=by
 rw[List.take_add_one,h,sumL_append];simp[sumL]
theorem sumL_full {l:List α} (h:l.length<=k):sumL f (l.take k)=sumL f l:=by rw[List.take_of_length_le h]
theorem sumL_zero {l:List α}:sumL f (l.take 0)=0:=by simp[sumL]
theorem sumL_le {B:Nat}:∀{l:List α},(∀ x∈l,f x<=B)->sumL f l<=l.length*B
 |[],_=>by simp[sumL]
 |x::l,h=>by
  rw[sumL_cons,List.length_cons,Nat.add_mul,Nat.one_mul];have h1:=h x sm;have h2:=sumL_le (l:=l) (fun y hy=>h y (List.mem_cons_of_mem _ hy));omega
theorem le_sumL:∀{l:List α} {x:α},x∈l->f x<=sumL f l
 |y::l,x,h=>by
  rw[sumL_cons];rcases List.mem_cons.1 h with rfl|h
  ·omega
  ·have:=le_sumL h;omega
theorem ln_sumL (h:∀x,1<=f x):∀{l:List α},l.length<=sumL f l
 |[]=>by simp
 |y::l=>by
  rw[sumL_cons,List.length_cons];have:=h y;have:=ln_sumL h (l:=l);omega
theorem sumL_takele {l:List α} :sumL f (l.take k)<=sumL f l:=by
 have h:=sumL_append (f:=f) (l.take k) (l.drop k);rw[List.take_append_drop] at h;omega
end
def weighN (l:List Ist):Nat:=l.length+sumL (fun i=>i.e.length) l
def codesN (l:List (List Nod)):Nat:=sumL (fun c=>1+c.length) l
def patsN (l:List Brn):Nat:=sumL (fun b=>b.pats.length) l
def stepN (x:Stp):Nat:=1+x.takes.length+x.brs.length+codesN x.keys+patsN x.brs
def actN (a:Actn):Nat:=1+a.params.length+weighN a.body
def tabN (t:Tbl):Nat:=1+t.acts.length+t.dargs.length+codesN t.keys
def greatN (p:Prg):Nat:=p.heads.length+p.metas.length+p.emit.length+weighN p.ctl+sumL List.length p.heads+sumL stepN p.steps+sumL actN p.acts+sumL tabN p.tabs
theorem Sm.of {p:Prg} (h:greatN p<=6000):Sm p:=by
 unfold greatN weighN at h;have a1:p.steps.length<=sumL stepN p.steps:=ln_sumL fun x=>by unfold stepN;omega
 have a2:p.acts.length<=sumL actN p.acts:=ln_sumL fun x=>by unfold actN;omega
 have a3:p.tabs.length<=sumL tabN p.tabs:=ln_sumL fun x=>by unfold tabN;omega
 have st:∀x∈p.steps,stepN x<=6000:=fun x hx=>by have:=le_sumL (f:=stepN) hx;omega
 have ac:∀x∈p.acts,actN x<=6000:=fun x hx=>by have:=le_sumL (f:=actN) hx;omega
 have tb:∀x∈p.tabs,tabN x<=6000:=fun x hx=>by have:=le_sumL (f:=tabN) hx;omega
 have kl:∀l:List (List Nod),l.length<=codesN l:=fun l=>ln_sumL fun x=>by omega
 have kc:∀(l:List (List Nod)),∀c∈l,c.length<=codesN l:=fun l c hc=>by have:=le_sumL (f:=fun c:List Nod=>1+c.length) hc;unfold codesN;omega
 refine ⟨om,fun l hl=>?_,om,om,om,fun x hx=>?_,fun x hx=>?_,fun x hx c hc=>?_,fun x hx=>?_,fun x hx b hb=>?_,om,fun a ha=>?_,fun a ha=>?_,fun a ha i hi=>?_,om,fun i hi=>?_,om,fun x hx=>?_,fun x hx c hc=>?_,fun x hx=>?_,fun x hx=>?_⟩
 ·have:=le_sumL (f:=List.length) hl;omega
 ·have:=st x hx;unfold stepN at this;omega
 ·have:=st x hx;have:=kl x.keys;unfold stepN at *;omega
 ·have:=st x hx;have:=kc x.keys c hc;unfold stepN at *;omega
 ·have:=st x hx;unfold stepN at this;omega
 ·have:=st x hx;have:=le_sumL (f:=fun b:Brn=>b.pats.length) hb;unfold stepN patsN at *;omega
 ·have:=ac a ha;unfold actN at this;omega
 ·have:=ac a ha;unfold actN weighN at this;omega
 ·have:=ac a ha;have:=le_sumL (f:=fun i:Ist=>i.e.length) hi;unfold actN weighN at *;omega
 ·have:=le_sumL (f:=fun i:Ist=>i.e.length) hi;omega
 ·have:=tb x hx;have:=kl x.keys;unfold tabN at *;omega
 ·have:=tb x hx;have:=kc x.keys c hc;unfold tabN at *;omega
 ·have:=tb x hx;unfold tabN at this;omega
 have:=tb x hx;unfold tabN at this;omega
structure Lm (p:Prg):Prop where
 heads:p.heads.length<=1048576
 head:∀l∈p.heads,l.length<=1048576
 metas:p.metas.length<=1048576
 emit:p.emit.length<=1048576
 steps:p.steps.length<=1048576
 takes:∀x∈p.steps,x.takes.length<=1048576
 skeys:∀x∈p.steps,x.keys.length<=1048576
 scode:∀x∈p.steps,∀c∈x.keys,c.length<=1048576
 brs:∀x∈p.steps,x.brs.length<=1048576
 pats:∀x∈p.steps,∀b∈x.brs,b.pats.length<=1048576
 acts:p.acts.length<=1048576
 params:∀a∈p.acts,a.params.length<=1048576
 body:∀a∈p.acts,a.body.length<=1048576
 bcode:∀a∈p.acts,∀i∈a.body,i.e.length<=1048576
 ctl:p.ctl.length<=1048576
 ccode:∀i∈p.ctl,i.e.length<=1048576
 tabs:p.tabs.length<=1048576
 tkeys:∀x∈p.tabs,x.keys.length<=1048576
 tcode:∀x∈p.tabs,∀c∈x.keys,c.length<=1048576
 tacts:∀x∈p.tabs,x.acts.length<=1048576
 dargs:∀x∈p.tabs,x.dargs.length<=1048576
theorem mulM {B:Nat} (h:n<=k*B) (hk:k<=1048576):n<=1048576*B:=Nat.le_trans h (Nat.mul_le_mul_right _ hk)
theorem weigh_le {l:List Ist} (h1:l.length<=1048576) (h2:∀i∈l,i.e.length<=1048576):weighN l<=1099512676352:=by
 have:=mulM (sumL_le (f:=fun i:Ist=>i.e.length) h2) h1;unfold weighN;omega
theorem codes_le {l:List (List Nod)} (h1:l.length<=1048576) (h2:∀i∈l,i.length<=1048576):codesN l<=1099512676352:=by
 have:=mulM (sumL_le (f:=fun i:List Nod=>1+i.length) (B:=1048577) (fun i hi=>by have:=h2 i hi;omega)) h1;unfold codesN;omega
theorem pats_le {l:List Brn} (h1:l.length<=1048576) (h2:∀i∈l,i.pats.length<=1048576):patsN l<=1099511627776:=by
 have:=mulM (sumL_le (f:=fun b:Brn=>b.pats.length) h2) h1;unfold patsN;omega
theorem Lm.step {p:Prg} (h:Lm p):∀x∈p.steps,stepN x<=2199026401281:=fun x hx=>by
 have a1:=h.takes x hx;have a2:=h.brs x hx;have a3:=codes_le (h.skeys x hx) (h.scode x hx);have a4:=pats_le (h.brs x hx) (h.pats x hx);unfold stepN;omega
theorem Lm.act {p:Prg} (h:Lm p):∀x∈p.acts,actN x<=1099513724929:=fun x hx=>by
 have a1:=h.params x hx;have a2:=weigh_le (h.body x hx) (h.bcode x hx);unfold actN;omega
theorem Lm.tab {p:Prg} (h:Lm p):∀x∈p.tabs,tabN x<=1099514773505:=fun x hx=>by
 have a1:=h.tacts x hx;have a2:=h.dargs x hx;have a3:=codes_le (h.tkeys x hx) (h.tcode x hx);unfold tabN;omega
theorem Lm.great {p:Prg} (h:Lm p):greatN p<=5000000000000000000:=by
 have a1:=mulM (sumL_le (f:=stepN) h.step) h.steps;have a2:=mulM (sumL_le (f:=actN) h.act) h.acts;have a3:=mulM (sumL_le (f:=tabN) h.tab) h.tabs;have a4:=mulM (sumL_le (f:=List.length) h.head) h.heads;have a5:=weigh_le h.ctl h.ccode;have a6:=h.heads;have a7:=h.metas;have a8:=h.emit;unfold greatN;omega
theorem wrapL {x:Int} (h:x=(n:Int)) (h2:n<=5000000000000000000):wrap64 x=(n:Int):=by
 subst h;unfold wrap64;omega
end Go.Proofs.YtikilcbpogfgkaaGreat
