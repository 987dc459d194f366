/- Lemmas. -/
import Derived.Test.YtikilcbpogfgkaaGreatJG20
set_option maxHeartbeats 4000000
set_option maxRecDepth 100000
namespace Go.Proofs.YtikilcbpogfgkaaGreat
open Go.RowKit
variable {w:World} {base E size n g cap X a:Nat} {xs fs:List Value} {v r f m u z:Value} {y:Pkt} {t:Tr}
def BAt (w:World) (b o:Nat) (k:Bool):Prop:=w.cell? ⟨b,o,none⟩=some (.bool k)
theorem keepB:KeepAt BAt:=fun _w _w' b o _n hb hlt h=>(hb.cell (p:=⟨b,o,none⟩) hlt).trans h
abbrev BRow:=RowAt 1 BAt
abbrev NsRow:=RowAt 1 (SlAt NRow)
theorem keepNs:KeepAt (SlAt NRow):=SlAt.keep (RowAt.keep keepN)
theorem own_set (h:w.ownsRow base E size (.slice (some ⟨g,0,none⟩) n cap) n xs) {i:Nat} (_hi:i<xs.length) (v:Value):(w.setCell ⟨g,i,none⟩ v).ownsRow base E size (.slice (some ⟨g,0,none⟩) n cap) n (xs.set i v):=by
 obtain ⟨hl,h|⟨g',cap',cur,h1,h2,h3,h4,h5,h6,h7⟩⟩:=h
 ·simp at h
 ·simp only[Value.slice.injEq,Option.some.injEq,Addr.mk.injEq,and_true,true_and] at h1;obtain ⟨rfl,rfl⟩:=h1;refine ⟨by simpa using hl, .inr ⟨g,cap,_,rfl,h2,heap_setCell_same w g i cur E v h3,h4,h5,by simpa using h6,?_⟩⟩;rw[Array.toList_setIfInBounds,List.take_set,h7]
theorem own_far {w':World} (h:w.ownsRow base E size v n xs) (hk:∀k,v.ownBlock=some k->w'.heap[k]?=w.heap[k]?):w'.ownsRow base E size v n xs:=by
 obtain ⟨hl,h|⟨g,cap,cur,h1,h2,h3,h4⟩⟩:=h
 ·exact ⟨hl, .inl h⟩
 ·exact ⟨hl, .inr ⟨g,cap,cur,h1,h2,by rw[hk g (by rw[h1];rfl)];exact h3,h4⟩⟩
theorem NOwn.far {w':World} {l:List Nat} (h:NOwn base w v l) (hk:∀k,v.ownBlock=some k->w'.heap[k]?=w.heap[k]?):NOwn base w' v l:=⟨own_far h.1 hk,h.2⟩
theorem own_size (h:w.ownsRow base E size v n xs) {k:Nat} (hk:v.ownBlock=some k):base<=k/\k<w.heap.size:=h.lt k hk
theorem own_get {n0 e k:Nat} (h:w.ownsRow n0 e k (.slice (some ⟨g,0,none⟩) n cap) n xs) {i:Nat} (hv:xs[i]?=some v):w.cell? ⟨g,i,none⟩=some v:=by
 obtain ⟨hl,h|⟨g',cap',cur,h1,h2,h3,h4,h5,h6,h7⟩⟩:=h
 ·simp at h
 ·simp only[Value.slice.injEq,Option.some.injEq,Addr.mk.injEq,and_true,true_and] at h1;obtain ⟨rfl,rfl⟩:=h1;rw[<- h7] at hv;have hi:i<n*k:=by
   have:=(gL_ hv).1;simp at this;omega
  rw[List.getElem?_take_of_lt hi] at hv;simp only[World.cell?,h3];simpa using hv
theorem own_some (h:w.ownsRow base E size v n xs) (hn:0<n):∃g cap,v= .slice (some ⟨g,0,none⟩) n cap/\base<=g/\g<w.heap.size/\n<=cap/\cap<=maxLen/\(∀ i u,xs[i]?=some u->w.cell? ⟨g,i,none⟩=some u)/\(∀ i,w.frozen? ⟨g,i,none⟩=false):=by
 obtain ⟨hl,h|⟨g,cap,cur,h1,h2,h3,h4,h5,h6,h7⟩⟩:=h
 ·omega
 ·refine ⟨g,cap,h1,h2,(gA_ h3).1,h4,h5,fun i u hi=>?_,fun i=>by simp[World.frozen?,h3]⟩;subst h1;exact own_get ⟨hl, .inr ⟨g,cap,cur,rfl,h2,h3,h4,h5,h6,h7⟩⟩ hi
def pktCells (x:Pkt) (r v f m:Value):List Value:=[.int .i64 x.port,r,v,f,m, .bool x.dropped, .bool x.sent, .int .i64 x.egress, .bool x.access]
structure PktB (base:Nat) (w:World) (X:Nat) (x:Pkt) (r v f m:Value) (fs:List Value):Prop where
 st:w.heap[X]?=some (.cells (pktCells x r v f m).toArray 45 (0,0))
 hr:w.ownsRow base 5 1 r x.rest.length (x.rest.map (Value.int .u8))
 hv:w.ownsRow base 4 1 v x.valid.length (x.valid.map Value.bool)
 hf:w.ownsRow base 43 1 f x.fields.length fs
 hfs:∀(i:Nat) (u:Value) (l:List Nat),fs[i]?=some u->x.fields[i]?=some l->NOwn base w u l
 hm:NOwn base w m x.metas
 lo:base<=X
 nd:(X::([r,v,f,m]++fs).filterMap Value.ownBlock).Nodup
theorem PktB.flen {x:Pkt} (h:PktB base w X x r v f m fs):fs.length=x.fields.length:=by have:=h.hf.1;omega
theorem PktB.far {w':World} {x:Pkt} (h:PktB base w X x r v f m fs) (hk:∀k,base<=k->k<w.heap.size->w'.heap[k]?=w.heap[k]?):PktB base w' X x r v f m fs:=by
 have hX:X<w.heap.size:=(gA_ h.st).1;refine ⟨(hk X h.lo hX).trans h.st,own_far h.hr fun k e=>?_,own_far h.hv fun k e=>?_,own_far h.hf fun k e=>?_,fun i u l h1 h2=>(h.hfs i u l h1 h2).far fun k e=>?_,h.hm.far fun k e=>?_,h.lo,h.nd⟩
 ·have:=own_size h.hr e;exact hk k this.1 this.2
 ·have:=own_size h.hv e;exact hk k this.1 this.2
 ·have:=own_size h.hf e;exact hk k this.1 this.2
 ·have:=own_size (h.hfs i u l h1 h2).1 e;exact hk k this.1 this.2
 ·have:=own_size h.hm.1 e;exact hk k this.1 this.2
theorem PktB.below {w':World} {x:Pkt} (h:PktB base w X x r v f m fs) (hb:Bl w w'):PktB base w' X x r v f m fs:=h.far fun k _ hk=>hb.block k hk
theorem PktB.cell {x:Pkt} (h:PktB base w X x r v f m fs) {i:Nat} (hi:(pktCells x r v f m)[i]?=some u):w.cell? ⟨X,i,none⟩=some u:=by
 simp only[World.cell?,h.st];simpa using hi
theorem PktB.free {x:Pkt} (h:PktB base w X x r v f m fs) (i:Nat):w.frozen? ⟨X,i,none⟩=false:=by simp[World.frozen?,h.st]
theorem PktB.lt {x:Pkt} (h:PktB base w X x r v f m fs):X<w.heap.size:=(gA_ h.st).1
theorem PktB.put {x:Pkt} (h:PktB base w X x r v f m fs) {i:Nat} (hc:(pktCells x r v f m).set i u=pktCells y r v f m) (e1:y.rest=x.rest) (e2:y.valid=x.valid) (e3:y.fields=x.fields) (e4:y.metas=x.metas):PktB base (w.setCell ⟨X,i,none⟩ u) X y r v f m fs:=by
 have hne:∀k,k∈([r,v,f,m]++fs).filterMap Value.ownBlock->(w.setCell ⟨X,i,none⟩ u).heap[k]?=w.heap[k]?:=fun k hk=>heap_setCell_other w _ k u (fun e=>(List.nodup_cons.1 h.nd).1 (by have:k=X:=e;rw[this] at hk;exact hk))
 have hmem:∀z∈[r,v,f,m]++fs,∀k,z.ownBlock=some k->(w.setCell ⟨X,i,none⟩ u).heap[k]?=w.heap[k]?:=fun z hz k hk=>hne k (List.mem_filterMap.2 ⟨z,hz,hk⟩)
 refine ⟨?_,?_,?_,?_,?_,?_,h.lo,h.nd⟩
 ·rw[heap_setCell_same w X i _ _ u h.st, <-hc];simp
 ·rw[e1];exact own_far h.hr (hmem r sm)
 ·rw[e2];exact own_far h.hv (hmem v sm)
 ·rw[e3];exact own_far h.hf (hmem f sm)
 ·intro j z l h1 h2;rw[e3] at h2;exact (h.hfs j z l h1 h2).far (hmem z (by simp[gM_ h1]))
 ·rw[e4];exact h.hm.far (hmem m sm)
theorem blocks_ne {L:List Value} (h:(L.filterMap Value.ownBlock).Nodup) {b:Nat} {y:Value} (ha:L[a]?=some z) (hb:L[b]?=some y) (hab:a≠b) {k:Nat} (hg:z.ownBlock=some g) (hk:y.ownBlock=some k):k≠g:=by
 rw[List.Nodup,List.pairwise_filterMap,List.pairwise_iff_getElem] at h;obtain ⟨a1,rfl⟩:=gL_ ha;obtain ⟨b1,rfl⟩:=gL_ hb;rcases Nat.lt_or_gt_of_ne hab with q|q
 ·exact (h a b a1 b1 q g hg k hk).symm
 ·exact h b a b1 a1 q k hk g hg
section
variable {base:Nat} {w w':World} {X:Nat} {x:Pkt} {r v f m:Value} {fs:List Value}
theorem PktB.nd2 (h:PktB base w X x r v f m fs):(([r,v,f,m]++fs).filterMap Value.ownBlock).Nodup:=(List.nodup_cons.1 h.nd).2
theorem PktB.nX (h:PktB base w X x r v f m fs) (ha:([r,v,f,m]++fs)[a]?=some z) (hg:z.ownBlock=some g):g≠X:=fun e=>
 (List.nodup_cons.1 h.nd).1 (by rw[<- e];exact List.mem_filterMap.2 ⟨z,gM_ ha,hg⟩)
theorem PktB.row (h:PktB base w X x r v f m fs) (ha:([r,v,f,m]++fs)[a]?=some z) (hg:z.ownBlock=some g) (hk:∀k,k≠g->w'.heap[k]?=w.heap[k]?):
 w'.heap[X]?=some (.cells (pktCells x r v f m).toArray 45 (0,0))/\∀(b:Nat) (y:Value),([r,v,f,m]++fs)[b]?=some y->b≠a->∀k,y.ownBlock=some k->w'.heap[k]?=w.heap[k]?:=
 ⟨(hk X (h.nX ha hg).symm).trans h.st,fun _b _y hb hab k hy=>hk k (blocks_ne h.nd2 ha hb (fun e=>hab e.symm) hg hy)⟩
theorem set2_other (w:World) (g i j:Nat) (a b:Value) {k:Nat} (h:k≠g):((w.setCell ⟨g,i,none⟩ a).setCell ⟨g,j,none⟩ b).heap[k]?=w.heap[k]?:=
 (heap_setCell_other _ _ k b h).trans (heap_setCell_other w _ k a h)
theorem numC_set:∀(l:List Nat) (j n:Nat),j<l.length->((l.flatMap numC).set (j*2) (.int .u64 ((n/B:Nat):Int))).set (j*2+1) (.int .u64 ((n%B:Nat):Int))=(l.set j n).flatMap numC
 |[],j,n,h=>by simp at h
 |y::l,0,n,_=>by simp[numC]
 |y::l,j+1,n,h=>by
  have ih:=numC_set l j n (by simpa using h);rw[List.set_cons_succ,List.flatMap_cons,List.flatMap_cons, <-ih];have e1:(j+1)*2=j*2+1+1:=om
  rw[e1];simp only[numC,List.cons_append,List.nil_append,List.set_cons_succ]
theorem NOwn.set {l:List Nat} (h:NOwn base w (.slice (some ⟨g,0,none⟩) n cap) l) {j k:Nat} (hj:j<l.length) (hk:k<B*B):NOwn base ((w.setCell ⟨g,j*2,none⟩ (.int .u64 ((k/B:Nat):Int))).setCell ⟨g,j*2+1,none⟩ (.int .u64 ((k%B:Nat):Int))) (.slice (some ⟨g,0,none⟩) n cap) (l.set j k):=by
 have hlen:(l.flatMap numC).length=l.length*2:=flat_len flatGN.len l;obtain ⟨h1,h2⟩:=h;have e0:n=l.length:=by
  obtain ⟨-,h|⟨g',cap',cur,e,-⟩⟩:=h1
  ·simp at h
  ·simp only[Value.slice.injEq] at e;exact e.2.1
 subst e0;have q1:=own_set h1 (i:=j*2) om (.int .u64 ((k/B:Nat):Int));have q2:=own_set q1 (i:=j*2+1) (by rw[List.length_set];omega) (.int .u64 ((k%B:Nat):Int));rw[numC_set l j k hj] at q2;refine ⟨by rw[List.length_set];exact q2,fun y hy=>?_⟩;rcases List.mem_or_eq_of_mem_set hy with q|q
 ·exact h2 y q
 ·rw[q];exact hk
theorem PktB.field (h:PktB base w X x r v f m fs) {i j k:Nat} {l:List Nat} (hi:fs[i]?=some u) (hl:x.fields[i]?=some l) (hj:j<l.length) (hk:k<B*B):∃g cap,u= .slice (some ⟨g,0,none⟩) l.length cap/\base<=g/\g<w.heap.size/\g≠X/\(l.length:Int)<=(cap:Int)/\
 (∀ q,w.frozen? ⟨g,q,none⟩=false)/\(∃ y,w.cell? ⟨g,j*2,none⟩=some y)/\(∃ y,w.cell? ⟨g,j*2+1,none⟩=some y)/\
 PktB base ((w.setCell ⟨g,j*2,none⟩ (.int .u64 ((k/B:Nat):Int))).setCell ⟨g,j*2+1,none⟩ (.int .u64 ((k%B:Nat):Int))) X { x with fields:=x.fields.set i (l.set j k) } r v f m fs:=by
 have hn:=h.hfs i u l hi hl;obtain ⟨g,cap,rfl,g1,g2,g3,g4,g5,g6⟩:=own_some hn.1 om;have hlen:(l.flatMap numC).length=l.length*2:=flat_len flatGN.len l;have ha:([r,v,f,m]++fs)[4+i]?=some (.slice (some ⟨g,0,none⟩) l.length cap):=by
  rw[List.getElem?_append_right sm];simpa using hi
 refine ⟨g,cap,rfl,g1,g2,h.nX ha rfl,om,g6,⟨_,g5 (j*2) _ (gE_ om)⟩,⟨_,g5 (j*2+1) _ (gE_ om)⟩,?_⟩;obtain ⟨s1,s2⟩:=h.row (w':=(w.setCell ⟨g,j*2,none⟩ (.int .u64 ((k/B:Nat):Int))).setCell ⟨g,j*2+1,none⟩ (.int .u64 ((k%B:Nat):Int))) ha rfl (fun q hq=>set2_other w g _ _ _ _ hq);refine ⟨s1,own_far h.hr (s2 0 r rfl om),own_far h.hv (s2 1 v rfl om),?_,fun a z l' h1 h2=>?_,h.hm.far (s2 3 m rfl om),h.lo,h.nd⟩
 ·have:=own_far h.hf (s2 2 f rfl om);simpa using this
 ·by_cases e:a=i
  ·subst e;rw[hi] at h1;cases h1;have hlt:=(gL_ hl).1;rw[show ({ x with fields:=x.fields.set a (l.set j k) }:Pkt).fields=x.fields.set a (l.set j k) from rfl,List.getElem?_set_self hlt] at h2;cases h2;exact hn.set hj hk
  ·rw[show ({ x with fields:=x.fields.set i (l.set j k) }:Pkt).fields=x.fields.set i (l.set j k) from rfl,List.getElem?_set_ne (fun q=>e q.symm)] at h2;refine (h.hfs a z l' h1 h2).far (s2 (4+a) z ?_ om);rw[List.getElem?_append_right sm];simpa using h1
theorem PktB.setMeta (h:PktB base w X x r v f m fs) {j k:Nat} (hj:j<x.metas.length) (hk:k<B*B):∃g cap,m= .slice (some ⟨g,0,none⟩) x.metas.length cap/\base<=g/\g<w.heap.size/\g≠X/\(x.metas.length:Int)<=(cap:Int)/\
 (∀ q,w.frozen? ⟨g,q,none⟩=false)/\(∃ y,w.cell? ⟨g,j*2,none⟩=some y)/\(∃ y,w.cell? ⟨g,j*2+1,none⟩=some y)/\
 PktB base ((w.setCell ⟨g,j*2,none⟩ (.int .u64 ((k/B:Nat):Int))).setCell ⟨g,j*2+1,none⟩ (.int .u64 ((k%B:Nat):Int))) X { x with metas:=x.metas.set j k } r v f m fs:=by
 obtain ⟨g,cap,rfl,g1,g2,g3,g4,g5,g6⟩:=own_some h.hm.1 om;have hlen:(x.metas.flatMap numC).length=x.metas.length*2:=flat_len flatGN.len _;have ha:([r,v,f, .slice (some ⟨g,0,none⟩) x.metas.length cap]++fs)[3]?=some (.slice (some ⟨g,0,none⟩) x.metas.length cap):=rfl;refine ⟨g,cap,rfl,g1,g2,h.nX ha rfl,om,g6,⟨_,g5 (j*2) _ (gE_ om)⟩,⟨_,g5 (j*2+1) _ (gE_ om)⟩,?_⟩;obtain ⟨s1,s2⟩:=h.row (w':=(w.setCell ⟨g,j*2,none⟩ (.int .u64 ((k/B:Nat):Int))).setCell ⟨g,j*2+1,none⟩ (.int .u64 ((k%B:Nat):Int))) ha rfl (fun q hq=>set2_other w g _ _ _ _ hq);refine ⟨s1,own_far h.hr (s2 0 r rfl om),own_far h.hv (s2 1 v rfl om),own_far h.hf (s2 2 f rfl om),fun a z l' h1 h2=>(h.hfs a z l' h1 h2).far (s2 (4+a) z ?_ om),h.hm.set hj hk,h.lo,h.nd⟩;rw[List.getElem?_append_right sm];simpa using h1
theorem PktB.valid (h:PktB base w X x r v f m fs) {j:Nat} (b:Bool) (hj:j<x.valid.length):∃g cap,v= .slice (some ⟨g,0,none⟩) x.valid.length cap/\base<=g/\g<w.heap.size/\g≠X/\(x.valid.length:Int)<=(cap:Int)/\
 (∀ q,w.frozen? ⟨g,q,none⟩=false)/\(∃ y,w.cell? ⟨g,j,none⟩=some y)/\
 PktB base (w.setCell ⟨g,j,none⟩ (.bool b)) X { x with valid:=x.valid.set j b } r v f m fs:=by
 obtain ⟨g,cap,rfl,g1,g2,g3,g4,g5,g6⟩:=own_some h.hv om;have ha:([r, .slice (some ⟨g,0,none⟩) x.valid.length cap,f,m]++fs)[1]?=some (.slice (some ⟨g,0,none⟩) x.valid.length cap):=rfl;refine ⟨g,cap,rfl,g1,g2,h.nX ha rfl,om,g6,⟨_,g5 j _ (gE_ (by simpa using hj))⟩,?_⟩;obtain ⟨s1,s2⟩:=h.row (w':=w.setCell ⟨g,j,none⟩ (.bool b)) ha rfl (fun q hq=>heap_setCell_other w _ q _ hq);refine ⟨s1,own_far h.hr (s2 0 r rfl om),?_,own_far h.hf (s2 2 f rfl om),fun a z l' h1 h2=>(h.hfs a z l' h1 h2).far (s2 (4+a) z ?_ om),h.hm.far (s2 3 m rfl om),h.lo,h.nd⟩
 ·have:=own_set h.hv (i:=j) (by simpa using hj) (.bool b);rw[<- List.map_set] at this;rw[List.length_set];exact this
 ·rw[List.getElem?_append_right sm];simpa using h1
theorem PktB.getValid (h:PktB base w X x r v f m fs) {j:Nat} {b:Bool} (hj:x.valid[j]?=some b):∃g cap,v= .slice (some ⟨g,0,none⟩) x.valid.length cap/\(x.valid.length:Int)<=(cap:Int)/\w.cell? ⟨g,j,none⟩=some (.bool b):=by
 have hlt:=(gL_ hj).1;obtain ⟨g,cap,rfl,g1,g2,g3,g4,g5,g6⟩:=own_some h.hv om;exact ⟨g,cap,rfl,om,g5 j _ (by rw[List.getElem?_map,hj];rfl)⟩
theorem PktB.getRow (h:PktB base w X x r v f m fs) {i:Nat} {l:List Nat} (hi:x.fields[i]?=some l):∃g cap u,f= .slice (some ⟨g,0,none⟩) x.fields.length cap/\(x.fields.length:Int)<=(cap:Int)/\w.cell? ⟨g,i,none⟩=some u/\fs[i]?=some u/\NOwn base w u l:=by
 have hlt:=(gL_ hi).1;obtain ⟨g,cap,e,g1,g2,g3,g4,g5,g6⟩:=own_some h.hf om;have hu:=gE_ (l:=fs) (i:=i) (by rw[h.flen];exact hlt);exact ⟨g,cap,_,e,om,g5 i _ hu,hu,h.hfs i _ l hu hi⟩
end
theorem PktB.c9 {x:Pkt} (h:PktB base w X x r v f m fs):w.cell? ⟨X,0,none⟩=some (.int .i64 x.port)/\w.cell? ⟨X,1,none⟩=some (r)/\w.cell? ⟨X,2,none⟩=some (v)/\w.cell? ⟨X,3,none⟩=some (f)/\w.cell? ⟨X,4,none⟩=some (m)/\w.cell? ⟨X,5,none⟩=some (.bool x.dropped)/\w.cell? ⟨X,6,none⟩=some (.bool x.sent)/\w.cell? ⟨X,7,none⟩=some (.int .i64 x.egress)/\w.cell? ⟨X,8,none⟩=some (.bool x.access):=⟨PktB.cell h (i:=0) rfl,PktB.cell h (i:=1) rfl,PktB.cell h (i:=2) rfl,PktB.cell h (i:=3) rfl,PktB.cell h (i:=4) rfl,PktB.cell h (i:=5) rfl,PktB.cell h (i:=6) rfl,PktB.cell h (i:=7) rfl,PktB.cell h (i:=8) rfl⟩
open Stab
def stepE (x:Pkt) (args:List Nat) (st:List (Nat×Int)) (n:Nod):List (Nat×Int):=
 if n.op<=6 then (leafP x args n%2 ^ sh n.w,n.w)::st
 else if isUn n.op then (match st with|[]=>[]|a::r=>(un1 n a.1%2 ^ sh n.w,n.w)::r)
 else (match st with|b::a::r=>(bin2 n a.1 b.1 b.2%2 ^ sh n.w,n.w)::r|_=>[])
def evC (x:Pkt) (args:List Nat) (c:List Nod):Nat:=match c.foldl (stepE x args) [] with|a::_=>a.1|[]=>0
def accC (x:Pkt) (c:List Nod):Bool:=c.any (leafA x)
theorem isUn_gt {op:Int} (h:isUn op):¬op<=6:=by unfold isUn at h;omega
theorem foldE_flat {p:Prg} {act:Int} {w:Int} (x:Pkt) (args:List Nat) (h:WTr p act t w):∀st,t.flat.foldl (stepE x args) st=(evT x args t,t.root.w)::st:=by
 induction h with
 |leaf n h1 h2 _ _=>
  intro st;simp only[Tr.flat,List.foldl_cons,List.foldl_nil,Tr.root,evT];unfold stepE;rw[if_pos h2]
 |un n t w hu _ _ _ _ ih=>
  intro st;simp only[Tr.flat,List.foldl_append,List.foldl_cons,List.foldl_nil,ih st,Tr.root,evT];unfold stepE;rw[if_neg (isUn_gt hu),if_pos hu]
 |bin n a b wa wb h1 hu _ _ _ h6 h7 iha ihb=>
  intro st;have hop:=bin_op h6 h7;simp only[Tr.flat,List.foldl_append,List.foldl_cons,List.foldl_nil,iha st,ihb,Tr.root,evT];unfold stepE;rw[if_neg om,if_neg hu]
theorem evC_flat {p:Prg} {act:Int} {w:Int} (x:Pkt) (args:List Nat) (h:WTr p act t w):evC x args t.flat=evT x args t:=by
 unfold evC;rw[foldE_flat x args h]
theorem leafA_un {x:Pkt} {n:Nod} (h:¬n.op<=6):leafA x n=false:=by unfold leafA;rw[decide_eq_false om];rfl
def chooseF (l:List Ent) (tab:Int) (ks:List Nat):Nat->Int
 |0=>-1
 |k+1=>if matB (eAt l (k:Int)) tab ks=true/\(chooseF l tab ks k<0\/lts l (k:Int) (chooseF l tab ks k)=true) then (k:Int) else chooseF l tab ks k
theorem choose_best (l:List Ent) (tab:Int) (ks:List Nat):∀k,Best l tab ks k (chooseF l tab ks k)
 |0=>Best.zero l tab ks
 |k+1=>by
  have ih:=choose_best l tab ks k;rw[chooseF];cases hm:matB (eAt l (k:Int)) tab ks
  ·rw[if_neg sm];exact ih.no hm
  ·by_cases hc:chooseF l tab ks k<0
   ·rw[if_pos ⟨rfl, .inl hc⟩];have e:chooseF l tab ks k= -1:=by
     rcases ih with ⟨h,-⟩|⟨h,-⟩
     ·exact h
     ·omega
    rw[e] at ih;exact ih.first hm
   ·obtain ⟨c,hcc⟩:∃c:Nat,chooseF l tab ks k=(c:Int):=⟨(chooseF l tab ks k).toNat,om⟩;rw[hcc] at ih⊢;cases hl:lts l (k:Int) (c:Int)
    ·rw[if_neg (by rintro ⟨-,h|h⟩;omega;cases h)];exact ih.keep hl
    ·rw[if_pos ⟨rfl, .inr rfl⟩];exact ih.next hm hl
def lookA (l:List Ent) (tab:Int) (ks:List Nat) (a0:Int):Int:=if chooseF l tab ks l.length<0 then a0 else (eAt l (chooseF l tab ks l.length)).act
def lookG (l:List Ent) (tab:Int) (ks:List Nat) (g0:List Nat):List Nat:=if chooseF l tab ks l.length<0 then g0 else (eAt l (chooseF l tab ks l.length)).args
theorem look_is (l:List Ent) (tab:Int) (ks:List Nat) (a0:Int) (g0:List Nat):Look l tab ks a0 g0 (lookA l tab ks a0) (lookG l tab ks g0):=⟨_,choose_best l tab ks _,rfl,rfl⟩
def headW (p:Prg) (h f:Int):Int:=(p.heads.getD h.toNat []).getD f.toNat 0
def setF (p:Prg) (x:Pkt) (h f:Int) (n:Nat):Pkt:=
 if thereP x h f then (if x.valid.getD h.toNat false=true then { x with fields:=x.fields.set h.toNat ((x.fields.getD h.toNat []).set f.toNat (n%2 ^ sh (headW p h f))) } else { x with access:=true }) else x
def validF (x:Pkt) (h:Int) (on:Bool):Pkt:=
 if 0<=h/\h<(x.valid.length:Int)/\h<(x.fields.length:Int)/\x.valid.getD h.toNat false≠on then { x with valid:=x.valid.set h.toNat on,fields:=x.fields.set h.toNat ((x.fields.getD h.toNat []).map fun _=>0) } else x
def seen (x:Pkt) (c:List Nod):Pkt:={ x with access:=x.access||accC x c }
def execB (p:Prg) (args:List Nat) (x:Pkt) (i:Ist):Pkt:=
 if i.k=1 then setF p (seen x i.e) i.a i.b (evC x args i.e)
 else if i.k=2 then { seen x i.e with metas:=x.metas.set i.a.toNat (evC x args i.e%2 ^ sh (p.metas.getD i.a.toNat 0)) }
 else if i.k=4 then { x with dropped:=true }
 else if i.k=5 then { seen x i.e with egress:=(evC x args i.e:Nat),sent:=true,dropped:=false }
 else if i.k=6 then validF x i.a (decide (i.b=1))
 else if i.k=7 then seen x i.e
 else x
def nextI (args:List Nat) (x:Pkt) (i:Ist) (at':Nat):Nat:=if i.k=8\/(i.k=7/\evC x args i.e=0) then i.to.toNat else at'+1
def istAt (c:List Ist) (k:Nat):Ist:=c.getD k ⟨0,0,0,[],0⟩
def runF (p:Prg) (ap:Pkt->Ist->Pkt) (args:List Nat) (c:List Ist):Nat->Nat->Pkt->Pkt
 |0,_,x=>x
 |k+1,at',x=>if at'<c.length then (let i:=istAt c at';runF p ap args c k (nextI args x i at') (if i.k=3 then ap x i else execB p args x i)) else x
def runB (p:Prg) (args:List Nat) (c:List Ist) (x:Pkt):Pkt:=runF p (fun x _=>x) args c c.length 0 x
def seenAll (x:Pkt) (cs:List (List Nod)):Pkt:={ x with access:=x.access||cs.any (accC x) }
def tblAt (p:Prg) (i:Int):Tbl:=p.tabs.getD i.toNat ⟨[],[],[],0,[]⟩
def actAt (p:Prg) (i:Int):Actn:=p.acts.getD i.toNat ⟨[],[]⟩
def keysP (x:Pkt) (cs:List (List Nod)):List Nat:=cs.map (evC x [])
def applyP (p:Prg) (l:List Ent) (x:Pkt) (i:Ist):Pkt:=
 let t:=tblAt p i.a
 let ks:=keysP x t.keys
 runB p (lookG l i.a ks t.dargs) (actAt p (lookA l i.a ks t.dact)).body (seenAll x t.keys)
def runP (p:Prg) (l:List Ent) (args:List Nat) (c:List Ist) (x:Pkt):Pkt:=runF p (applyP p l) args c c.length 0 x
open Stab
theorem fitsP_mod (n:Nat) (w:Int):fitsP (n%2 ^ sh w) w=true:=by unfold fitsP;rw[Nat.mod_mod];simp
theorem fitsP_zero (w:Int):fitsP 0 w=true:=by unfold fitsP;rw[Nat.zero_mod];simp
theorem numsP_iff {l:List Nat} {ws:List Int}:numsP l ws=true↔l.length=ws.length/\∀(j:Nat) (a:Nat),l[j]?=some a->fitsP a (ws.getD j 0)=true:=by
 unfold numsP;rw[Bool.and_eq_true,decide_eq_true_eq];constructor
 ·rintro ⟨h1,h2⟩;refine ⟨h1,fun j a hj=>?_⟩;have hlt:j<ws.length:=by have:=(gL_ hj).1;omega
  have:=List.all_eq_true.1 h2 (a,ws.getD j 0) (List.mem_iff_getElem?.2 ⟨j,List.getElem?_zip_eq_some.2 ⟨hj,some_getD 0 hlt⟩⟩);exact this
 ·rintro ⟨h1,h2⟩;refine ⟨h1,List.all_eq_true.2 fun y hy=>?_⟩;obtain ⟨j,hj⟩:=List.mem_iff_getElem?.1 hy;obtain ⟨e1,e2⟩:=List.getElem?_zip_eq_some.1 hj;have:=h2 j y.1 e1
  rwa [getD_some e2] at this
structure PktF (p:Prg) (x:Pkt):Prop where
 v:x.valid.length=p.heads.length
 f:x.fields.length=p.heads.length
 m:x.metas.length=p.metas.length
 mf:∀(j:Nat) (a:Nat),x.metas[j]?=some a->fitsP a (p.metas.getD j 0)=true
 fl:∀(h:Nat) (l:List Nat),x.fields[h]?=some l->l.length=(p.heads.getD h []).length
 ff:∀(h:Nat) (l:List Nat),x.fields[h]?=some l->∀(j:Nat) (a:Nat),l[j]?=some a->fitsP a ((p.heads.getD h []).getD j 0)=true
 z:∀(h:Nat) (l:List Nat),x.fields[h]?=some l->x.valid.getD h false=false->∀a∈l,a=0
theorem pktP_iff {p:Prg} {x:Pkt}:pktP p x=true↔PktF p x:=by
 unfold pktP;rw[Bool.and_eq_true,Bool.and_eq_true,decide_eq_true_eq,numsP_iff,allIdx_iff];constructor
 ·rintro ⟨⟨⟨h1,h2⟩,h3,h4⟩,h5⟩;refine ⟨h1,h2,h3,h4,fun h l hl=>?_,fun h l hl=>?_,fun h l hl hv a ha=>?_⟩
  all_goals
   have h6:=h5 h l hl;simp only[Nat.zero_add,Bool.and_eq_true] at h6
  ·exact (numsP_iff.1 h6.1).1
  ·exact (numsP_iff.1 h6.1).2
  ·have:=h6.2;rw[hv,Bool.false_or,List.all_eq_true] at this;exact of_decide_eq_true (this a ha)
 ·intro h;refine ⟨⟨⟨h.v,h.f⟩,h.m,h.mf⟩,fun j l hl=>?_⟩;simp only[Nat.zero_add,Bool.and_eq_true];refine ⟨numsP_iff.2 ⟨h.fl j l hl,h.ff j l hl⟩,?_⟩;cases hv:x.valid.getD j false
  ·rw[Bool.false_or,List.all_eq_true];exact fun a ha=>decide_eq_true (h.z j l hl hv a ha)
  ·rfl
theorem PktF.get {p:Prg} {x:Pkt} (h:PktF p x) {a b:Int} (ht:thereP x a b):getP x a b=(x.fields.getD a.toNat []).getD b.toNat 0:=by
 unfold getP;cases hv:x.valid.getD a.toNat false
 ·rw[if_neg sm];obtain ⟨h1,h2,h3,h4,h5⟩:=ht;have h6:=some_getD (l:=x.fields) (j:=a.toNat) [] om;have h7:=some_getD (l:=x.fields.getD a.toNat []) (j:=b.toNat) 0 om;exact (h.z _ _ h6 hv _ (List.mem_iff_getElem?.2 ⟨_,h7⟩)).symm
 ·rw[if_pos ⟨ht,rfl⟩]
theorem PktF.other {p:Prg} {x:Pkt} (h:PktF p x) (h1:y.valid=x.valid) (h2:y.fields=x.fields) (h3:y.metas=x.metas):PktF p y:=by
 refine ⟨by rw[h1];exact h.v,by rw[h2];exact h.f,by rw[h3];exact h.m,by rw[h3];exact h.mf,by rw[h2];exact h.fl,by rw[h2];exact h.ff,by rw[h1,h2];exact h.z⟩
theorem PktF.metas_set {p:Prg} {x:Pkt} (h:PktF p x) (i:Nat) (n:Nat) (hn:fitsP n (p.metas.getD i 0)=true):PktF p { x with metas:=x.metas.set i n }:=by
 refine ⟨h.v,h.f,by rw[<- h.m];simp,fun j a hj=>?_,h.fl,h.ff,h.z⟩;simp only[List.getElem?_set] at hj;split at hj
 ·rename_i e;subst e;split at hj
  ·cases hj;exact hn
  ·cases hj
 ·exact h.mf j a hj
theorem PktF.field_set {p:Prg} {x:Pkt} (h:PktF p x) (i:Nat) (l:List Nat) (h1:l.length=(p.heads.getD i []).length) (h2:∀(j:Nat) (a:Nat),l[j]?=some a->fitsP a ((p.heads.getD i []).getD j 0)=true) (on:List Bool) (h3:on.length=x.valid.length) (h4:∀j,j≠i->on.getD j false=x.valid.getD j false) (h5:on.getD i false=false->∀a∈l,a=0):
 PktF p { x with valid:=on,fields:=x.fields.set i l }:=by
 refine ⟨by rw[<- h.v];exact h3,by rw[<- h.f];simp,h.m,h.mf,fun k r hk=>?_,fun k r hk=>?_,fun k r hk=>?_⟩
 all_goals
  simp only[List.getElem?_set] at hk;split at hk
  ·rename_i e;subst e;split at hk
   ·cases hk;assumption
   ·cases hk
  ·rename_i e
   first
   |exact h.fl k r hk
   |exact h.ff k r hk
   |(intro hv;rw[show ({ x with valid:=on,fields:=x.fields.set i l }:Pkt).valid=on from rfl,h4 k (fun e2=>e e2.symm)] at hv;exact h.z k r hk hv)
theorem setF_fits {p:Prg} {x:Pkt} (hx:PktF p x) (h f:Int) (n:Nat):PktF p (setF p x h f n):=by
 unfold setF;split
 ·rename_i ht;split
  ·rename_i hv;obtain ⟨h1,h2,h3,h4,h5⟩:=ht;have h6:=some_getD (l:=x.fields) (j:=h.toNat) [] om;refine hx.field_set h.toNat _ (by rw[List.length_set];exact hx.fl _ _ h6) (fun j a hj=>?_) x.valid rfl (fun _ _=>rfl) (fun e=>by rw[hv] at e;cases e);simp only[List.getElem?_set] at hj;split at hj
   ·rename_i e;subst e;split at hj
    ·cases hj;exact fitsP_mod n _
    ·cases hj
   ·exact hx.ff _ _ h6 j a hj
  ·exact hx.other rfl rfl rfl
 ·exact hx
theorem validF_fits {p:Prg} {x:Pkt} (hx:PktF p x) (h:Int) (on:Bool):PktF p (validF x h on):=by
 unfold validF;split
 ·rename_i ht;obtain ⟨h1,h2,h3,h4⟩:=ht;have h6:=some_getD (l:=x.fields) (j:=h.toNat) [] om;refine hx.field_set h.toNat _ (by rw[List.length_map];exact hx.fl _ _ h6) (fun j a hj=>?_) _ sm (fun j hj=>?_) (fun _ a ha=>?_)
  ·rw[List.getElem?_map] at hj;cases hq:(x.fields.getD h.toNat [])[j]? with
   |none=>rw[hq] at hj;cases hj
   |some b=>rw[hq] at hj;cases hj;exact fitsP_zero _
  ·rw[List.getD_eq_getElem?_getD,List.getElem?_set_ne (fun e=>hj e.symm), <-List.getD_eq_getElem?_getD]
  ·obtain ⟨b,-,rfl⟩:=List.mem_map.1 ha;rfl
 ·exact hx
structure Stays (x y:Pkt):Prop where
 rest:y.rest=x.rest
 port:y.port=x.port
 sent:x.sent=true->y.sent=true
 acc:x.access=true->y.access=true
theorem Stays.refl (x:Pkt):Stays x x:=⟨rfl,rfl,id,id⟩
theorem Stays.trans {x z:Pkt} (h1:Stays x y) (h2:Stays y z):Stays x z:=⟨h2.rest.trans h1.rest,h2.port.trans h1.port,fun h=>h2.sent (h1.sent h),fun h=>h2.acc (h1.acc h)⟩
theorem seen_stays (x:Pkt) (c:List Nod):Stays x (seen x c):=⟨rfl,rfl,id,fun h=>by show (x.access||_)=true;rw[h];rfl⟩
theorem setF_stays (p:Prg) (x:Pkt) (h f:Int) (n:Nat):Stays x (setF p x h f n):=by
 unfold setF;split
 ·split
  ·exact ⟨rfl,rfl,id,id⟩
  ·exact ⟨rfl,rfl,id,fun _=>rfl⟩
 ·exact Stays.refl x
theorem validF_stays (x:Pkt) (h:Int) (on:Bool):Stays x (validF x h on):=by
 unfold validF;split
 ·exact ⟨rfl,rfl,id,id⟩
 ·exact Stays.refl x
def Goes (e:Int) (y:Pkt):Prop:=y.egress=e\/(0<=y.egress/\y.egress<512)
def MayI (p:Prg) (act:Int) (i:Ist):Prop:=∃k many,mayInstP p act i k many=true
theorem mayI_code {p:Prg} {act:Int} {i:Ist} (h:MayI p act i):∃w,instW p act i=some w/\((w=0/\i.e.length=0)\/(w≠0/\widthP p act i.e=some w)):=by
 obtain ⟨k,many,h⟩:=h;unfold mayInstP at h;split at h
 ·cases h
 ·rename_i w hw;refine ⟨w,hw,?_⟩;rw[Bool.and_eq_true] at h;have h2:=h.2;split at h2
  ·exact .inl ⟨by assumption,of_decide_eq_true h2⟩
  ·exact .inr ⟨by assumption,of_decide_eq_true h2⟩
theorem evC_width {p:Prg} {act w:Int} {c:List Nod} (x:Pkt) (args:List Nat) (h:widthP p act c=some w):evC x args c<2 ^ sh w:=by
 obtain ⟨t,rfl,ht⟩:=tree_of h;rw[evC_flat x args ht];have:=ev_lt x args t
 rwa [ht.root.1] at this
theorem sh9:2 ^ sh 9=512:=by decide
theorem instW_fwd {p:Prg} {act:Int} {i:Ist} {w:Int} (h:instW p act i=some w) (hk:i.k=5):w=9:=by
 unfold instW at h;rw[hk] at h;simp only[show ¬(5:Int)=1 by decide,show ¬(5:Int)=2 by decide,show ¬(5:Int)=3 by decide,show ¬(5:Int)=6 by decide,show ¬(5:Int)=7 by decide,if_false,if_true,false_or,true_or] at h;split at h
 ·cases h;rfl
 ·cases h
theorem execB_all {p:Prg} {act:Int} {x:Pkt} {i:Ist} (args:List Nat) (hx:PktF p x) (hi:MayI p act i) (e:Int) (hg:Goes e x):
 PktF p (execB p args x i)/\Stays x (execB p args x i)/\Goes e (execB p args x i):=by
 have hs:PktF p (seen x i.e):=hx.other rfl rfl rfl;have gs:Goes e (seen x i.e):=hg;unfold execB;split
 ·refine ⟨setF_fits hs _ _ _,(seen_stays x i.e).trans (setF_stays p _ _ _ _),?_⟩;unfold setF;split
  ·split<;>exact hg
  ·exact gs
 ·split
  ·exact ⟨hs.metas_set i.a.toNat _ (fitsP_mod _ _),(seen_stays x i.e).trans ⟨rfl,rfl,id,id⟩,hg⟩
  ·split
   ·exact ⟨hx.other rfl rfl rfl,⟨rfl,rfl,id,id⟩,hg⟩
   ·split
    ·rename_i hk;refine ⟨hs.other rfl rfl rfl,(seen_stays x i.e).trans ⟨rfl,rfl,fun _=>rfl,id⟩, .inr ⟨by show (0:Int)<=((evC x args i.e:Nat):Int);omega,?_⟩⟩;obtain ⟨w,h1,h2⟩:=mayI_code hi;have hw:=instW_fwd h1 hk;subst hw;rcases h2 with ⟨h2,-⟩|⟨-,h2⟩
     ·cases h2
     ·have:=evC_width x args h2;rw[sh9] at this;show ((evC x args i.e:Nat):Int)<512;omega
    ·split
     ·refine ⟨validF_fits hx _ _,validF_stays x _ _,?_⟩;unfold validF;split<;>exact hg
     ·split
      ·exact ⟨hs,seen_stays x i.e,gs⟩
      ·exact ⟨hx,Stays.refl x,hg⟩
theorem runF_all {p:Prg} {act:Int} {ap:Pkt->Ist->Pkt} (args:List Nat) (c:List Ist) (e:Int) (hc:∀i∈c,MayI p act i)
 (hap:∀(x:Pkt) (i:Ist),i∈c->i.k=3->PktF p x->Goes e x->PktF p (ap x i)/\Stays x (ap x i)/\Goes e (ap x i)):
 ∀(k at':Nat) (x:Pkt),PktF p x->Goes e x->PktF p (runF p ap args c k at' x)/\Stays x (runF p ap args c k at' x)/\Goes e (runF p ap args c k at' x):=by
 intro k;induction k with
 |zero=>intro at' x hx hg;exact ⟨hx,Stays.refl x,hg⟩
 |succ k ih=>
  intro at' x hx hg;rw[runF];split
  ·rename_i hlt;have hm:istAt c at'∈c:=by
    unfold istAt;rw[List.getD_eq_getElem?_getD,gE_ hlt];exact List.getElem_mem _
   simp only;split
   ·rename_i h3;obtain ⟨a1,a2,a3⟩:=hap x _ hm h3 hx hg;obtain ⟨b1,b2,b3⟩:=ih (nextI args x (istAt c at') at') _ a1 a3;exact ⟨b1,a2.trans b2,b3⟩
   ·obtain ⟨a1,a2,a3⟩:=execB_all args hx (hc _ hm) e hg;obtain ⟨b1,b2,b3⟩:=ih (nextI args x (istAt c at') at') _ a1 a3;exact ⟨b1,a2.trans b2,b3⟩
  ·exact ⟨hx,Stays.refl x,hg⟩
theorem mayInsts_mem {p:Prg} {act:Int} {l:List Ist} (h:mayInstsP p act l=true):∀i∈l,MayI p act i:=by
 intro i hi;unfold mayInstsP at h;rw[Bool.and_eq_true] at h;obtain ⟨j,hj⟩:=List.mem_iff_getElem?.1 hi;exact ⟨_,_,allIdx_iff.1 h.2 j i hj⟩
def BodiesMay (p:Prg):Prop:=∀(a:Nat) (x:Actn),p.acts[a]?=some x->mayInstsP p (a:Int) x.body=true
theorem applyP_all {p:Prg} (hb:BodiesMay p) (l:List Ent) {x:Pkt} {i:Ist} (e:Int) (hx:PktF p x) (hg:Goes e x):PktF p (applyP p l x i)/\Stays x (applyP p l x i)/\Goes e (applyP p l x i):=by
 unfold applyP;simp only;have hx2:PktF p (seenAll x (tblAt p i.a).keys):=hx.other rfl rfl rfl;have hs:Stays x (seenAll x (tblAt p i.a).keys):=⟨rfl,rfl,id,fun h=>by show (x.access||_)=true;rw[h];rfl⟩;have hg2:Goes e (seenAll x (tblAt p i.a).keys):=hg;generalize lookG l i.a _ _=gs;generalize lookA l i.a _ _=a;generalize seenAll x _=y at hx2 hs hg2;by_cases hlt:a.toNat<p.acts.length
 ·have h6:=some_getD (l:=p.acts) (j:=a.toNat) ⟨[],[]⟩ hlt;have hm:=hb _ _ h6;obtain ⟨b1,b2,b3⟩:=runF_all (p:=p) (act:=(a.toNat:Int)) (ap:=fun x _=>x) gs (actAt p a).body e (mayInsts_mem hm) (fun x _ _ _ h1 h2=>⟨h1,Stays.refl x,h2⟩) (actAt p a).body.length 0 y hx2 hg2;exact ⟨b1,hs.trans b2,b3⟩
 ·have h7:actAt p a=⟨[],[]⟩:=by unfold actAt;rw[List.getD_eq_getElem?_getD,List.getElem?_eq_none om];rfl
  rw[h7];exact ⟨hx2,hs,hg2⟩
theorem runP_all {p:Prg} {act:Int} (hb:BodiesMay p) (l:List Ent) (args:List Nat) {c:List Ist} (hc:mayInstsP p act c=true) {x:Pkt} (e:Int) (hx:PktF p x) (hg:Goes e x):PktF p (runP p l args c x)/\Stays x (runP p l args c x)/\Goes e (runP p l args c x):=
 runF_all (ap:=applyP p l) args c e (mayInsts_mem hc) (fun _x _i _ _ h1 h2=>applyP_all hb l e h1 h2) c.length 0 x hx hg
open Go.RowKit
def cmpN (a b:Nat):Int:=if a<b then -1 else if b<a then 1 else 0
theorem cmpN_lt {b:Nat} (h:a<b):cmpN a b= -1:=by unfold cmpN;rw[if_pos h]
theorem cmpN_gt {b:Nat} (h:b<a):cmpN a b=1:=by unfold cmpN;rw[if_neg om,if_pos h]
theorem cmpN_eq {b:Nat} (h:a=b):cmpN a b=0:=by unfold cmpN;rw[if_neg om,if_neg om]
theorem lt_of_testBit {x y:Nat} (i:Nat) (hx:x.testBit i=false) (hy:y.testBit i=true) (h:∀j,i<j->x.testBit j=y.testBit j):x<y:=by
 have hd:x/2 ^ (i+1)=y/2 ^ (i+1):=by
  apply Nat.eq_of_testBit_eq;intro j;rw[Nat.testBit_div_two_pow,Nat.testBit_div_two_pow];exact h _ om
 have ex:=Nat.div_add_mod x (2 ^ (i+1));have ey:=Nat.div_add_mod y (2 ^ (i+1));have mx:=Nat.mod_pow_succ (x:=x) (b:=2) (k:=i);have my:=Nat.mod_pow_succ (x:=y) (b:=2) (k:=i);rw[testBit_div,beq_eq_false_iff_ne] at hx;rw[testBit_div,beq_iff_eq] at hy;have hx0:x/2 ^ i%2=0:=om
 rw[hx0,Nat.mul_zero] at mx;rw[hy,Nat.mul_one] at my;have l:=Nat.mod_lt x (Nat.two_pow_pos i);rw[hd] at ex;omega
def SameFrom (a b m:Nat):Prop:=∀i,m<=i->a.testBit i=b.testBit i
theorem refCmp_any (a b:Nat) (ha:a<B*B) (hb:b<B*B) (w:World):
 Calls Tryz.prog 29 #[numV a,numV b] w fun e w'=>e= .returned (.int .i64 (cmpN a b))/\Bl w w':=by
 obtain ⟨fa,hfa⟩:=nm a.testBit;obtain ⟨fb,hfb⟩:=nm b.testBit;have HA:Hd (∀ W,CR 71 #[numV a] W (.agg (rowA fa))):=fun W=>by rw[hfa];exact refBits_any a ha W
 have HB:Hd (∀ W,CR 71 #[numV b] W (.agg (rowA fb))):=fun W=>by rw[hfb];exact refBits_any b hb W
 have HFA:=hD hfa;have HFB:=hD hfb;obtain ⟨h1,l1,e1,-,-⟩:=numV_parts a;obtain ⟨h2,l2,e2,-,-⟩:=numV_parts b;rw[e1] at HA⊢;rw[e2] at HB⊢;clear e1 e2 hfa hfb;go_enter Tryz.func29,Tryz.ntmps29;go_wp2_with fail;obtain ⟨W0,hW0⟩:=nm ((w.alloc (.cells #[.int .u64 (h1:Int), .int .u64 (l1:Int)] 82)).alloc (.cells #[.int .u64 (h2:Int), .int .u64 (l2:Int)] 82));have hbW:Bl w W0:=by rw[hW0];exact bL
 have z0:w.heap.size<W0.heap.size:=by rw[hW0];simp<;>omega
 have z1:w.heap.size+1<W0.heap.size:=by rw[hW0];simp
 have c0:W0.cell? ⟨w.heap.size,0,none⟩=some (.int .u64 (h1:Int)):=by rw[hW0];simp[go_sem]
 have c1:W0.cell? ⟨w.heap.size,1,none⟩=some (.int .u64 (l1:Int)):=by rw[hW0];simp[go_sem]
 have c2:W0.cell? ⟨w.heap.size+1,0,none⟩=some (.int .u64 (h2:Int)):=by rw[hW0];simp[go_sem]
 have c3:W0.cell? ⟨w.heap.size+1,1,none⟩=some (.int .u64 (l2:Int)):=by rw[hW0];simp[go_sem]
 rw[<- hW0];have HBW0:=hD hbW;clear hW0 hbW;refine wp_region_inv kq (fun L a' w'=>∃v5 v6 v8 v9 v10 v11:Value,a'=⟨#[.agg #[.int .u64 (h1:Int), .int .u64 (l1:Int)], .agg #[.int .u64 (h2:Int), .int .u64 (l2:Int)], .pointer (some ⟨w.heap.size,0,none⟩), .pointer (some ⟨w.heap.size+1,0,none⟩), .int .i64 0,v5,v6,undef,v8,v9,v10,v11,undef,undef,undef,undef,undef,undef,undef,undef,undef,undef,undef,undef,undef,undef,undef,undef,undef,undef,undef,undef,undef,undef],[]⟩/\TwoI (.agg #[.int .u64 (h1:Int), .int .u64 (l1:Int)]) (.agg #[.int .u64 (h2:Int), .int .u64 (l2:Int)]) fa fb W0 L v5 v6 v8 v9 v10 v11 w') ?_ ?_ ?_ ?_
 ·exact ⟨_,_,_,_,_,_,rfl,TwoI.init (by funext i;unfold did;match i with|0=>rfl|1=>rfl|2=>rfl|3=>rfl|4=>rfl|5=>rfl|6=>rfl|7=>rfl|i+8=>rfl) (below_drewN br 1)⟩
 ·rintro L a' w' i hL hi hnd hdep ⟨v5,v6,v8,v9,v10,v11,rfl,hI⟩;have hL8:L.size=8:=hL;have HI:=hD hI;have d0:w'.cell? ⟨w.heap.size,0,none⟩=some (.int .u64 (h1:Int)):=(hI.below.cell (p:=⟨w.heap.size,0,none⟩) z0).trans c0;have d1:w'.cell? ⟨w.heap.size,1,none⟩=some (.int .u64 (l1:Int)):=(hI.below.cell (p:=⟨w.heap.size,1,none⟩) z0).trans c1;have d2:w'.cell? ⟨w.heap.size+1,0,none⟩=some (.int .u64 (h2:Int)):=(hI.below.cell (p:=⟨w.heap.size+1,0,none⟩) z1).trans c2;have d3:w'.cell? ⟨w.heap.size+1,1,none⟩=some (.int .u64 (l2:Int)):=(hI.below.cell (p:=⟨w.heap.size+1,1,none⟩) z1).trans c3;have hZ:Tryz.zeroCells146=rowA fun _=>false:=by kernel_rfl
  have HZ:=hD hZ;clear hZ hI
  match i,hi with
  |0,_=>
   clear hdep hnd;refine wpOp_step rfl (fun K' hK=>?_);go_simp;exact hK _ _ ⟨_,_,_,_,_,_,rfl,HI.o.s0 hL8⟩
  |1,_=>
   have q:=HI.o.h0 (hdep _ rfl ⟨0, .data⟩ sm kq);subst q;clear hdep hnd;refine wpOp_step rfl (fun K' hK=>?_);go_simp;refine (HA.o _).mono ?_;rintro e w1 ⟨rfl,hb1⟩;exact hK _ _ ⟨_,_,_,_,_,_,rfl,(HI.o.below' hb1).s1 hL8⟩
  |2,_=>
   clear hdep hnd;refine wpOp_step rfl (fun K' hK=>?_);go_simp;exact hK _ _ ⟨_,_,_,_,_,_,rfl,HI.o.s2 hL8⟩
  |3,_=>
   have q:=HI.o.h2 (hdep _ rfl ⟨2, .data⟩ sm kq);subst q;clear hdep hnd;refine wpOp_step rfl (fun K' hK=>?_);go_simp;refine (HB.o _).mono ?_;rintro e w1 ⟨rfl,hb1⟩;exact hK _ _ ⟨_,_,_,_,_,_,rfl,(HI.o.below' hb1).s3 hL8⟩
  |4,_=>
   have hnd':=hD hnd;clear hdep hnd;refine wpOp_step rfl (fun K' hK=>?_);go_simp;rw[HZ.o];exact hK _ _ ⟨_,_,_,_,_,_,rfl,HI.o.s4 hL8 hnd'.o⟩
  |5,_=>
   have hnd':=hD hnd;clear hdep hnd;refine wpOp_step rfl (fun K' hK=>?_);go_simp;rw[HZ.o];exact hK _ _ ⟨_,_,_,_,_,_,rfl,HI.o.s5 hL8 hnd'.o⟩
  |6,_=>
   have q4:=hdep _ rfl ⟨4, .data⟩ sm kq;have q:=HI.o.h1 (hdep _ rfl ⟨1, .data⟩ sm kq);subst q;obtain ⟨g,e1,-,e3⟩:=HI.o.h4 q4;subst e1;clear hdep hnd;refine wpOp_step rfl (fun K' hK=>?_);refine store_wanted rfl ?_;exact wp_store_row 146 (.tmp 5) (.tmp 9) rfl g (rowA fa) rfl rfl 146 _ e3 (by rw[rowA_size];exact infoRow) (by rw[rowA_size,rowA_size]) (rowA_one _) (hK _ _ ⟨_,_,_,_,_,_,rfl,HI.o.s6 hL8 q4 rfl⟩)
  |7,_=>
   have q5:=hdep _ rfl ⟨5, .data⟩ sm kq;have q:=HI.o.h3 (hdep _ rfl ⟨3, .data⟩ sm kq);subst q;obtain ⟨g,e1,-,e3⟩:=HI.o.h5 q5;subst e1;clear hdep hnd;refine wpOp_step rfl (fun K' hK=>?_);refine store_wanted rfl ?_;exact wp_store_row 146 (.tmp 6) (.tmp 11) rfl g (rowA fb) rfl rfl 146 _ e3 (by rw[rowA_size];exact infoRow) (by rw[rowA_size,rowA_size]) (rowA_one _) (hK _ _ ⟨_,_,_,_,_,_,rfl,HI.o.s7 hL8 q5 rfl⟩)
 ·intro i o ho e he
  match i,ho with
  |0,ho=>cases ho;simp at he
  |1,ho=>cases ho;simp at he;subst he;show (0:Nat)<1;omega
  |2,ho=>cases ho;simp at he
  |3,ho=>cases ho;simp at he;rcases he with rfl|rfl<;>(simp<;>omega)
  |4,ho=>cases ho;simp at he
  |5,ho=>cases ho;simp at he
  |6,ho=>cases ho;simp at he;rcases he with rfl|rfl|rfl|rfl|rfl|rfl|rfl|rfl|rfl<;>(simp<;>omega)
  |7,ho=>cases ho;simp at he;rcases he with rfl|rfl|rfl|rfl|rfl|rfl|rfl|rfl|rfl|rfl<;>(simp<;>omega)
 rintro L a' w' hall ⟨v5,v6,v8,v9,v10,v11,rfl,hI⟩;obtain ⟨rfl,rfl,rfl,rfl,gx,gy,hgn,rfl,rfl,hgx,hgy,hrx,hry,hbw⟩:=hI.all hall;have HRX:=hD hrx;have HRY:=hD hry;have HBW:=hD hbw;have HGN:=hD hgn;clear hI hall hrx hry hbw hgn HA HB c0 c1 c2 c3;have hwb:Bl w w':=HBW0.o.trans (HBW.o.mono HBW0.o.size);have HWB:=hD hwb;have HS0:Hd (SameFrom a b 128):=fun i hi=>by
  rw[BB_pow2] at ha hb;rw[Nat.testBit_lt_two_pow (Nat.lt_of_lt_of_le ha (Nat.pow_le_pow_right om hi)),Nat.testBit_lt_two_pow (Nat.lt_of_lt_of_le hb (Nat.pow_le_pow_right om hi))]
 clear HBW HBW0 z0 z1 HGN hwb;go_wp2_with fail;go_loop [7] (fun i=>∃m:Nat,m<=128/\i= .int .i64 ((m:Int)-1)/\Hd (SameFrom a b m)) (fun i=>(intOf i+1).toNat)
 case atStart=>exact ⟨128,Nat.le_refl _,by go_num,HS0⟩
 case round=>
  obtain ⟨m,hm,rfl,HK⟩:=hrel;cases m with
  |zero=>
   have HE:Hd (cmpN a b=0):=cmpN_eq (Nat.eq_of_testBit_eq fun i=>HK.o i (zl));go_wp2_with fail;go_ret;exact ⟨by rw[HE.o];rfl,HWB.o⟩
  |succ j=>
   have hj:j<128:=om
   have ej:(((j+1:Nat):Int)-1)=(j:Int):=om
   rw[ej];clear ej;have r1:w'.cell? ⟨gx,j,none⟩=some (.bool (fa j)):=by rw[cell_of_row w' gx j _ _ _ HRX.o];exact rowA_at _ j hj
   have r2:w'.cell? ⟨gy,j,none⟩=some (.bool (fb j)):=by rw[cell_of_row w' gy j _ _ _ HRY.o];exact rowA_at _ j hj
   have HBA:Hd (a.testBit j=fa j):=by show _=_;rw[HFA.o]
   have HBB:Hd (b.testBit j=fb j):=by show _=_;rw[HFB.o]
   have HLT:Hd (fa j=false->fb j=true->cmpN a b= -1):=fun h1 h2=>cmpN_lt (lt_of_testBit j (by rw[HBA.o,h1]) (by rw[HBB.o,h2]) (fun i hi=>HK.o i hi))
   have HGT:Hd (fa j=true->fb j=false->cmpN a b=1):=fun h1 h2=>cmpN_gt (lt_of_testBit j (by rw[HBB.o,h2]) (by rw[HBA.o,h1]) (fun i hi=>(HK.o i hi).symm))
   have HEQ:Hd (fa j=fb j->SameFrom a b j):=fun h i hi=>by
    rcases Nat.lt_or_ge j i with h1|h1
    ·exact HK.o i h1
    ·obtain rfl:i=j:=om
     rw[HBA.o,HBB.o,h]
   cases hf1:fa j<;>cases hf2:fb j
   ·rw[hf1] at r1 HEQ;rw[hf2] at r2 HEQ;clear hf1 hf2;go_wp2_with fail;go_round
    case rel=>exact ⟨j,om,rfl,hD (HEQ.o rfl)⟩
    case measure=>simp[intOf]
   ·have HE:=hD (HLT.o hf1 hf2);rw[hf1] at r1;rw[hf2] at r2;clear hf1 hf2;go_wp2_with fail;go_ret;exact ⟨by rw[HE.o];rfl,HWB.o⟩
   ·have HE:=hD (HGT.o hf1 hf2);rw[hf1] at r1;rw[hf2] at r2;clear hf1 hf2;go_wp2_with fail;go_ret;exact ⟨by rw[HE.o];rfl,HWB.o⟩
   ·rw[hf1] at r1 HEQ;rw[hf2] at r2 HEQ;clear hf1 hf2;go_wp2_with fail;go_round
    case rel=>exact ⟨j,om,rfl,hD (HEQ.o rfl)⟩
    case measure=>simp[intOf]
end Go.Proofs.YtikilcbpogfgkaaGreat
