/-
  Lemmas, joined: OwnP, In2, RefShl, RefCat, RefAdd, RefNot, NumSh, RefOf, RefSubA, RefOr, RefXor, TwoA.
-/
import Derived.Test.YtjfhfaodbjecdaaGreatJC22
import Derived.Maps.AppendAt
import Derived.Test.YtjfhfaodbjecdaaGreatJC02
import Derived.BigQuiet
import Derived.Deep.QuietTactic
import Derived.Outline
import Derived.Test.YtjfhfaodbjecdaaGreatJC01
import Derived.Deep.RegionHeld3
import Derived.Test.YtjfhfaodbjecdaaGreatJC16
import Derived.Test.YtjfhfaodbjecdaaGreatJC21
set_option maxHeartbeats 400000
set_option maxRecDepth 100000
namespace Go.Proofs.YtjfhfaodbjecdaaGreat
open Go.RowKit
structure GrwG (W W':World) (v v':Value):Prop where
 grown:W.grownBy W' v.ownBlock
 lies:v'.ownBlock=v.ownBlock\/v'.ownBlock=some W.heap.size
theorem append_at {S E:TypeId} {z:Value} {size bytes:Nat} (H:ElemOk S E z size bytes) {ops:Array Oper} {rest:List Oper} {o:Oper} {a:Act} {Q:Exit->Act->World->Prop} {w:World} (hgd:o.guard=none) (s x:Operand)
 (ho:o.op= .call { callee:= .builtin .append,args:=#[s,x],argTypes:=#[S,S] })
 (base:Nat) (v:Value) (n:Nat) (xs:List Value) (hs:a.eval s=v) (hown:w.ownsRow base E size v n xs)
 (vx:Value) (m:Nat) (news:List Value) (hx:a.eval x=vx) (hsrc:SrcAt w size vx m news) (hl:(n+m)*bytes<=140737488355328) (hm:n+m<=maxLen) (hbase:base<=w.heap.size)
 (h:∀v' w',w'.ownsRow base E size v' (n+m) (xs++news)->GrwG w w' v v'->wpList Tryz.prog ops Q rest (a.put o.dst v') w'):wpList Tryz.prog ops Q (o::rest) a w:=by
 obtain ⟨i0,hi,hz0,hz1,hz2⟩:=info_parts H.inf;obtain ⟨h1,h2,⟨rfl,rfl⟩|⟨ad,c,rfl,h3⟩⟩:=hsrc
 ·obtain rfl:news=[]:=List.eq_nil_of_length_eq_zero (by omega);refine wpList_append_own_none hgd s x _ ho base E i0 size H.und hi v n xs hs hown hx ?_;exact h v w (by simpa using hown) ⟨grownBy_same _ _, .inl rfl⟩
 ·exact wpList_append_own_at _ hgd s x _ ho base E i0 z size bytes H.und hi hz0 hz1 hz2 H.zs H.sz v n xs hs hown ad m c news hx h1 h3 h2 hm hl hbase fun v' w' q1 q2 _ q3=>h v' w' q1 ⟨q2,q3⟩
theorem flatB:Flat 1 BAt (fun b=>[Value.bool b]) where
 len:=fun _=>rfl
 one:=fun x u hu=>by simp at hu;subst hu;rfl
 put:=fun w b o x h=>h 0 _ rfl
 get:=fun w b o x h i v hi=>by
  match i,hi with
  |0,hi=>cases hi;exact h
theorem elemB:ElemOk 36 4 (.bool false) 1 1:=⟨Tryz.underlying36,by kernel_rfl,rfl,by decide⟩
theorem elemNs:ElemOk 37 38 (.slice none 0 0) 1 24:=⟨Tryz.underlying37,by kernel_rfl,rfl,by decide⟩
theorem flat_bools:∀l:List Bool,l.flatMap (fun n=>[Value.bool n])=l.map Value.bool
 |[]=>rfl
 |a::l=>by rw[List.flatMap_cons,flat_bools l];rfl
theorem flat_u8:∀l:List Int,l.flatMap (fun n=>[Value.int .u8 n])=l.map (Value.int .u8)
 |[]=>rfl
 |a::l=>by rw[List.flatMap_cons,flat_u8 l];rfl
theorem NRow.nums {w:World} {v:Value} {l:List Nat} (h:NRow w v l):Nums l:=fun n hn=>by
 obtain ⟨pa,cap,rfl,-⟩:=h.shape;obtain ⟨j,hj⟩:=List.getElem?_of_mem hn;obtain ⟨b,o,-,-,h1,-,-⟩:=h.get hj;exact h1
def Bx (w:World) (g:Nat) (c:List Value):Prop:=w.heap[g]?=some (.cells c.toArray 40 (0,0))
section
variable {w w':World} {g:Nat} {c:List Value}
theorem Bx.cell (h:Bx w g c) {i:Nat} {u:Value} (hi:c[i]?=some u):w.cell? ⟨g,i,none⟩=some u:=by
 unfold Bx at h;simp only[World.cell?,h];simpa using hi
theorem Bx.free (h:Bx w g c) (i:Nat):w.frozen? ⟨g,i,none⟩=false:=by unfold Bx at h;simp[World.frozen?,h]
theorem Bx.lt (h:Bx w g c):g<w.heap.size:=(Array.getElem?_eq_some_iff.1 h).1
theorem Bx.below (h:Bx w g c) (hb:Below w.heap.size w w'):Bx w' g c:=(hb.block g h.lt).trans h
theorem Bx.put (h:Bx w g c) (i:Nat) (v:Value):Bx (w.setCell ⟨g,i,none⟩ v) g (c.set i v):=by
 unfold Bx at*;rw[heap_setCell_same w g i _ _ v h];simp
theorem Bx.other (h:Bx w g c) {k i:Nat} (hk:g≠k) (v:Value):Bx (w.setCell ⟨k,i,none⟩ v) g c:=(heap_setCell_other w _ g v hk).trans h
end
structure OwnRows (base s1 s2 t0:Nat) (w:World) (x:Pkt) (n:Nat) (r v m f:Value) (fs:List Value):Prop where
 hr:w.ownsRow base 5 1 r x.rest.length (x.rest.map (Value.int .u8))
 hrl:∀k,r.ownBlock=some k->k<s1
 hv:w.ownsRow s1 4 1 v x.valid.length (x.valid.map Value.bool)
 hvl:∀k,v.ownBlock=some k->k<s2
 hm:NOwn s2 w m x.metas
 hml:∀k,m.ownBlock=some k->k<t0
 hf:w.ownsRow t0 38 1 f n fs
 hfs:∀(i:Nat) (u:Value) (l:List Nat),fs[i]?=some u->x.fields[i]?=some l->NOwn t0 w u l
 fd:∀u∈fs,∀k,u.ownBlock=some k->f.ownBlock≠some k
 fp:fs.Pairwise fun a b=>∀k,a.ownBlock=some k->b.ownBlock≠some k
 hn:n<=x.fields.length
 l1:base<=s1
 l2:s1<=s2
 l3:s2<=t0
theorem own_base {w:World} {b b' E size n:Nat} {v:Value} {xs:List Value} (h:w.ownsRow b E size v n xs) (hb:b'<=b):w.ownsRow b' E size v n xs:=by
 obtain ⟨h1,h2⟩:=h;refine ⟨h1,?_⟩;rcases h2 with h2|⟨g,cap,cur,h3,h4,h5⟩
 ·exact .inl h2
 ·exact .inr ⟨g,cap,cur,h3,by omega,h5⟩
section
variable {base s1 s2 t0 n:Nat} {w w':World} {x:Pkt} {r v f m:Value} {fs:List Value}
theorem OwnRows.flen (h:OwnRows base s1 s2 t0 w x n r v m f fs):fs.length=n:=by have:=h.hf.1;omega
theorem OwnRows.fblk (h:OwnRows base s1 s2 t0 w x n r v m f fs):∀z∈fs,∀k,z.ownBlock=some k->t0<=k/\k<w.heap.size:=by
 intro z hz k hk;obtain ⟨i,hi⟩:=List.getElem?_of_mem hz;have hl:=(List.getElem?_eq_some_iff.1 hi).1;exact own_size (h.hfs i z _ hi (List.getElem?_eq_getElem (by have:=h.flen;have:=h.hn;omega))).1 hk
theorem OwnRows.far (h:OwnRows base s1 s2 t0 w x n r v m f fs) (hk:∀k,base<=k->k<w.heap.size->w'.heap[k]?=w.heap[k]?):OwnRows base s1 s2 t0 w' x n r v m f fs:=by
 have:=h.l1;have:=h.l2;have:=h.l3;refine ⟨own_far h.hr fun k e=>?_,h.hrl,own_far h.hv fun k e=>?_,h.hvl,h.hm.far fun k e=>?_,h.hml,own_far h.hf fun k e=>?_,fun i u l h1 h2=>(h.hfs i u l h1 h2).far fun k e=>?_,h.fd,h.fp,h.hn,h.l1,h.l2,h.l3⟩
 ·have:=own_size h.hr e;exact hk k (by omega) this.2
 ·have:=own_size h.hv e;exact hk k (by omega) this.2
 ·have:=own_size h.hm.1 e;exact hk k (by omega) this.2
 ·have:=own_size h.hf e;exact hk k (by omega) this.2
 ·have:=own_size (h.hfs i u l h1 h2).1 e;exact hk k (by omega) this.2
theorem OwnRows.store (h:OwnRows base s1 s2 t0 w x n r v m f fs) {g i:Nat} {z:Value} (hg:g<base):OwnRows base s1 s2 t0 (w.setCell ⟨g,i,none⟩ z) x n r v m f fs:=h.far fun k hk _=>heap_setCell_other w _ k z (by show k≠g;omega)
theorem OwnRows.snoc {W2 W3 W4:World} {u f':Value} {l:List Nat} {o:Obj} (h:OwnRows base s1 s2 t0 w x n r v m f fs) (hl:x.fields[n]?=some l) (hb:Below w.heap.size w W2) (hu:NOwn w.heap.size W2 u l) (h3:W3=W2.alloc o) (ht:t0<=w.heap.size)
 (hf':W4.ownsRow t0 38 1 f' (n+1) (fs++[u])) (hg:GrwG W3 W4 f f'):OwnRows base s1 s2 t0 W4 x (n+1) r v m f' (fs++[u]):=by
 have q1:=h.l1;have q2:=h.l2;have q3:=h.l3;have hs3:W3.heap.size=W2.heap.size+1:=by rw[h3];simp
 have hb3:Below w.heap.size w W3:=by rw[h3];exact hb.alloc hb.size _
 have fblk:∀k,f.ownBlock=some k->t0<=k/\k<w.heap.size:=fun k hk=>own_size h.hf hk
 have hu3:NOwn w.heap.size W3 u l:=by rw[h3];exact ⟨World.ownsRow.alloc hu.1 _,hu.2⟩
 have ublk:∀k,u.ownBlock=some k->w.heap.size<=k/\k<W2.heap.size:=fun k hk=>own_size hu.1 hk
 have kp:∀{b E sz n:Nat} {z:Value} {xs:List Value},w.ownsRow b E sz z n xs->(∀ k,z.ownBlock=some k->f.ownBlock≠some k)->W4.ownsRow b E sz z n xs:=fun {b E sz n z xs} hz hne=>by
  refine World.ownsRow.kept (own_far hz fun k e=>hb3.block k (own_size hz e).2) hg.grown ?_;cases e:z.ownBlock with
  |none=>exact .inl rfl
  |some k=>exact .inr fun e2=>hne k e e2.symm
 have uk:NOwn w.heap.size W4 u l:=⟨World.ownsRow.kept hu3.1 hg.grown (by
  cases e:u.ownBlock with
  |none=>exact .inl rfl
  |some k=>refine .inr fun e2=>?_;have:=ublk k e;have:=fblk k e2.symm;omega),hu.2⟩
 refine ⟨kp h.hr fun k e e2=>?_,h.hrl,kp h.hv fun k e e2=>?_,h.hvl,⟨kp h.hm.1 fun k e e2=>?_,h.hm.2⟩,h.hml,hf',fun i z y h1 h2=>?_,fun z hz k hk hk2=>?_,?_,?_,q1,q2,q3⟩
 ·have:=h.hrl k e;have:=fblk k e2;omega
 ·have:=h.hvl k e;have:=fblk k e2;omega
 ·have:=h.hml k e;have:=fblk k e2;omega
 ·by_cases hi:i<fs.length
  ·rw[List.getElem?_append_left hi] at h1;have hz:=h.hfs i z y h1 h2;exact ⟨kp hz.1 (h.fd z (List.mem_of_getElem? h1)),hz.2⟩
  ·rw[List.getElem?_append_right (by omega)] at h1;have hi2:i=n:=by
    have:=(List.getElem?_eq_some_iff.1 h1).1;have:=h.flen;simp at *;omega
   subst hi2;rw[h.flen,Nat.sub_self] at h1;simp at h1;subst h1;rw[hl] at h2;cases h2;exact ⟨own_base uk.1 ht,uk.2⟩
 ·rcases List.mem_append.1 hz with hz|hz
  ·have a1:=h.fblk z hz k hk;rcases hg.lies with e|e
   ·rw[e] at hk2;exact h.fd z hz k hk hk2
   ·rw[e] at hk2;cases hk2;have:=hb3.size;omega
  ·rw[List.mem_singleton] at hz;subst hz;have a1:=ublk k hk;rcases hg.lies with e|e
   ·rw[e] at hk2;have:=fblk k hk2;omega
   ·rw[e] at hk2;cases hk2;omega
 ·rw[List.pairwise_append];refine ⟨h.fp,List.pairwise_singleton _ _,fun a ha b hb k e1 e2=>?_⟩;rw[List.mem_singleton] at hb;subst hb;have:=h.fblk a ha k e1;have:=ublk k e2;omega
 ·have:=(List.getElem?_eq_some_iff.1 hl).1;omega
theorem OwnRows.nodup (h:OwnRows base s1 s2 t0 w x n r v m f fs):(([r,v,f,m]++fs).filterMap Value.ownBlock).Nodup:=by
 have q1:=h.l1;have q2:=h.l2;have q3:=h.l3;rw[List.Nodup,List.pairwise_filterMap];have vb:∀k,v.ownBlock=some k->s1<=k:=fun k hk=>(own_size h.hv hk).1
 have mb:∀k,m.ownBlock=some k->s2<=k:=fun k hk=>(own_size h.hm.1 hk).1
 have fb:∀k,f.ownBlock=some k->t0<=k:=fun k hk=>(own_size h.hf hk).1
 have ub:∀u∈fs,∀k,u.ownBlock=some k->t0<=k:=fun u hu k hk=>(h.fblk u hu k hk).1
 have rl:=h.hrl;have vl:=h.hvl;have ml:=h.hml;simp only[List.cons_append,List.nil_append,List.pairwise_cons,List.mem_cons];refine ⟨fun b hb k hk j hj=>?_,fun b hb k hk j hj=>?_,fun b hb k hk j hj=>?_,fun b hb k hk j hj=>?_,h.fp.imp fun {a b} hab k hk j hj e=>hab k hk (by rw[e];exact hj)⟩
 ·have:=rl k hk;rcases hb with rfl|rfl|rfl|hb
  ·have:=vb j hj;omega
  ·have:=fb j hj;omega
  ·have:=mb j hj;omega
  ·have:=ub b hb j hj;omega
 ·have:=vl k hk;rcases hb with rfl|rfl|hb
  ·have:=fb j hj;omega
  ·have:=mb j hj;omega
  ·have:=ub b hb j hj;omega
 ·have:=fb k hk;rcases hb with rfl|hb
  ·have:=ml j hj;omega
  ·exact fun e=>h.fd b hb j hj (by rw[<- e];exact hk)
 ·have:=ml k hk;have:=ub b hb j hj;omega
end
structure PktO (base:Nat) (w:World) (x:Pkt) (r v f m:Value) (fs:List Value):Prop where
 hr:w.ownsRow base 5 1 r x.rest.length (x.rest.map (Value.int .u8))
 hv:w.ownsRow base 4 1 v x.valid.length (x.valid.map Value.bool)
 hf:w.ownsRow base 38 1 f x.fields.length fs
 hfs:∀(i:Nat) (u:Value) (l:List Nat),fs[i]?=some u->x.fields[i]?=some l->NOwn base w u l
 hm:NOwn base w m x.metas
 nd:(([r,v,f,m]++fs).filterMap Value.ownBlock).Nodup
theorem OwnRows.whole {base s1 s2 t0:Nat} {w:World} {x:Pkt} {r v f m:Value} {fs:List Value} (h:OwnRows base s1 s2 t0 w x x.fields.length r v m f fs):PktO base w x r v f m fs:=by
 have q1:=h.l1;have q2:=h.l2;have q3:=h.l3;exact ⟨h.hr,own_base h.hv q1,own_base h.hf (by omega),fun i u l h1 h2=>⟨own_base (h.hfs i u l h1 h2).1 (by omega),(h.hfs i u l h1 h2).2⟩,⟨own_base h.hm.1 (by omega),h.hm.2⟩,h.nodup⟩
section
variable {base:Nat} {w w':World} {x:Pkt} {r v f m:Value} {fs:List Value}
theorem PktO.flen (h:PktO base w x r v f m fs):fs.length=x.fields.length:=by have:=h.hf.1;omega
theorem PktO.blk (h:PktO base w x r v f m fs):∀z∈[r,v,f,m]++fs,∀k,z.ownBlock=some k->base<=k/\k<w.heap.size:=by
 intro z hz k hk;rcases List.mem_append.1 hz with hz|hz
 ·simp only[List.mem_cons,List.not_mem_nil,or_false] at hz;rcases hz with rfl|rfl|rfl|rfl
  ·exact own_size h.hr hk
  ·exact own_size h.hv hk
  ·exact own_size h.hf hk
  ·exact own_size h.hm.1 hk
 ·obtain ⟨i,hi⟩:=List.getElem?_of_mem hz;have hl:=(List.getElem?_eq_some_iff.1 hi).1;exact own_size (h.hfs i z _ hi (List.getElem?_eq_getElem (by have:=h.flen;omega))).1 hk
theorem PktO.far (h:PktO base w x r v f m fs) (hk:∀k,base<=k->k<w.heap.size->w'.heap[k]?=w.heap[k]?):PktO base w' x r v f m fs:=by
 refine ⟨own_far h.hr fun k e=>?_,own_far h.hv fun k e=>?_,own_far h.hf fun k e=>?_,fun i u l h1 h2=>(h.hfs i u l h1 h2).far fun k e=>?_,h.hm.far fun k e=>?_,h.nd⟩
 ·have:=own_size h.hr e;exact hk k this.1 this.2
 ·have:=own_size h.hv e;exact hk k this.1 this.2
 ·have:=own_size h.hf e;exact hk k this.1 this.2
 ·have:=own_size (h.hfs i u l h1 h2).1 e;exact hk k this.1 this.2
 ·have:=own_size h.hm.1 e;exact hk k this.1 this.2
theorem PktO.lower (h:PktO base w x r v f m fs) {b:Nat} (hb:b<=base):PktO b w x r v f m fs:=
 ⟨own_base h.hr hb,own_base h.hv hb,own_base h.hf hb,fun i u l h1 h2=>⟨own_base (h.hfs i u l h1 h2).1 hb,(h.hfs i u l h1 h2).2⟩,⟨own_base h.hm.1 hb,h.hm.2⟩,h.nd⟩
theorem PktO.boxed (h:PktO base w x r v f m fs) {X:Nat} (hX:w.heap[X]?=some (.cells (pktCells x r v f m).toArray 40 (0,0))) (hlo:base<=X) (hne:∀z∈[r,v,f,m]++fs,z.ownBlock≠some X):PktB base w X x r v f m fs:=
 ⟨hX,h.hr,h.hv,h.hf,h.hfs,h.hm,hlo,List.nodup_cons.2 ⟨fun hc=>by
  obtain ⟨z,hz,e⟩:=List.mem_filterMap.1 hc;exact hne z hz e,h.nd⟩⟩
theorem PktO.ks (h:PktO base w x r v f m fs):∃k:KS,r= .slice k.rp k.rn k.rc/\v= .slice k.vp k.vn k.vc/\f= .slice k.fp k.fn k.fc/\m= .slice k.mp k.mn k.mc/\KOk w k x:=by
 have h1:URow w r x.rest:=RowAt.of_flat flatU rfl (by rw[flat_u8];exact h.hr);have h2:BRow w v x.valid:=RowAt.of_flat flatB rfl (by rw[flat_bools];exact h.hv);have h4:NRow w m x.metas:=h.hm.row;have h3:NsRow w f x.fields:=by
  refine rowAt_of_owns (ls:=fs.map fun u=>[u]) rfl (by rw[List.length_map];exact h.flen) (by rw[show (fs.map fun u=>[u]).flatten=fs from by rw[<- List.flatMap_def];simp];exact h.hf) (fun c hc=>?_) fun j l c hl hc b o hb hcs=>?_
  ·obtain ⟨u,-,rfl⟩:=List.mem_map.1 hc;rfl
  ·rw[List.getElem?_map] at hc;cases hu:fs[j]? with
   |none=>rw[hu] at hc;cases hc
   |some u=>
    rw[hu] at hc;cases hc;have hr:=(h.hfs j u l hu hl).row;obtain ⟨pa,cap,rfl,-⟩:=hr.shape;exact ⟨pa,_,cap,hcs 0 _ rfl,hr⟩
 obtain ⟨rp,rc,rfl,-⟩:=h1.shape;obtain ⟨vp,vc,rfl,-⟩:=h2.shape;obtain ⟨fp,fc,rfl,-⟩:=h3.shape;obtain ⟨mp,mc,rfl,-⟩:=h4.shape;exact ⟨⟨rp,_,rc,vp,_,vc,fp,_,fc,mp,_,mc⟩,rfl,rfl,rfl,rfl,h1,h2,h3,h4⟩
end
structure PktSm (x:Pkt):Prop where
 r:x.rest.length<=1000000
 v:x.valid.length<=1000000
 f:x.fields.length<=1000000
 fl:∀l∈x.fields,l.length<=1000000
 m:x.metas.length<=1000000
theorem Bx.c3 {w:World} {g:Nat} {v0 v1 v2:Value} {r:List Value} (h:Bx w g (v0::v1::v2::r)):w.cell? ⟨g,0,none⟩=some v0/\w.cell? ⟨g,1,none⟩=some v1/\w.cell? ⟨g,2,none⟩=some v2:=⟨Bx.cell h rfl,Bx.cell h rfl,Bx.cell h rfl⟩
theorem Bx.c4 {w:World} {g:Nat} {v0 v1 v2 v3:Value} {r:List Value} (h:Bx w g (v0::v1::v2::v3::r)):w.cell? ⟨g,0,none⟩=some v0/\w.cell? ⟨g,1,none⟩=some v1/\w.cell? ⟨g,2,none⟩=some v2/\w.cell? ⟨g,3,none⟩=some v3:=⟨Bx.cell h rfl,Bx.cell h rfl,Bx.cell h rfl,Bx.cell h rfl⟩
theorem Bx.c5 {w:World} {g:Nat} {v0 v1 v2 v3 v4:Value} {r:List Value} (h:Bx w g (v0::v1::v2::v3::v4::r)):w.cell? ⟨g,0,none⟩=some v0/\w.cell? ⟨g,1,none⟩=some v1/\w.cell? ⟨g,2,none⟩=some v2/\w.cell? ⟨g,3,none⟩=some v3/\w.cell? ⟨g,4,none⟩=some v4:=⟨Bx.cell h rfl,Bx.cell h rfl,Bx.cell h rfl,Bx.cell h rfl,Bx.cell h rfl⟩
theorem Bx.c6 {w:World} {g:Nat} {v0 v1 v2 v3 v4 v5:Value} {r:List Value} (h:Bx w g (v0::v1::v2::v3::v4::v5::r)):w.cell? ⟨g,0,none⟩=some v0/\w.cell? ⟨g,1,none⟩=some v1/\w.cell? ⟨g,2,none⟩=some v2/\w.cell? ⟨g,3,none⟩=some v3/\w.cell? ⟨g,4,none⟩=some v4/\w.cell? ⟨g,5,none⟩=some v5:=⟨Bx.cell h rfl,Bx.cell h rfl,Bx.cell h rfl,Bx.cell h rfl,Bx.cell h rfl,Bx.cell h rfl⟩
theorem Bx.c7 {w:World} {g:Nat} {v0 v1 v2 v3 v4 v5 v6:Value} {r:List Value} (h:Bx w g (v0::v1::v2::v3::v4::v5::v6::r)):w.cell? ⟨g,0,none⟩=some v0/\w.cell? ⟨g,1,none⟩=some v1/\w.cell? ⟨g,2,none⟩=some v2/\w.cell? ⟨g,3,none⟩=some v3/\w.cell? ⟨g,4,none⟩=some v4/\w.cell? ⟨g,5,none⟩=some v5/\w.cell? ⟨g,6,none⟩=some v6:=⟨Bx.cell h rfl,Bx.cell h rfl,Bx.cell h rfl,Bx.cell h rfl,Bx.cell h rfl,Bx.cell h rfl,Bx.cell h rfl⟩
theorem Bx.c8 {w:World} {g:Nat} {v0 v1 v2 v3 v4 v5 v6 v7:Value} {r:List Value} (h:Bx w g (v0::v1::v2::v3::v4::v5::v6::v7::r)):w.cell? ⟨g,0,none⟩=some v0/\w.cell? ⟨g,1,none⟩=some v1/\w.cell? ⟨g,2,none⟩=some v2/\w.cell? ⟨g,3,none⟩=some v3/\w.cell? ⟨g,4,none⟩=some v4/\w.cell? ⟨g,5,none⟩=some v5/\w.cell? ⟨g,6,none⟩=some v6/\w.cell? ⟨g,7,none⟩=some v7:=⟨Bx.cell h rfl,Bx.cell h rfl,Bx.cell h rfl,Bx.cell h rfl,Bx.cell h rfl,Bx.cell h rfl,Bx.cell h rfl,Bx.cell h rfl⟩
theorem Bx.c9 {w:World} {g:Nat} {v0 v1 v2 v3 v4 v5 v6 v7 v8:Value} {r:List Value} (h:Bx w g (v0::v1::v2::v3::v4::v5::v6::v7::v8::r)):w.cell? ⟨g,0,none⟩=some v0/\w.cell? ⟨g,1,none⟩=some v1/\w.cell? ⟨g,2,none⟩=some v2/\w.cell? ⟨g,3,none⟩=some v3/\w.cell? ⟨g,4,none⟩=some v4/\w.cell? ⟨g,5,none⟩=some v5/\w.cell? ⟨g,6,none⟩=some v6/\w.cell? ⟨g,7,none⟩=some v7/\w.cell? ⟨g,8,none⟩=some v8:=⟨Bx.cell h rfl,Bx.cell h rfl,Bx.cell h rfl,Bx.cell h rfl,Bx.cell h rfl,Bx.cell h rfl,Bx.cell h rfl,Bx.cell h rfl,Bx.cell h rfl⟩
open Go.RowKit
theorem numOf_val (n:Nat) (hn:n<B):Value.agg #[.int .u64 0, .int .u64 (n:Int)]=numV n:=by
 have he:=numV_mk 0 n hn;rw[Nat.zero_mul,Nat.zero_add] at he;exact he
theorem numOf_any (n:Nat) (hn:n<B) (w:World):
 Calls Tryz.prog 91 #[.int .u64 (n:Int)] w (RetNum w n):=by
 have H:=hD (numOf_val n hn);clear hn;go_enter Tryz.func91,Tryz.ntmps91;go_wp2;exact bodyPost_ret (v:= .agg #[.int .u64 0, .int .u64 (n:Int)]) (by simp[results,Tryz.results91,go_sem]) rfl ⟨by rw[H.out],(by repeat (first|exact Below.refl _ _|assumption|refine Below.drew ?_|refine blA ?_|refine blS ?_|refine blT ?_ (by assumption)))⟩
theorem shr_val (n s:Nat) (hn:n<B*B):(s<64->∀h l:Nat,h=n/B->l=n%B->Value.agg #[.int .u64 ((h:Int)/2 ^ s), .int .u64 (bits .or .u64 ((l:Int)/2 ^ s) (IntKind.u64.wrap ((h:Int)*2 ^ (64-s))))]=numV (n/2 ^ s))/\
 (64<=s->∀h l:Nat,h=n/B->l=n%B->Value.agg #[.int .u64 0, .int .u64 ((h:Int)/2 ^ (s-64))]=numV (n/2 ^ s)):=by
 refine ⟨fun hs h l e1 e2=>?_,fun hs h l e1 e2=>?_⟩
 ·subst e1 e2;rw[shr_small _ _ _ (half_lt hn) (low_lt _) hs,parts_eq]
 ·subst e1 e2;rw[shr_great _ (n%B) _ (half_lt hn) (low_lt _) hs,parts_eq]
theorem numShr_any (n:Nat) (k:Int) (w:World) (hn:n<B*B):
 Calls Tryz.prog 102 #[numV n, .int .i64 k] w (RetNum w (n/2 ^ sh k)):=by
 have HV:=hD (shr_val n (sh k) hn);obtain ⟨y,z,he,hh,hl⟩:=numV_parts n;have HH:Hid (y=n/B/\z=n%B):=⟨hh,hl⟩;rw[he];clear he hh hl hn;rcases Int.lt_or_le 0 k with h0|h0
 ·obtain ⟨s,rfl⟩:=Int.eq_ofNat_of_zero_le (Int.le_of_lt h0);have h0':0<s:=by omega
  clear h0;rcases Nat.lt_or_ge s 64 with h1|h1
  ·have HS:Hid (sh (s:Int)=s):=by show _=_;unfold sh;omega
   go_enter Tryz.func102,Tryz.ntmps102;go_wp2;exact bodyPost_ret (v:= .agg #[.int .u64 ((y:Int)/2 ^ s), .int .u64 (bits .or .u64 ((z:Int)/2 ^ s) (IntKind.u64.wrap ((y:Int)*2 ^ (64-s))))]) (by simp[results,Tryz.results102,go_sem]) rfl ⟨by rw[HS.out] at HV⊢;rw[HV.out.1 h1 y z HH.out.1 HH.out.2],(by repeat (first|exact Below.refl _ _|assumption|refine Below.drew ?_|refine blA ?_|refine blS ?_|refine blT ?_ (by assumption)))⟩
  ·rcases Nat.lt_or_ge s 129 with h2|h2
   ·have HS:Hid (sh (s:Int)=s):=by show _=_;unfold sh;omega
    by_cases h3:s=128
    ·subst h3;go_enter Tryz.func102,Tryz.ntmps102;go_wp2;exact bodyPost_ret (v:= .agg #[.int .u64 0, .int .u64 ((y:Int)/18446744073709551616)]) (by simp[results,Tryz.results102,go_sem]) rfl ⟨by rw[HS.out] at HV⊢;rw[<- HV.out.2 h1 y z HH.out.1 HH.out.2];simp,(by repeat (first|exact Below.refl _ _|assumption|refine Below.drew ?_|refine blA ?_|refine blS ?_|refine blT ?_ (by assumption)))⟩
    ·have h4:s<128:=by omega
     clear h3 h2;go_enter Tryz.func102,Tryz.ntmps102;go_wp2;exact bodyPost_ret (v:= .agg #[.int .u64 0, .int .u64 ((y:Int)/2 ^ (s-64))]) (by simp[results,Tryz.results102,go_sem]) rfl ⟨by rw[HS.out] at HV⊢;rw[HV.out.2 h1 y z HH.out.1 HH.out.2],(by repeat (first|exact Below.refl _ _|assumption|refine Below.drew ?_|refine blA ?_|refine blS ?_|refine blT ?_ (by assumption)))⟩
   ·have HS:Hid (sh (s:Int)=128):=by show _=_;unfold sh;omega
    go_enter Tryz.func102,Tryz.ntmps102;go_wp2;exact bodyPost_ret (v:= .agg #[.int .u64 0, .int .u64 ((y:Int)/18446744073709551616)]) (by simp[results,Tryz.results102,go_sem]) rfl ⟨by rw[HS.out] at HV⊢;rw[<- HV.out.2 (by omega) y z HH.out.1 HH.out.2];simp,(by repeat (first|exact Below.refl _ _|assumption|refine Below.drew ?_|refine blA ?_|refine blS ?_|refine blT ?_ (by assumption)))⟩
 ·have HS:Hid (sh k=0):=by show _=_;unfold sh;omega
  go_enter Tryz.func102,Tryz.ntmps102;go_wp2
  all_goals exact bodyPost_ret (v:= .agg #[.int .u64 (y:Int), .int .u64 (bits .or .u64 (z:Int) (IntKind.u64.wrap ((y:Int)*18446744073709551616)))]) (by simp[results,Tryz.results102,go_sem]) rfl ⟨by rw[HS.out] at HV⊢;rw[<- HV.out.1 (by omega) y z HH.out.1 HH.out.2];simp,(by repeat (first|exact Below.refl _ _|assumption|refine Below.drew ?_|refine blA ?_|refine blS ?_|refine blT ?_ (by assumption)))⟩
theorem ones_val:Value.agg #[.int .u64 18446744073709551615, .int .u64 18446744073709551615]=numV (B*B-1):=by kernel_rfl
theorem BB_pow:B*B=2 ^ 128:=by rw[B_pow, <-Nat.pow_add]
theorem ones_div (t:Nat) (h:t<=128):(B*B-1)/2 ^ (128-t)=2 ^ t-1:=by
 have h1:B*B=2 ^ t*2 ^ (128-t):=by rw[BB_pow, <-Nat.pow_add];congr 1;omega
 have h2:0<2 ^ (128-t):=Nat.two_pow_pos _;have h3:0<2 ^ t:=Nat.two_pow_pos _;apply Nat.div_eq_of_lt_le
 ·rw[Nat.sub_mul,h1];omega
 ·rw[h1,Nat.sub_add_cancel h3];have:0<2 ^ t*2 ^ (128-t):=Nat.mul_pos h3 h2;omega
theorem mask_lt (w:Int):2 ^ sh w-1<B*B:=by
 have h1:2 ^ sh w<=2 ^ 128:=Nat.pow_le_pow_right (by omega) (sh_le w);have h2:0<2 ^ sh w:=Nat.two_pow_pos _;rw[BB_pow];omega
theorem numMask_any (k:Int) (w:World):Calls Tryz.prog 118 #[.int .i64 k] w (RetNum w (2 ^ sh k-1)):=by
 by_cases h0:k<1
 ·have HS:Hid (sh k=0):=by show _=_;unfold sh;omega
  go_enter Tryz.func118,Tryz.ntmps118;go_wp2_with fail;exact bodyPost_ret (v:= .agg #[.int .u64 0, .int .u64 0]) (by simp[results,Tryz.results118,go_sem]) rfl ⟨by rw[HS.out];rfl,(by repeat (first|exact Below.refl _ _|assumption|refine Below.drew ?_|refine blA ?_|refine blS ?_|refine blT ?_ (by assumption)))⟩
 ·have HS:∀j:Int,(128<k->j=0)->(k<=128->j=128-k)->Hid ((B*B-1)/2 ^ sh j=2 ^ sh k-1):=by
   intro j h1 h2;show _=_;rw[<- ones_div _ (sh_le k)];have:sh j=128-sh k:=by unfold sh;omega
   rw[this]
  have HL:Hid (B*B-1<B*B):=by show _<_;unfold B;omega
  have HO:=hD ones_val;go_enter Tryz.func118,Tryz.ntmps118;go_wp2_with fail
  all_goals
   rw[HO.out];refine (numShr_any _ _ _ HL.out).mono ?_;rintro e w1 ⟨rfl,hb⟩;obtain ⟨hc,hf⟩:=bcell hb;have hz:=hb.size;simp at hz;obtain ⟨y,z,he,-,-⟩:=numV_parts ((B*B-1)/2 ^ sh _);have HE:=hD he;rw[he];clear he;go_wp2_with fail;have L2:w.heap.size<w.heap.size+1+1:=by omega
   exact bodyPost_ret (v:= .agg #[.int .u64 (y:Int), .int .u64 (z:Int)]) (by simp[results,Tryz.results118,go_sem,hc,hf,hz,L2]) rfl ⟨by rw[<- HE.out];rw[(HS _ (by intro;omega) (by intro;omega)).out],(by repeat (first|exact Below.refl _ _|assumption|refine Below.drew ?_|refine blA ?_|refine blS ?_|refine blT ?_ (by assumption)))⟩
theorem numCut_any (n:Nat) (k:Int) (w:World) (hn:n<B*B):Calls Tryz.prog 69 #[numV n, .int .i64 k] w (RetNum w (n%2 ^ sh k)):=by
 have HV:Hid (n &&& (2 ^ sh k-1)=n%2 ^ sh k):=Nat.and_two_pow_sub_one_eq_mod n (sh k);have HB:=hD (and_num n (2 ^ sh k-1) hn (mask_lt k));obtain ⟨y,z,he,hy,hz0⟩:=numV_parts n;obtain ⟨u,v,hm,hu,hv⟩:=numV_parts (2 ^ sh k-1);rw[<- hy, <-hz0, <-hu, <-hv] at HB;have HM:=hD hm;rw[he];clear he hy hz0 hm hu hv;go_enter Tryz.func69,Tryz.ntmps69;go_wp2_with fail;go_region_with (first
  |(go_at_call 118;refine (numMask_any _ _).mono ?_;rintro e w1 ⟨rfl,hb⟩;rw[HM.out];obtain ⟨hc,hf⟩:=bcell hb;have hz:=hb.size;simp at hz;have L1:w.heap.size+1<w1.heap.size:=by omega)
  |(go_at_call 109;refine (and_any _ _ _ _ _).mono ?_;rintro e w2 ⟨rfl,hb2⟩;obtain ⟨hc2,hf2⟩:=bcell hb2;have hz2:=hb2.size))
 all_goals go_wp2_with fail
 all_goals exact bodyPost_ret (v:= .agg #[.int .u64 (bits .and .u64 (y:Int) (u:Int)), .int .u64 (bits .and .u64 (z:Int) (v:Int))]) (by simp[results,Tryz.results69,go_sem,hc,hf,hc2,hf2,L1]) rfl ⟨by rw[HB.out,HV.out],(by repeat (first|exact Below.refl _ _|assumption|refine Below.drew ?_|refine blA ?_|refine blS ?_|refine blT ?_ (by assumption)))⟩
theorem numShl_any (n:Nat) (k j:Int) (w:World) (hn:n<B*B):Calls Tryz.prog 100 #[numV n, .int .i64 k, .int .i64 j] w (RetNum w (n*2 ^ sh k%(B*B)%2 ^ sh j)):=by
 have HC:Hid (n*2 ^ sh k%(B*B)<B*B):=Nat.mod_lt _ (by unfold B;omega);have HV1:sh k<64->∀y z:Nat,y=n/B->z=n%B->Value.agg #[.int .u64 (bits .or .u64 (IntKind.u64.wrap ((y:Int)*2 ^ sh k)) ((z:Int)/2 ^ (64-sh k))), .int .u64 (IntKind.u64.wrap ((z:Int)*2 ^ sh k))]=numV (n*2 ^ sh k%(B*B)):=by
  intro hs y z e1 e2;subst e1 e2;rw[shl_small _ _ _ (half_lt hn) (low_lt _) hs,parts_eq]
 have HV2:64<=sh k->∀z:Nat,z=n%B->Value.agg #[.int .u64 (IntKind.u64.wrap ((z:Int)*2 ^ (sh k-64))), .int .u64 0]=numV (n*2 ^ sh k%(B*B)):=by
  intro hs z e2;subst e2;rw[shl_great _ (n%B) _ (half_lt hn) (low_lt _) hs,parts_eq]
 have HA:=hD HV1;clear HV1;have HB:=hD HV2;clear HV2;obtain ⟨y,z,he,hy,hz0⟩:=numV_parts n;have HH:Hid (y=n/B/\z=n%B):=⟨hy,hz0⟩;rw[he];clear he hy hz0 hn;rcases Int.lt_or_le 0 k with h0|h0
 ·obtain ⟨s,rfl⟩:=Int.eq_ofNat_of_zero_le (Int.le_of_lt h0);have h0':0<s:=by omega
  clear h0;rcases Nat.lt_or_ge s 64 with h1|h1
  ·have HS:Hid (sh (s:Int)=s):=by show _=_;unfold sh;omega
   have HE:Hid (Value.agg #[.int .u64 (bits .or .u64 (IntKind.u64.wrap ((y:Int)*2 ^ s)) ((z:Int)/2 ^ (64-s))), .int .u64 (IntKind.u64.wrap ((z:Int)*2 ^ s))]=numV (n*2 ^ sh (s:Int)%(B*B))):=by
    show _=_;rw[<- HA.out (by rw[HS.out];exact h1) y z HH.out.1 HH.out.2,HS.out]
   go_enter Tryz.func100,Tryz.ntmps100;go_wp2_with (go_at_call 130;go_in);rw[HE.out];refine (numCut_any _ _ _ HC.out).mono ?_;rintro e w1 ⟨rfl,hb⟩;obtain ⟨hc,hf⟩:=bcell hb;have hz:=hb.size;simp at hz;have L1:w.heap.size+1<w1.heap.size:=by omega
   obtain ⟨u,v,hm,-,-⟩:=numV_parts (n*2 ^ sh _%(B*B)%2 ^ sh j);have HM:=hD hm;rw[hm];clear hm;go_wp2_with fail;exact bodyPost_ret (v:= .agg #[.int .u64 (u:Int), .int .u64 (v:Int)]) (by simp[results,Tryz.results100,go_sem,hc,hf]) rfl ⟨by rw[<- HM.out],(by repeat (first|exact Below.refl _ _|assumption|refine Below.drew ?_|refine blA ?_|refine blS ?_|refine blT ?_ (by assumption)))⟩
  ·rcases Nat.lt_or_ge s 128 with h2|h2
   ·have HS:Hid (sh (s:Int)=s):=by show _=_;unfold sh;omega
    have HE:Hid (Value.agg #[.int .u64 (IntKind.u64.wrap ((z:Int)*2 ^ (s-64))), .int .u64 0]=numV (n*2 ^ sh (s:Int)%(B*B))):=by
     show _=_;rw[<- HB.out (by rw[HS.out];exact h1) z HH.out.2,HS.out]
    go_enter Tryz.func100,Tryz.ntmps100;go_wp2_with (go_at_call 130;go_in);rw[HE.out];refine (numCut_any _ _ _ HC.out).mono ?_;rintro e w1 ⟨rfl,hb⟩;obtain ⟨hc,hf⟩:=bcell hb;have hz:=hb.size;simp at hz;have L1:w.heap.size+1<w1.heap.size:=by omega
    obtain ⟨u,v,hm,-,-⟩:=numV_parts (n*2 ^ sh _%(B*B)%2 ^ sh j);have HM:=hD hm;rw[hm];clear hm;go_wp2_with fail;exact bodyPost_ret (v:= .agg #[.int .u64 (u:Int), .int .u64 (v:Int)]) (by simp[results,Tryz.results100,go_sem,hc,hf]) rfl ⟨by rw[<- HM.out],(by repeat (first|exact Below.refl _ _|assumption|refine Below.drew ?_|refine blA ?_|refine blS ?_|refine blT ?_ (by assumption)))⟩
   ·have HS:Hid (sh (s:Int)=128):=by show _=_;unfold sh;omega
    have HE:Hid (Value.agg #[.int .u64 (IntKind.u64.wrap ((z:Int)*18446744073709551616)), .int .u64 0]=numV (n*2 ^ sh (s:Int)%(B*B))):=by
     show _=_;rw[<- HB.out (by rw[HS.out];omega) z HH.out.2,HS.out];simp
    by_cases h3:s=128
    ·subst h3;go_enter Tryz.func100,Tryz.ntmps100;go_wp2_with (go_at_call 130;go_in);rw[HE.out];refine (numCut_any _ _ _ HC.out).mono ?_;rintro e w1 ⟨rfl,hb⟩;obtain ⟨hc,hf⟩:=bcell hb;have hz:=hb.size;simp at hz;have L1:w.heap.size+1<w1.heap.size:=by omega
     obtain ⟨u,v,hm,-,-⟩:=numV_parts (n*2 ^ sh _%(B*B)%2 ^ sh j);have HM:=hD hm;rw[hm];clear hm;go_wp2_with fail;exact bodyPost_ret (v:= .agg #[.int .u64 (u:Int), .int .u64 (v:Int)]) (by simp[results,Tryz.results100,go_sem,hc,hf]) rfl ⟨by rw[<- HM.out],(by repeat (first|exact Below.refl _ _|assumption|refine Below.drew ?_|refine blA ?_|refine blS ?_|refine blT ?_ (by assumption)))⟩
    ·have h4:128<s:=by omega
     clear h3 h2;go_enter Tryz.func100,Tryz.ntmps100;go_wp2_with (go_at_call 130;go_in);rw[HE.out];refine (numCut_any _ _ _ HC.out).mono ?_;rintro e w1 ⟨rfl,hb⟩;obtain ⟨hc,hf⟩:=bcell hb;have hz:=hb.size;simp at hz;have L1:w.heap.size+1<w1.heap.size:=by omega
     obtain ⟨u,v,hm,-,-⟩:=numV_parts (n*2 ^ sh _%(B*B)%2 ^ sh j);have HM:=hD hm;rw[hm];clear hm;go_wp2_with fail;exact bodyPost_ret (v:= .agg #[.int .u64 (u:Int), .int .u64 (v:Int)]) (by simp[results,Tryz.results100,go_sem,hc,hf]) rfl ⟨by rw[<- HM.out],(by repeat (first|exact Below.refl _ _|assumption|refine Below.drew ?_|refine blA ?_|refine blS ?_|refine blT ?_ (by assumption)))⟩
 ·have HS:Hid (sh k=0):=by show _=_;unfold sh;omega
  have HE:Hid (Value.agg #[.int .u64 (bits .or .u64 (IntKind.u64.wrap (y:Int)) ((z:Int)/18446744073709551616)), .int .u64 (IntKind.u64.wrap ((z:Int)))]=numV (n*2 ^ sh k%(B*B))):=by
   show _=_;rw[<- HA.out (by rw[HS.out];omega) y z HH.out.1 HH.out.2,HS.out];simp
  go_enter Tryz.func100,Tryz.ntmps100;go_wp2_with (go_at_call 130;go_in);rw[HE.out];refine (numCut_any _ _ _ HC.out).mono ?_;rintro e w1 ⟨rfl,hb⟩;obtain ⟨hc,hf⟩:=bcell hb;have hz:=hb.size;simp at hz;have L1:w.heap.size+1<w1.heap.size:=by omega
  obtain ⟨u,v,hm,-,-⟩:=numV_parts (n*2 ^ sh _%(B*B)%2 ^ sh j);have HM:=hD hm;rw[hm];clear hm;go_wp2_with fail;exact bodyPost_ret (v:= .agg #[.int .u64 (u:Int), .int .u64 (v:Int)]) (by simp[results,Tryz.results100,go_sem,hc,hf]) rfl ⟨by rw[<- HM.out],(by repeat (first|exact Below.refl _ _|assumption|refine Below.drew ?_|refine blA ?_|refine blS ?_|refine blT ?_ (by assumption)))⟩
open Go.RowKit
theorem refOf_any (n:Nat) (hn:n<B) (w:World):
 Calls Tryz.prog 19 #[.int .u64 (n:Int)] w (RetNum w n):=by
 have H:=hD (numOf_val n hn);clear hn;go_enter Tryz.func19,Tryz.ntmps19;go_wp2;exact bodyPost_ret (v:= .agg #[.int .u64 0, .int .u64 (n:Int)]) (by simp[results,Tryz.results19,go_sem]) rfl ⟨by rw[H.out],(by repeat (first|exact Below.refl _ _|assumption|refine Below.drew ?_|refine blA ?_|refine blS ?_|refine blT ?_ (by assumption)))⟩
open Go.RowKit
def subN (a b:Nat) (c:Int):Nat:=(a+(2 ^ 128-b))%2 ^ 128%2 ^ sh c
end Go.Proofs.YtjfhfaodbjecdaaGreat
