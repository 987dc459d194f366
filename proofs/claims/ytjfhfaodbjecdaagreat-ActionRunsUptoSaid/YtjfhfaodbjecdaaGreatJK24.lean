/- Lemmas. -/
import Derived.Test.YtjfhfaodbjecdaaGreatJK22
set_option maxHeartbeats 4000000
set_option maxRecDepth 100000
namespace Go.Proofs.YtjfhfaodbjecdaaGreat
open Go.RowKit
variable {z u v0 v1 v2 v3 v4 v5 v6 v7:Value} {size k b g gx gy N:Nat} {l:List Nat} {r:List Value} {f:Nat->Bool} {F:Nat->Nat->Bool} {wr:World}
structure GrwG (W W':World) (v v':Value):Prop where
 grown:W.grownBy W' v.ownBlock
 lies:v'.ownBlock=v.ownBlock\/v'.ownBlock=some W.heap.size
theorem eu {S E:TypeId} {bytes:Nat} (H:ElemOk S E z size bytes) {ops:Array Oper} {rest:List Oper} {o:Oper} {a:Act} {Q:Exit->Act->World->Prop} {w:World} (hgd:o.guard=none) (s x:Operand)
 (ho:o.op= .call { callee:= .builtin .append,args:=#[s,x],argTypes:=#[S,S] })
 (base:Nat) (v:Value) (n:Nat) (xs:List Value) (hs:a.eval s=v) (hown:w.ownsRow base E size v n xs)
 (vx:Value) (m:Nat) (news:List Value) (hx:a.eval x=vx) (hsrc:ke w size vx m news) (hl:(n+m)*bytes<=140737488355328) (hm:n+m<=maxLen) (hbase:base<=w.heap.size)
 (h:∀v' w',w'.ownsRow base E size v' (n+m) (xs++news)->GrwG w w' v v'->wpList Tryz.prog ops Q rest (a.put o.dst v') w'):wpList Tryz.prog ops Q (o::rest) a w:=by
 obtain ⟨i0,hi,hz0,hz1,hz2⟩:=info_parts H.inf;obtain ⟨h1,h2,⟨rfl,rfl⟩|⟨ad,c,rfl,h3⟩⟩:=hsrc
 ·obtain rfl:news=[]:=List.eq_nil_of_length_eq_zero om;refine wpList_append_own_none hgd s x _ ho base E i0 size H.und hi v n xs hs hown hx ?_;exact h v w (by simpa using hown) ⟨jf _ _, .inl rfl⟩
 exact wpList_append_own_at _ hgd s x _ ho base E i0 z size bytes H.und hi hz0 hz1 hz2 H.zs H.sz v n xs hs hown ad m c news hx h1 h3 h2 hm hl hbase fun v' w' q1 q2 _ q3=>h v' w' q1 ⟨q2,q3⟩
theorem zB:Flat 1 Cn (fun b=>[Value.bool b]) where
 len:=fun _=>rfl
 one:=fun x u hu=>by simp at hu;subst hu;rfl
 put:=fun w b o x h=>h 0 _ rfl
 get:=fun w b o x h i v hi=>by
  match i,hi with
  |0,hi=>cases hi;exact h
theorem Bf:ElemOk 36 4 (.bool false) 1 1:=⟨Tryz.underlying36,by kernel_rfl,rfl,by decide⟩
theorem Ab:ElemOk 37 38 (.slice none 0 0) 1 24:=⟨Tryz.underlying37,by kernel_rfl,rfl,by decide⟩
theorem iZ:∀l:List Bool,l.flatMap (fun n=>[Value.bool n])=l.map Value.bool
 |[]=>rfl
 |a::l=>by rw[List.flatMap_cons,iZ l];rfl
theorem o9:∀l:List Int,l.flatMap (fun n=>[Value.int .u8 n])=l.map (Value.int .u8)
 |[]=>rfl
 |a::l=>by rw[List.flatMap_cons,o9 l];rfl
theorem NRow.nums {w:World} {v:Value} (h:NRow w v l):t9 l:=fun n hn=>by
 obtain ⟨pa,cap,rfl,-⟩:=h.shape;obtain ⟨j,hj⟩:=List.getElem?_of_mem hn;obtain ⟨b,o,-,-,h1,-,-⟩:=h.get hj;exact h1
def Bx (w:World) (g:Nat) (c:List Value):Prop:=w.heap[g]?=some (.cells c.toArray 40 (0,0))
section
variable {w w':World} {g:Nat} {c:List Value}
theorem Bx.cell (h:Bx w g c) {i:Nat} (hi:c[i]?=some u):w.cell? ⟨g,i,none⟩=some u:=by
 unfold Bx at h;simp only[World.cell?,h];simpa using hi
theorem Bx.free (h:Bx w g c) (i:Nat):w.frozen? ⟨g,i,none⟩=false:=by unfold Bx at h;simp[World.frozen?,h]
theorem Bx.f9 (h:Bx w g c):w.frozen? ⟨g,0,none⟩=false/\w.frozen? ⟨g,1,none⟩=false/\w.frozen? ⟨g,2,none⟩=false/\w.frozen? ⟨g,3,none⟩=false/\w.frozen? ⟨g,4,none⟩=false/\w.frozen? ⟨g,5,none⟩=false/\w.frozen? ⟨g,6,none⟩=false/\w.frozen? ⟨g,7,none⟩=false/\w.frozen? ⟨g,8,none⟩=false:=⟨h.free 0,h.free 1,h.free 2,h.free 3,h.free 4,h.free 5,h.free 6,h.free 7,h.free 8⟩
theorem Bx.lt (h:Bx w g c):g<w.heap.size:=(bV h).1
theorem Bx.below (h:Bx w g c) (hb:Bl w w'):Bx w' g c:=(hb.block g h.lt).trans h
theorem Bx.put (h:Bx w g c) (i:Nat) (v:Value):Bx (w.setCell ⟨g,i,none⟩ v) g (c.set i v):=by
 unfold Bx at*;rw[heap_setCell_same w g i _ _ v h];simp
theorem Bx.other (h:Bx w g c) {i:Nat} (hk:g≠k) (v:Value):Bx (w.setCell ⟨k,i,none⟩ v) g c:=(heap_setCell_other w _ g v hk).trans h
end
structure OwnRows (base s1 s2 t0:Nat) (w:World) (x:Pkt) (n:Nat) (r v m f:Value) (fs:List Value):Prop where
 hr:w.ownsRow base 5 1 r x.rest.length (x.rest.map (Value.int .u8))
 hrl:∀k,r.ownBlock=some k->k<s1
 hv:w.ownsRow s1 4 1 v x.valid.length (x.valid.map Value.bool)
 hvl:∀k,v.ownBlock=some k->k<s2
 hm:NOwn s2 w m x.metas
 hml:∀k,m.ownBlock=some k->k<t0
 hf:w.ownsRow t0 38 1 f n fs
 hfs:∀(i:Nat) (u:Value) (l:List Nat),fs[i]?=some u->x.fields[i]?=some l->NOwn t0 w u l
 fd:∀u∈fs,∀k,u.ownBlock=some k->f.ownBlock≠some k
 fp:fs.Pairwise fun a b=>∀k,a.ownBlock=some k->b.ownBlock≠some k
 hn:n<=x.fields.length
 l1:base<=s1
 l2:s1<=s2
 l3:s2<=t0
theorem cg {w:World} {b' E n:Nat} {v:Value} {xs:List Value} (h:w.ownsRow b E size v n xs) (hb:b'<=b):w.ownsRow b' E size v n xs:=by
 obtain ⟨h1,h2⟩:=h;refine ⟨h1,?_⟩;rcases h2 with h2|⟨g,cap,cur,h3,h4,h5⟩
 ·exact .inl h2
 exact .inr ⟨g,cap,cur,h3,om,h5⟩
section
variable {base s1 s2 t0 n:Nat} {w w':World} {x:Pkt} {r v f m:Value} {fs:List Value}
theorem OwnRows.flen (h:OwnRows base s1 s2 t0 w x n r v m f fs):fs.length=n:=by have:=h.hf.1;omega
theorem OwnRows.fblk (h:OwnRows base s1 s2 t0 w x n r v m f fs):∀z∈fs,∀k,z.ownBlock=some k->t0<=k/\k<w.heap.size:=by
 intro z hz k hk;obtain ⟨i,hi⟩:=List.getElem?_of_mem hz;have hl:=(bO hi).1;exact aB (h.hfs i z _ hi (bS (by have:=h.flen;have:=h.hn;omega))).1 hk
theorem OwnRows.far (h:OwnRows base s1 s2 t0 w x n r v m f fs) (hk:∀k,base<=k->k<w.heap.size->w'.heap[k]?=w.heap[k]?):OwnRows base s1 s2 t0 w' x n r v m f fs:=by
 have:=h.l1;have:=h.l2;have:=h.l3;refine ⟨aG h.hr fun k e=>?_,h.hrl,aG h.hv fun k e=>?_,h.hvl,h.hm.far fun k e=>?_,h.hml,aG h.hf fun k e=>?_,fun i u l h1 h2=>(h.hfs i u l h1 h2).far fun k e=>?_,h.fd,h.fp,h.hn,h.l1,h.l2,h.l3⟩
 ·have:=aB h.hr e;exact hk k om this.2
 ·have:=aB h.hv e;exact hk k om this.2
 ·have:=aB h.hm.1 e;exact hk k om this.2
 ·have:=aB h.hf e;exact hk k om this.2
 have:=aB (h.hfs i u l h1 h2).1 e;exact hk k om this.2
theorem OwnRows.store (h:OwnRows base s1 s2 t0 w x n r v m f fs) {i:Nat} (hg:g<base):OwnRows base s1 s2 t0 (w.setCell ⟨g,i,none⟩ z) x n r v m f fs:=h.far fun k hk _=>heap_setCell_other w _ k z (by show k≠g;omega)
theorem OwnRows.snoc {W2 W3 W4:World} {f':Value} {o:Obj} (h:OwnRows base s1 s2 t0 w x n r v m f fs) (hl:x.fields[n]?=some l) (hb:Bl w W2) (hu:NOwn w.heap.size W2 u l) (h3:W3=W2.alloc o) (ht:t0<=w.heap.size)
 (hf':W4.ownsRow t0 38 1 f' (n+1) (fs++[u])) (hg:GrwG W3 W4 f f'):OwnRows base s1 s2 t0 W4 x (n+1) r v m f' (fs++[u]):=by
 have q1:=h.l1;have q2:=h.l2;have q3:=h.l3;have hs3:W3.heap.size=W2.heap.size+1:=by rw[h3];simp
 have hb3:Bl w W3:=by rw[h3];exact hb.alloc hb.size _
 have fblk:∀k,f.ownBlock=some k->t0<=k/\k<w.heap.size:=fun k hk=>aB h.hf hk
 have hu3:NOwn w.heap.size W3 u l:=by rw[h3];exact ⟨World.ownsRow.alloc hu.1 _,hu.2⟩
 have ublk:∀k,u.ownBlock=some k->w.heap.size<=k/\k<W2.heap.size:=fun k hk=>aB hu.1 hk
 have kp:∀{b E sz n:Nat} {z:Value} {xs:List Value},w.ownsRow b E sz z n xs->(∀ k,z.ownBlock=some k->f.ownBlock≠some k)->W4.ownsRow b E sz z n xs:=fun {b E sz n z xs} hz hne=>by
  refine World.ownsRow.kept (aG hz fun k e=>hb3.block k (aB hz e).2) hg.grown ?_;cases e:z.ownBlock with
  |none=>exact .inl rfl
  |some k=>exact .inr fun e2=>hne k e e2.symm
 have uk:NOwn w.heap.size W4 u l:=⟨World.ownsRow.kept hu3.1 hg.grown (by
  cases e:u.ownBlock with
  |none=>exact .inl rfl
  |some k=>refine .inr fun e2=>?_;have:=ublk k e;have:=fblk k e2.symm;omega),hu.2⟩
 refine ⟨kp h.hr fun k e e2=>?_,h.hrl,kp h.hv fun k e e2=>?_,h.hvl,⟨kp h.hm.1 fun k e e2=>?_,h.hm.2⟩,h.hml,hf',fun i z y h1 h2=>?_,fun z hz k hk hk2=>?_,?_,?_,q1,q2,q3⟩
 ·have:=h.hrl k e;have:=fblk k e2;omega
 ·have:=h.hvl k e;have:=fblk k e2;omega
 ·have:=h.hml k e;have:=fblk k e2;omega
 ·by_cases hi:i<fs.length
  ·rw[List.getElem?_append_left hi] at h1;have hz:=h.hfs i z y h1 h2;exact ⟨kp hz.1 (h.fd z (cX h1)),hz.2⟩
  rw[List.getElem?_append_right om] at h1;have hi2:i=n:=by
   have:=(bO h1).1;have:=h.flen;simp at *;omega
  subst hi2;rw[h.flen,Nat.sub_self] at h1;simp at h1;subst h1;rw[hl] at h2;cases h2;exact ⟨cg uk.1 ht,uk.2⟩
 ·rcases List.mem_append.1 hz with hz|hz
  ·have a1:=h.fblk z hz k hk;rcases hg.lies with e|e
   ·rw[e] at hk2;exact h.fd z hz k hk hk2
   rw[e] at hk2;cases hk2;have:=hb3.size;omega
  rw[List.mem_singleton] at hz;subst hz;have a1:=ublk k hk;rcases hg.lies with e|e
  ·rw[e] at hk2;have:=fblk k hk2;omega
  rw[e] at hk2;cases hk2;omega
 ·rw[List.pairwise_append];refine ⟨h.fp,List.pairwise_singleton _ _,fun a ha b hb k e1 e2=>?_⟩;rw[List.mem_singleton] at hb;subst hb;have:=h.fblk a ha k e1;have:=ublk k e2;omega
 have:=(bO hl).1;omega
theorem OwnRows.nodup (h:OwnRows base s1 s2 t0 w x n r v m f fs):(([r,v,f,m]++fs).filterMap Value.ownBlock).Nodup:=by
 have q1:=h.l1;have q2:=h.l2;have q3:=h.l3;rw[List.Nodup,List.pairwise_filterMap];have vb:∀k,v.ownBlock=some k->s1<=k:=fun k hk=>(aB h.hv hk).1
 have mb:∀k,m.ownBlock=some k->s2<=k:=fun k hk=>(aB h.hm.1 hk).1
 have fb:∀k,f.ownBlock=some k->t0<=k:=fun k hk=>(aB h.hf hk).1
 have ub:∀u∈fs,∀k,u.ownBlock=some k->t0<=k:=fun u hu k hk=>(h.fblk u hu k hk).1
 have rl:=h.hrl;have vl:=h.hvl;have ml:=h.hml;simp only[List.cons_append,List.nil_append,List.pairwise_cons,List.mem_cons];refine ⟨fun b hb k hk j hj=>?_,fun b hb k hk j hj=>?_,fun b hb k hk j hj=>?_,fun b hb k hk j hj=>?_,h.fp.imp fun {a b} hab k hk j hj e=>hab k hk (by rw[e];exact hj)⟩
 ·have:=rl k hk;rcases hb with rfl|rfl|rfl|hb
  ·have:=vb j hj;omega
  ·have:=fb j hj;omega
  ·have:=mb j hj;omega
  have:=ub b hb j hj;omega
 ·have:=vl k hk;rcases hb with rfl|rfl|hb
  ·have:=fb j hj;omega
  ·have:=mb j hj;omega
  have:=ub b hb j hj;omega
 ·have:=fb k hk;rcases hb with rfl|hb
  ·have:=ml j hj;omega
  exact fun e=>h.fd b hb j hj (by rw[<- e];exact hk)
 have:=ml k hk;have:=ub b hb j hj;omega
end
structure PktO (base:Nat) (w:World) (x:Pkt) (r v f m:Value) (fs:List Value):Prop where
 hr:w.ownsRow base 5 1 r x.rest.length (x.rest.map (Value.int .u8))
 hv:w.ownsRow base 4 1 v x.valid.length (x.valid.map Value.bool)
 hf:w.ownsRow base 38 1 f x.fields.length fs
 hfs:∀(i:Nat) (u:Value) (l:List Nat),fs[i]?=some u->x.fields[i]?=some l->NOwn base w u l
 hm:NOwn base w m x.metas
 nd:(([r,v,f,m]++fs).filterMap Value.ownBlock).Nodup
theorem OwnRows.whole {base s1 s2 t0:Nat} {w:World} {x:Pkt} {r v f m:Value} {fs:List Value} (h:OwnRows base s1 s2 t0 w x x.fields.length r v m f fs):PktO base w x r v f m fs:=by
 have q1:=h.l1;have q2:=h.l2;have q3:=h.l3;exact ⟨h.hr,cg h.hv q1,cg h.hf om,fun i u l h1 h2=>⟨cg (h.hfs i u l h1 h2).1 om,(h.hfs i u l h1 h2).2⟩,⟨cg h.hm.1 om,h.hm.2⟩,h.nodup⟩
section
variable {base:Nat} {w w':World} {x:Pkt} {r v f m:Value} {fs:List Value}
theorem PktO.flen (h:PktO base w x r v f m fs):fs.length=x.fields.length:=by have:=h.hf.1;omega
theorem PktO.blk (h:PktO base w x r v f m fs):∀z∈[r,v,f,m]++fs,∀k,z.ownBlock=some k->base<=k/\k<w.heap.size:=by
 intro z hz k hk;rcases List.mem_append.1 hz with hz|hz
 ·simp only[List.mem_cons,List.not_mem_nil,or_false] at hz;rcases hz with rfl|rfl|rfl|rfl
  ·exact aB h.hr hk
  ·exact aB h.hv hk
  ·exact aB h.hf hk
  exact aB h.hm.1 hk
 obtain ⟨i,hi⟩:=List.getElem?_of_mem hz;have hl:=(bO hi).1;exact aB (h.hfs i z _ hi (bS (by have:=h.flen;omega))).1 hk
theorem PktO.far (h:PktO base w x r v f m fs) (hk:∀k,base<=k->k<w.heap.size->w'.heap[k]?=w.heap[k]?):PktO base w' x r v f m fs:=by
 refine ⟨aG h.hr fun k e=>?_,aG h.hv fun k e=>?_,aG h.hf fun k e=>?_,fun i u l h1 h2=>(h.hfs i u l h1 h2).far fun k e=>?_,h.hm.far fun k e=>?_,h.nd⟩
 ·have:=aB h.hr e;exact xK
 ·have:=aB h.hv e;exact xK
 ·have:=aB h.hf e;exact xK
 ·have:=aB (h.hfs i u l h1 h2).1 e;exact xK
 have:=aB h.hm.1 e;exact xK
theorem PktO.below (h:PktO base w x r v f m fs) (hb:Bl w w'):PktO base w' x r v f m fs:=h.far fun k _ hk=>hb.block k hk
theorem PktO.lower (h:PktO base w x r v f m fs) (hb:b<=base):PktO b w x r v f m fs:=
 ⟨cg h.hr hb,cg h.hv hb,cg h.hf hb,fun i u l h1 h2=>⟨cg (h.hfs i u l h1 h2).1 hb,(h.hfs i u l h1 h2).2⟩,⟨cg h.hm.1 hb,h.hm.2⟩,h.nd⟩
theorem PktO.boxed (h:PktO base w x r v f m fs) {X:Nat} (hX:w.heap[X]?=some (.cells (cA x r v f m).toArray 40 (0,0))) (hlo:base<=X) (hne:∀z∈[r,v,f,m]++fs,z.ownBlock≠some X):PktB base w X x r v f m fs:=
 ⟨hX,h.hr,h.hv,h.hf,h.hfs,h.hm,hlo,List.nodup_cons.2 ⟨fun hc=>by
  obtain ⟨z,hz,e⟩:=List.mem_filterMap.1 hc;exact hne z hz e,h.nd⟩⟩
theorem PktO.ks (h:PktO base w x r v f m fs):∃k:KS,r= .slice k.rp k.rn k.rc/\v= .slice k.vp k.vn k.vc/\f= .slice k.fp k.fn k.fc/\m= .slice k.mp k.mn k.mc/\KOk w k x:=by
 have h1:URow w r x.rest:=RowAt.of_flat zr rfl (by rw[o9];exact h.hr);have h2:BRow w v x.valid:=RowAt.of_flat zB rfl (by rw[iZ];exact h.hv);have h4:NRow w m x.metas:=h.hm.row;have h3:NsRow w f x.fields:=by
  refine iO (ls:=fs.map fun u=>[u]) rfl (by rw[List.length_map];exact h.flen) (by rw[show (fs.map fun u=>[u]).flatten=fs from by rw[<- List.flatMap_def];simp];exact h.hf) (fun c hc=>?_) fun j l c hl hc b o hb hcs=>?_
  ·obtain ⟨u,-,rfl⟩:=List.mem_map.1 hc;rfl
  rw[List.getElem?_map] at hc;cases hu:fs[j]? with
  |none=>rw[hu] at hc;cases hc
  |some u=>
   rw[hu] at hc;cases hc;have hr:=(h.hfs j u l hu hl).row;obtain ⟨pa,cap,rfl,-⟩:=hr.shape;exact ⟨pa,_,cap,hcs 0 _ rfl,hr⟩
 obtain ⟨rp,rc,rfl,-⟩:=h1.shape;obtain ⟨vp,vc,rfl,-⟩:=h2.shape;obtain ⟨fp,fc,rfl,-⟩:=h3.shape;obtain ⟨mp,mc,rfl,-⟩:=h4.shape;exact ⟨⟨rp,_,rc,vp,_,vc,fp,_,fc,mp,_,mc⟩,rfl,rfl,rfl,rfl,h1,h2,h3,h4⟩
end
structure PktSm (x:Pkt):Prop where
 r:x.rest.length<=1000000
 v:x.valid.length<=1000000
 f:x.fields.length<=1000000
 fl:∀l∈x.fields,l.length<=1000000
 m:x.metas.length<=1000000
theorem Bx.c3 {w:World} (h:Bx w g (v0::v1::v2::r)):w.cell? ⟨g,0,none⟩=some v0/\w.cell? ⟨g,1,none⟩=some v1/\w.cell? ⟨g,2,none⟩=some v2:=⟨Bx.cell h rfl,Bx.cell h rfl,Bx.cell h rfl⟩
theorem Bx.c4 {w:World} (h:Bx w g (v0::v1::v2::v3::r)):w.cell? ⟨g,0,none⟩=some v0/\w.cell? ⟨g,1,none⟩=some v1/\w.cell? ⟨g,2,none⟩=some v2/\w.cell? ⟨g,3,none⟩=some v3:=⟨Bx.cell h rfl,Bx.cell h rfl,Bx.cell h rfl,Bx.cell h rfl⟩
theorem Bx.c5 {w:World} (h:Bx w g (v0::v1::v2::v3::v4::r)):w.cell? ⟨g,0,none⟩=some v0/\w.cell? ⟨g,1,none⟩=some v1/\w.cell? ⟨g,2,none⟩=some v2/\w.cell? ⟨g,3,none⟩=some v3/\w.cell? ⟨g,4,none⟩=some v4:=⟨Bx.cell h rfl,Bx.cell h rfl,Bx.cell h rfl,Bx.cell h rfl,Bx.cell h rfl⟩
theorem Bx.c6 {w:World} (h:Bx w g (v0::v1::v2::v3::v4::v5::r)):w.cell? ⟨g,0,none⟩=some v0/\w.cell? ⟨g,1,none⟩=some v1/\w.cell? ⟨g,2,none⟩=some v2/\w.cell? ⟨g,3,none⟩=some v3/\w.cell? ⟨g,4,none⟩=some v4/\w.cell? ⟨g,5,none⟩=some v5:=⟨Bx.cell h rfl,Bx.cell h rfl,Bx.cell h rfl,Bx.cell h rfl,Bx.cell h rfl,Bx.cell h rfl⟩
theorem Bx.c7 {w:World} (h:Bx w g (v0::v1::v2::v3::v4::v5::v6::r)):w.cell? ⟨g,0,none⟩=some v0/\w.cell? ⟨g,1,none⟩=some v1/\w.cell? ⟨g,2,none⟩=some v2/\w.cell? ⟨g,3,none⟩=some v3/\w.cell? ⟨g,4,none⟩=some v4/\w.cell? ⟨g,5,none⟩=some v5/\w.cell? ⟨g,6,none⟩=some v6:=⟨Bx.cell h rfl,Bx.cell h rfl,Bx.cell h rfl,Bx.cell h rfl,Bx.cell h rfl,Bx.cell h rfl,Bx.cell h rfl⟩
theorem Bx.c8 {w:World} (h:Bx w g (v0::v1::v2::v3::v4::v5::v6::v7::r)):w.cell? ⟨g,0,none⟩=some v0/\w.cell? ⟨g,1,none⟩=some v1/\w.cell? ⟨g,2,none⟩=some v2/\w.cell? ⟨g,3,none⟩=some v3/\w.cell? ⟨g,4,none⟩=some v4/\w.cell? ⟨g,5,none⟩=some v5/\w.cell? ⟨g,6,none⟩=some v6/\w.cell? ⟨g,7,none⟩=some v7:=⟨Bx.cell h rfl,Bx.cell h rfl,Bx.cell h rfl,Bx.cell h rfl,Bx.cell h rfl,Bx.cell h rfl,Bx.cell h rfl,Bx.cell h rfl⟩
theorem Bx.c9 {w:World} {v8:Value} (h:Bx w g (v0::v1::v2::v3::v4::v5::v6::v7::v8::r)):w.cell? ⟨g,0,none⟩=some v0/\w.cell? ⟨g,1,none⟩=some v1/\w.cell? ⟨g,2,none⟩=some v2/\w.cell? ⟨g,3,none⟩=some v3/\w.cell? ⟨g,4,none⟩=some v4/\w.cell? ⟨g,5,none⟩=some v5/\w.cell? ⟨g,6,none⟩=some v6/\w.cell? ⟨g,7,none⟩=some v7/\w.cell? ⟨g,8,none⟩=some v8:=⟨Bx.cell h rfl,Bx.cell h rfl,Bx.cell h rfl,Bx.cell h rfl,Bx.cell h rfl,Bx.cell h rfl,Bx.cell h rfl,Bx.cell h rfl,Bx.cell h rfl⟩
open Go.RowKit
def In2 (F:Nat->Nat->Bool) (f:Nat->Bool) (w:World) (gx gy N k:Nat) (wr:World):Prop:=
 wr.heap[gx]?=some (.cells (aw f) 114 (0,0))/\wr.heap[gy]?=some (.cells (aw (F k)) 114 (0,0))/\
 (∃ c0 c1,wr.heap[N]?=some (.cells #[c0,c1] 60 (0,0)))/\Bl w wr
theorem In2.cells {w:World} (h:In2 F f w gx gy N k wr) {i j:Nat} (hi:i<128) (hj:j<128):
 wr.cell? ⟨gx,i,none⟩=some (.bool (f i))/\(∃ c,wr.cell? ⟨gy,j,none⟩=some (.bool c))/\wr.frozen? ⟨gy,j,none⟩=false:=by
 obtain ⟨h1,h2,h3,h4⟩:=h;refine ⟨?_,⟨F k j,?_⟩,?_⟩
 ·rw[cell_of_row wr _ i _ _ _ h1,eA _ i hi]
 ·rw[cell_of_row wr _ j _ _ _ h2,eA _ j hj]
 simp[World.frozen?,h2]
theorem In2.step {w:World} {j:Nat} {c:Bool} (h:In2 F f w gx gy N k wr) (hn:gx≠gy) (hN:N≠gy) (hx:w.heap.size<=gy) (hF:∀i,i<128->put (F k) j c i=F (k+1) i):
 Hd (In2 F f w gx gy N (k+1) (wr.setCell ⟨gy,j,none⟩ (.bool c))):=by
 obtain ⟨h1,h2,⟨c0,c1,h3⟩,h4⟩:=h;refine ⟨?_,?_,⟨c0,c1,?_⟩,h4.setCell (by show w.heap.size<=gy;omega) _⟩
 ·rw[aq hn];exact h1
 ·rw[dJ _ h2];congr 2;exact aO hF
 rw[aq hN];exact h3
open Go.RowKit
theorem rV (n:Nat) (K:Nat) (c:Int) (hn:n<B*B) (w:World):
 Calls Tryz.prog 79 #[aC n, .int .i64 (K:Int), .int .i64 c] w (ai w (n*2 ^ min K 128%2 ^ 128%2 ^ sh c)):=by
 obtain ⟨f,hf⟩:=nm n.testBit;have HA:Hd (∀ W,CR 52 #[aC n] W (.agg (aw f))):=fun W=>by rw[hf];exact aK n hn W
 have HF:=hD hf;obtain ⟨h1,l1,e1,-,-⟩:=ae n;rw[e1] at HA⊢;clear e1 hf;go_enter Tryz.func79,Tryz.ntmps79;go_wp2_with fail;refine (HA.o _).mono ?_;rintro e w1 ⟨rfl,hb1⟩;obtain ⟨W0,hW0⟩:=nm ((w.alloc (.cells #[.int .u64 (h1:Int), .int .u64 (l1:Int)] 60)).alloc (.cells #[.int .u64 0, .int .u64 0] 60));have hbW:Bl w W0:=by rw[hW0];exact bL
 have z1:w.heap.size+1<W0.heap.size:=by rw[hW0];simp
 have cr:W0.heap[w.heap.size+1]?=some (.cells #[.int .u64 0, .int .u64 0] 60 (0,0)):=by
  exact zo
 rw[<- hW0] at hb1;have hs1:=hb1.size;have cr1:=(hb1.block _ z1).trans cr;have HB1:=hD (hbW.trans (hb1.mono hbW.size));clear hb1 hW0 hbW cr;have hZ:Tryz.zeroCells114=aw fun _=>false:=by kernel_rfl
 have hnew:=ag w1 (.cells Tryz.zeroCells114 114);have HZS:Hd ((Tryz.zeroCells114).size=128):=by show _=_;rw[hZ];exact au _
 have hset:=setRow_heap _ _ _ (aw f) _ _ hnew;have HNW:=hD hnew;have hal:=ag ((w1.alloc (.cells Tryz.zeroCells114 114)).setRow w1.heap.size (aw f)) (.cells Tryz.zeroCells114 114);simp only[setRow_size,World.size_alloc] at hal;have hzz:∀i,i<128->(fun _=>false:Nat->Bool) i=(fun k i=>decide (K<=i)&&(decide (i<k)&&f (i-K))) K i:=fun i _=>by by_cases h:K<=i<;>simp[h]<;>intro h2<;>omega
 have hez:Tryz.zeroCells114=aw ((fun k i=>decide (K<=i)&&(decide (i<k)&&f (i-K))) K):=hZ.trans (aO hzz);have H0:Hd (In2 (fun k i=>decide (K<=i)&&(decide (i<k)&&f (i-K))) f w w1.heap.size (w1.heap.size+1) (w.heap.size+1) K (((w1.alloc (.cells Tryz.zeroCells114 114)).setRow w1.heap.size (aw f)).alloc (.cells Tryz.zeroCells114 114))):=by
  exact gS
 clear hZ hnew hset hal hzz hez cr1 HA;go_wp2_with (refine wpList_store_row rfl 114 (.tmp 7) (.tmp 13) rfl w1.heap.size (aw f) rfl rfl 114 _ HNW.o (by rw[au];exact aS) (by rw[au];exact HZS.o) (ce _) ?_);clear HNW HZS HB1;generalize (((w1.alloc (.cells Tryz.zeroCells114 114)).setRow w1.heap.size (aw f)).alloc (.cells Tryz.zeroCells114 114))=W2 at*;obtain ⟨g,hg⟩:∃g:Nat->Bool,g=fun i=>decide (K<=i)&&f (i-K):=⟨_,rfl⟩
 have HE:Hd (aF g 128=n*2 ^ min K 128%2 ^ 128):=by
  show _=_;refine bM (Nat.mod_lt _ (Nat.two_pow_pos _)) fun i hi=>?_
  rw[hg,HF.o,Nat.testBit_mod_two_pow,Nat.testBit_mul_two_pow];by_cases h:K<=i
  ·have hk:min K 128=K:=om;simp[h,hk,hi]
  have h2:¬min K 128<=i:=om;simp[h,h2]
 have HG:Hd (∀ j,128<=j->∀i,i<128->g i=(fun k i=>decide (K<=i)&&(decide (i<k)&&f (i-K))) j i):=by
  show ∀j,128<=j->∀i,i<128->g i=(fun k i=>decide (K<=i)&&(decide (i<k)&&f (i-K))) j i;intro j hj i hi;have hd:decide (i<j)=true:=by simp;omega
  rw[hg];simp only[hd,Bool.true_and]
 clear hg;go_loopw [9] (fun i wr=>∃k:Nat,K<=k/\i= .int .i64 k/\Hd (In2 (fun k i=>decide (K<=i)&&(decide (i<k)&&f (i-K))) f w w1.heap.size (w1.heap.size+1) (w.heap.size+1) k wr)) (fun i _=>128-(intOf i).toNat)
 case atStart=>exact ⟨K,om,rfl,H0⟩
 case round=>
  obtain ⟨k,hk,rfl,HK⟩:=hrel;by_cases hlt:k<128
  ·obtain ⟨r1,⟨c2,r2⟩,r3⟩:=HK.o.cells (i:=k-K) (j:=k) om om;have hx0:(0:Int)<=(k:Int)-K:=om;have hx1:(k:Int)-K<128:=om;have hx2:((k:Int)-K).toNat=k-K:=om;go_wp2_with fail;go_roundw
   case rel=>exact ⟨k+1,om,by go_num,HK.o.step om om om (fun i _=>by
    unfold put;by_cases e:i=k
    ·subst e;simp[hk]
    ·have e1:decide (i<k+1)=decide (i<k):=by simp;omega
     simp[e,e1])⟩
   case measure=>exact mz
  have hk8:128<=k:=om;obtain ⟨-,r1,⟨x0,x1,r3⟩,r4⟩:=HK.o;have e:aw ((fun k i=>decide (K<=i)&&(decide (i<k)&&f (i-K))) k)=aw g:=aO fun i hi=>(HG.o k hk8 i hi).symm
  rw[e] at r1;clear e;have HNUM:Hd (∀ W,Calls Tryz.prog 53 #[.agg (aw g)] W (ai W (n*2 ^ min K 128%2 ^ 128))):=fun W=>by rw[<- HE.o];exact bE _ W
  have HB4:=hD r4;have H3:=hD r3;clear r3 r4 HE HK H0 HG;have hRR:(aw g).size=128:=au _;generalize aw g=RR at r1 HNUM hRR;go_wp2_with (first
   |(refine wpList_load_row rfl 114 (.tmp 8) rfl (w1.heap.size+1) rfl 114 RR (0,0) _ r1 Tryz.underlying114 rfl (by rw[hRR];exact aS) ?_))
  clear r1;obtain ⟨h3,l3,e3,-,-⟩:=ae (n*2 ^ min K 128%2 ^ 128);have HE3:=hD e3;have HNUM2:Hd (∀ W,CR 53 #[.agg RR] W (.agg #[.int .u64 (h3:Int), .int .u64 (l3:Int)])):=fun W=>by rw[<- HE3.o];exact HNUM.o W
  have hcut:∀W,Calls Tryz.prog 24 #[aC (n*2 ^ min K 128%2 ^ 128), .int .i64 c] W (ai W (n*2 ^ min K 128%2 ^ 128%2 ^ sh c)):=fun W=>dG _ c (by rw[aY];exact Nat.mod_lt _ (Nat.two_pow_pos _)) W
  rw[HE3.o] at hcut;obtain ⟨h4,l4,e4,-,-⟩:=ae (n*2 ^ min K 128%2 ^ 128%2 ^ sh c);exact gR
theorem rW (n:Nat) (a:Int) (ha:a<0) (c:Int) (hn:n<B*B) (w:World):
 Calls Tryz.prog 79 #[aC n, .int .i64 a, .int .i64 c] w (ai w (n%2 ^ sh c)):=by
 obtain ⟨f,hf⟩:=nm n.testBit;have HA:Hd (∀ W,CR 52 #[aC n] W (.agg (aw f))):=fun W=>by rw[hf];exact aK n hn W
 have HF:=hD hf;obtain ⟨h1,l1,e1,-,-⟩:=ae n;rw[e1] at HA⊢;clear e1 hf;go_enter Tryz.func79,Tryz.ntmps79;go_wp2_with fail;refine (HA.o _).mono ?_;rintro e w1 ⟨rfl,hb1⟩;obtain ⟨W0,hW0⟩:=nm ((w.alloc (.cells #[.int .u64 (h1:Int), .int .u64 (l1:Int)] 60)).alloc (.cells #[.int .u64 0, .int .u64 0] 60));have hbW:Bl w W0:=by rw[hW0];exact bL
 have z1:w.heap.size+1<W0.heap.size:=by rw[hW0];simp
 have cr:W0.heap[w.heap.size+1]?=some (.cells #[.int .u64 0, .int .u64 0] 60 (0,0)):=by
  exact zo
 rw[<- hW0] at hb1;have hs1:=hb1.size;have cr1:=(hb1.block _ z1).trans cr;have HB1:=hD (hbW.trans (hb1.mono hbW.size));clear hb1 hW0 hbW cr;have hZ:Tryz.zeroCells114=aw fun _=>false:=by kernel_rfl
 have hnew:=ag w1 (.cells Tryz.zeroCells114 114);have HZS:Hd ((Tryz.zeroCells114).size=128):=by show _=_;rw[hZ];exact au _
 have hset:=setRow_heap _ _ _ (aw f) _ _ hnew;have HNW:=hD hnew;have hal:=ag ((w1.alloc (.cells Tryz.zeroCells114 114)).setRow w1.heap.size (aw f)) (.cells Tryz.zeroCells114 114);simp only[setRow_size,World.size_alloc] at hal;have hzz:∀i,i<128->(fun _=>false:Nat->Bool) i=(fun k i=>decide (i<k)&&f i) 0 i:=fun i _=>by simp
 have hez:Tryz.zeroCells114=aw ((fun k i=>decide (i<k)&&f i) 0):=hZ.trans (aO hzz);have H0:Hd (In2 (fun k i=>decide (i<k)&&f i) f w w1.heap.size (w1.heap.size+1) (w.heap.size+1) 0 (((w1.alloc (.cells Tryz.zeroCells114 114)).setRow w1.heap.size (aw f)).alloc (.cells Tryz.zeroCells114 114))):=by
  exact gS
 clear hZ hnew hset hal hzz hez cr1 HA;go_wp2_with (refine wpList_store_row rfl 114 (.tmp 7) (.tmp 13) rfl w1.heap.size (aw f) rfl rfl 114 _ HNW.o (by rw[au];exact aS) (by rw[au];exact HZS.o) (ce _) ?_);clear HNW HZS HB1;generalize (((w1.alloc (.cells Tryz.zeroCells114 114)).setRow w1.heap.size (aw f)).alloc (.cells Tryz.zeroCells114 114))=W2 at*;obtain ⟨g,hg⟩:∃g:Nat->Bool,g=fun i=>f i:=⟨_,rfl⟩
 have HE:Hd (aF g 128=n):=by
  show _=_;refine bM (by rw[<- aY];exact hn) fun i hi=>?_
  rw[hg,HF.o]
 have HG:Hd (∀ j,128<=j->∀i,i<128->g i=(fun k i=>decide (i<k)&&f i) j i):=by
  show ∀j,128<=j->∀i,i<128->g i=(fun k i=>decide (i<k)&&f i) j i;intro j hj i hi;have hd:decide (i<j)=true:=by simp;omega
  rw[hg];simp only[hd,Bool.true_and]
 clear hg;go_loopw [9] (fun i wr=>∃k:Nat,k<=128/\i= .int .i64 k/\Hd (In2 (fun k i=>decide (i<k)&&f i) f w w1.heap.size (w1.heap.size+1) (w.heap.size+1) k wr)) (fun i _=>128-(intOf i).toNat)
 case atStart=>exact ⟨0,om,rfl,H0⟩
 case round=>
  obtain ⟨k,hk,rfl,HK⟩:=hrel;by_cases hlt:k<128
  ·obtain ⟨r1,⟨c2,r2⟩,r3⟩:=HK.o.cells (i:=k) (j:=k) om om;exact Cs
  obtain rfl:k=128:=om;obtain ⟨-,r1,⟨x0,x1,r3⟩,r4⟩:=HK.o;have e:aw ((fun k i=>decide (i<k)&&f i) 128)=aw g:=aO fun i hi=>(HG.o 128 om i hi).symm
  rw[e] at r1;clear e;have HNUM:Hd (∀ W,Calls Tryz.prog 53 #[.agg (aw g)] W (ai W (n))):=fun W=>by rw[<- HE.o];exact bE _ W
  have HB4:=hD r4;have H3:=hD r3;clear r3 r4 HE HK H0 HG;have hRR:(aw g).size=128:=au _;generalize aw g=RR at r1 HNUM hRR;go_wp2_with (first
   |(refine wpList_load_row rfl 114 (.tmp 8) rfl (w1.heap.size+1) rfl 114 RR (0,0) _ r1 Tryz.underlying114 rfl (by rw[hRR];exact aS) ?_))
  clear r1;obtain ⟨h3,l3,e3,-,-⟩:=ae (n);have HE3:=hD e3;have HNUM2:Hd (∀ W,CR 53 #[.agg RR] W (.agg #[.int .u64 (h3:Int), .int .u64 (l3:Int)])):=fun W=>by rw[<- HE3.o];exact HNUM.o W
  have hcut:∀W,Calls Tryz.prog 24 #[aC (n), .int .i64 c] W (ai W (n%2 ^ sh c)):=fun W=>dG _ c hn W
  rw[HE3.o] at hcut;obtain ⟨h4,l4,e4,-,-⟩:=ae (n%2 ^ sh c);exact gR
theorem mq (n:Nat) (a c:Int) (hn:n<B*B) (w:World):Calls Tryz.prog 79 #[aC n, .int .i64 a, .int .i64 c] w (ai w (n*2 ^ sh a%(B*B)%2 ^ sh c)):=by
 by_cases ha:a<0
 ·have e:sh a=0:=by unfold sh;omega
  rw[e,Nat.pow_zero,Nat.mul_one,Nat.mod_eq_of_lt hn];exact rW n a ha c hn w
 obtain ⟨K,rfl⟩:∃K:Nat,a=(K:Int):=⟨a.toNat,om⟩;have e:sh (K:Int)=min K 128:=by unfold sh;omega
 rw[e,aY];exact rV n K c hn w
open Go.RowKit
def rX (a b:Nat) (c:Int):Nat:=a*2 ^ sh c%(B*B)%2 ^ sh 128 ||| b%2 ^ sh c
theorem te (a:Nat) (c:Int):a*2 ^ sh c%(B*B)%2 ^ sh 128<B*B:=
 Nat.lt_of_le_of_lt (Nat.mod_le _ _) (Nat.mod_lt _ (by rw[aY];exact Nat.two_pow_pos _))
theorem tf (b:Nat) (c:Int) (hb:b<B*B):b%2 ^ sh c<B*B:=Nat.lt_of_le_of_lt (Nat.mod_le _ _) hb
theorem yu (a b:Nat) (c:Int) (hb:b<B*B):rX a b c<B*B:=by
 have h1:=te a c;have h2:=tf b c hb;rw[aY] at*;exact Nat.or_lt_two_pow h1 h2
theorem rY (a b:Nat) (c:Int) (ha:a<B*B) (hb:b<B*B) (w:World):
 Calls Tryz.prog 124 #[aC a,aC b, .int .i64 c] w (ai w (rX a b c)):=by
 obtain ⟨fa,hfa⟩:=nm ((a*2 ^ sh c%(B*B)%2 ^ sh 128).testBit);obtain ⟨fb,hfb⟩:=nm ((b%2 ^ sh c).testBit);have hshl:∀W,Calls Tryz.prog 79 #[aC a, .int .i64 c, .int .i64 128] W (ai W (a*2 ^ sh c%(B*B)%2 ^ sh 128)):=fun W=>mq a c 128 ha W
 have hcut:∀W,Calls Tryz.prog 24 #[aC b, .int .i64 c] W (ai W (b%2 ^ sh c)):=fun W=>dG b c hb W
 have hA:∀W,Calls Tryz.prog 52 #[aC (a*2 ^ sh c%(B*B)%2 ^ sh 128)] W fun e w'=>e= .returned (.agg (aw fa))/\Bl W w':=fun W=>by rw[hfa];exact aK _ (te a c) W
 have hB:∀W,Calls Tryz.prog 52 #[aC (b%2 ^ sh c)] W fun e w'=>e= .returned (.agg (aw fb))/\Bl W w':=fun W=>by rw[hfb];exact aK _ (tf b c hb) W
 have HFA:=hD hfa;have HFB:=hD hfb;obtain ⟨h1,l1,e1,-,-⟩:=ae a;obtain ⟨h2,l2,e2,-,-⟩:=ae b;obtain ⟨h3,l3,e3,-,-⟩:=ae (a*2 ^ sh c%(B*B)%2 ^ sh 128);obtain ⟨h4,l4,e4,-,-⟩:=ae (b%2 ^ sh c);unfold ai at hshl hcut;rw[e1,e3] at hshl;rw[e2,e4] at hcut;rw[e3] at hA;rw[e4] at hB;rw[e1,e2];have HSHL:=hD hshl;have HCUT:=hD hcut;have HA:=hD hA;have HB:=hD hB;clear e1 e2 e3 e4 hfa hfb hshl hcut hA hB;have HZS:Hd ((Tryz.zeroCells114).size=128):=by
  show _=_;have hZ:Tryz.zeroCells114=aw fun _=>false:=by kernel_rfl
  rw[hZ];exact au _
 go_enter Tryz.func124,Tryz.ntmps124;go_wp2_with fail;obtain ⟨W0,hW0⟩:=nm (((w.alloc (.cells #[.int .u64 (h1:Int), .int .u64 (l1:Int)] 60)).alloc (.cells #[.int .u64 (h2:Int), .int .u64 (l2:Int)] 60)).alloc (.cells #[.int .u64 0, .int .u64 0] 60));have hbW:Bl w W0:=by rw[hW0];exact bL
 have z1:w.heap.size+1<W0.heap.size:=by rw[hW0];simp
 have z2:w.heap.size+1+1<W0.heap.size:=by rw[hW0];simp
 have c2:W0.cell? ⟨w.heap.size+1,0,none⟩=some (.int .u64 (h2:Int)):=by rw[hW0];simp[go_sem]
 have c3:W0.cell? ⟨w.heap.size+1,1,none⟩=some (.int .u64 (l2:Int)):=by rw[hW0];simp[go_sem]
 have cr:W0.heap[w.heap.size+1+1]?=some (.cells #[.int .u64 0, .int .u64 0] 60 (0,0)):=by
  exact xJ
 rw[<- hW0];have HBW0:=hD hbW;clear hW0 hbW;refine (HSHL.o _).mono ?_;rintro e w1 ⟨rfl,hb1⟩;have HB1:=hD hb1;clear hb1;go_wp2_with fail;refine (HA.o _).mono ?_;rintro e w2 ⟨rfl,hb2⟩;have HB2:=hD (HB1.o.trans (hb2.mono HB1.o.size));obtain ⟨n1,n2⟩:=rH (w:=w2) fa;have HN1:=hD n1;have HB3:Hd (Bl W0 ((w2.alloc (.cells Tryz.zeroCells114 114)).setRow w2.heap.size (aw fa))):=HB2.o.trans (n2.mono HB2.o.size);have HNW:=hD (ag w2 (.cells Tryz.zeroCells114 114));have hs2:=HB2.o.size;clear n1 n2 hb2 HB1;have d2:((w2.alloc (.cells Tryz.zeroCells114 114)).setRow w2.heap.size (aw fa)).cell? ⟨w.heap.size+1,0,none⟩=some (.int .u64 (h2:Int)):=(HB3.o.cell (p:=⟨w.heap.size+1,0,none⟩) z1).trans c2;have d3:((w2.alloc (.cells Tryz.zeroCells114 114)).setRow w2.heap.size (aw fa)).cell? ⟨w.heap.size+1,1,none⟩=some (.int .u64 (l2:Int)):=(HB3.o.cell (p:=⟨w.heap.size+1,1,none⟩) z1).trans c3;clear c2 c3;go_wp2_with (refine wpList_store_row rfl 114 (.tmp 7) (.tmp 13) rfl w2.heap.size (aw fa) rfl rfl 114 _ HNW.o (by rw[au];exact aS) (by rw[au];exact HZS.o) (ce _) ?_;clear HNW);generalize hW3:(w2.alloc (.cells Tryz.zeroCells114 114)).setRow w2.heap.size (aw fa)=W3 at*;refine (HCUT.o _).mono ?_;rintro e w4 ⟨rfl,hb4⟩;have HB4:=hD hb4;clear hb4 d2 d3 hW3;go_wp2_with fail;refine (HB.o _).mono ?_;rintro e w5 ⟨rfl,hb5⟩;have HB5:=hD (HB4.o.trans (hb5.mono HB4.o.size));obtain ⟨n1,n2⟩:=rH (w:=w5) fb;have HN2:=hD n1;have HB6:Hd (Bl W3 ((w5.alloc (.cells Tryz.zeroCells114 114)).setRow w5.heap.size (aw fb))):=HB5.o.trans (n2.mono HB5.o.size);have HNW:=hD (ag w5 (.cells Tryz.zeroCells114 114));have hs5:=HB5.o.size;have hg3:w2.heap.size<W3.heap.size:=aI HN1.o;have hs3:=HB3.o.size;clear n1 n2 hb5 HB4;go_wp2_with (refine wpList_store_row rfl 114 (.tmp 8) (.tmp 17) rfl w5.heap.size (aw fb) rfl rfl 114 _ HNW.o (by rw[au];exact aS) (by rw[au];exact HZS.o) (ce _) ?_;clear HNW);generalize hW6:(w5.alloc (.cells Tryz.zeroCells114 114)).setRow w5.heap.size (aw fb)=W6 at*;have HBW6:Hd (Bl w W6):=(HBW0.o.trans (HB3.o.mono HBW0.o.size)).trans (HB6.o.mono (by have:=HBW0.o.size;omega));have H0:Hd (OpAt or fa fb w w2.heap.size w5.heap.size 0 W6):=⟨by rw[HB6.o.block _ hg3,HN1.o];congr 2,HN2.o,⟨_,_,by rw[HB6.o.block _ om,HB3.o.block _ z2];exact cr⟩,HBW6.o⟩;have HGN:Hd (w2.heap.size≠w5.heap.size):=by show _≠_;omega
 have hgx0:w.heap.size+1+1<w2.heap.size:=om;clear hW6 HB5 HB6 HB3 HB2 HBW0 HN1 HN2 cr z1 z2 hs2 hs3 hs5 hg3 HSHL HCUT HA HB HZS;generalize w2.heap.size=gx at*;generalize w5.heap.size=gy at*;go_loopw [9] (fun i wr=>∃k:Nat,k<=128/\i= .int .i64 k/\Hd (OpAt or fa fb w gx gy k wr)) (fun i _=>128-(intOf i).toNat)
 case atStart=>exact ⟨0,zl,rfl,H0⟩
 case round=>
  obtain ⟨k,hk,rfl,HK⟩:=hrel;by_cases hlt:k<128
  ·exact Cq
  obtain rfl:k=128:=om;obtain ⟨r1,r2,⟨x0,x1,r3⟩,r4⟩:=HK.o;have e:(aw fun i=>if i<128 then or (fa i) (fb i) else fa i)=aw fun i=>or (fa i) (fb i):=aO fun i hi=>by rw[if_pos hi]
  rw[e] at r1;have HE:Hd (aF (fun i=>or (fa i) (fb i)) 128=rX a b c):=by
   show _=_;rw[HFA.o,HFB.o];refine bM (by rw[<- aY];exact yu a b c hb) fun i _=>?_
   unfold rX;simp[Nat.testBit_or]
  have HNUM:Hd (∀ W,Calls Tryz.prog 53 #[.agg (aw fun i=>or (fa i) (fb i))] W (ai W (rX a b c))):=fun W=>by rw[<- HE.o];exact bE _ W
  have HB4:=hD r4;have H3:=hD r3;clear e r2 r3 r4 HE HK H0 HGN;have hRR:(aw fun i=>or (fa i) (fb i)).size=128:=au _;generalize (aw fun i=>or (fa i) (fb i))=RR at r1 HNUM hRR;go_wp2_with (first
   |(refine wpList_load_row rfl 114 (.tmp 7) rfl gx rfl 114 RR (0,0) _ r1 Tryz.underlying114 rfl (by rw[hRR];exact aS) ?_))
  clear r1;obtain ⟨h6,l6,e3,-,-⟩:=ae (rX a b c);have HE3:=hD e3;have HNUM2:Hd (∀ W,CR 53 #[.agg RR] W (.agg #[.int .u64 (h6:Int), .int .u64 (l6:Int)])):=fun W=>by rw[<- HE3.o];exact HNUM.o W
  clear HNUM e3;refine (HNUM2.o _).mono ?_;rintro e w1 ⟨rfl,hb1⟩;have hr:=(hb1.block (w.heap.size+1+1) (aI H3.o)).trans H3.o;have q0:w1.cell? ⟨w.heap.size+1+1,0,none⟩=some x0:=by simp[World.cell?,hr]
  have q1:w1.cell? ⟨w.heap.size+1+1,1,none⟩=some x1:=by simp[World.cell?,hr]
  have qz:∀j,w1.frozen? ⟨w.heap.size+1+1,j,none⟩=false:=fun j=>by simp[World.frozen?,hr]
  have HR:=hD hr;have HB1:=hD (HB4.o.trans (hb1.mono HB4.o.size));clear hr hb1;go_wp2_with fail;have hg:=bP (.int .u64 (l6:Int)) (bQ (.int .u64 (h6:Int)) HR.o);exact bodyPost_ret (v:= .agg #[.int .u64 (h6:Int), .int .u64 (l6:Int)]) (results_cell_row Tryz.results124 _ _ (w.heap.size+1+1) _ _ _ _ (by simp[go_sem]) hg Tryz.underlying60 rfl kq) rfl ⟨by rw[HE3.o],(HB1.o.setCell (by show w.heap.size<=w.heap.size+1+1;omega) _).setCell (by show w.heap.size<=w.heap.size+1+1;omega) _⟩
end Go.Proofs.YtjfhfaodbjecdaaGreat
