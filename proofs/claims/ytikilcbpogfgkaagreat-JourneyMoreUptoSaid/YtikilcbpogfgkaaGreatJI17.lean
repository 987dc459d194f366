/- Lemmas. -/
import Derived.Test.YtikilcbpogfgkaaGreatJI12
set_option maxHeartbeats 1600000
set_option maxRecDepth 100000
namespace Go.Proofs.YtikilcbpogfgkaaGreat.Stab
variable {L:Int->Int->Bool} {a b a' b' j m s c p s0 r0 r:Nat} {e:Ent} {W w w1:World} {p0 p1 p2 p3 p4 p5:Addr} {v0 v1 v2 v3 v4 v5:Value} {l1 l2 tab:Int} {ks:List Nat}
structure Ord (L:Int->Int->Bool):Prop where
 irr:∀x,L x x=false
 tr:∀x y z,L x y=true->L y z=true->L x z=true
 tot:∀x y,x≠y->L x y=false->L y x=true
theorem Ord.asym (h:Ord L) {x y:Int} (hxy:L x y=true):L y x=false:=by
 cases hc:L y x
 ·rfl
 ·have:=h.tr _ _ _ hxy hc;rw[h.irr] at this;cases this
abbrev Fn:=Nat->Int
def Srt (L:Int->Int->Bool) (f:Fn) (a b:Nat):Prop:=∀i j,a<=i->i<j->j<b->L (f i) (f j)=true
def Same (f f':Fn) (a b:Nat):Prop:=∀x,(∃ i,a<=i/\i<b/\f i=x)↔(∃ i,a<=i/\i<b/\f' i=x)
def Outw (f f':Fn) (a b:Nat):Prop:=∀i,(i<a\/b<=i)->f' i=f i
def Apart (f:Fn) (a m b:Nat):Prop:=∀i j,a<=i->i<m->m<=j->j<b->f i<f j
def swp (f:Fn) (i j:Nat):Fn:=fun k=>if k=i then f j else if k=j then f i else f k
theorem Same.refl (f:Fn) (a b:Nat):Same f f a b:=fun _=>Iff.rfl
theorem Same.trans {f g h:Fn} (p:Same f g a b) (q:Same g h a b):Same f h a b:=fun x=>(p x).trans (q x)
theorem Same.symm {f g:Fn} (p:Same f g a b):Same g f a b:=fun x=>(p x).symm
theorem Outw.refl (f:Fn) (a b:Nat):Outw f f a b:=fun _ _=>rfl
theorem Outw.trans {f g h:Fn} (p:Outw f g a b) (q:Outw g h a b):Outw f h a b:=fun i hi=>(q i hi).trans (p i hi)
theorem Outw.more {f g:Fn} (p:Outw f g a b) (ha:a'<=a) (hb:b<=b'):Outw f g a' b':=fun i hi=>p i om
theorem Same.more {f g:Fn} (p:Same f g a b) (o:Outw f g a b) (ha:a'<=a) (hb:b<=b'):Same f g a' b':=by
 intro x;constructor
 ·rintro ⟨i,h1,h2,h3⟩;by_cases hi:a<=i/\i<b
  ·obtain ⟨k,k1,k2,k3⟩:=(p x).1 ⟨i,hi.1,hi.2,h3⟩;exact ⟨k,om,om,k3⟩
  exact ⟨i,h1,h2,(o i om).trans h3⟩
 rintro ⟨i,h1,h2,h3⟩;by_cases hi:a<=i/\i<b
 ·obtain ⟨k,k1,k2,k3⟩:=(p x).2 ⟨i,hi.1,hi.2,h3⟩;exact ⟨k,om,om,k3⟩
 exact ⟨i,h1,h2,(o i om).symm.trans h3⟩
theorem same_swp (f:Fn) {i:Nat} (hi:a<=i) (hi':i<b) (hj:a<=j) (hj':j<b):Same f (swp f i j) a b:=by
 intro x;constructor
 ·rintro ⟨k,h1,h2,h3⟩;by_cases e1:k=i
  ·subst e1;by_cases e2:k=j
   ·subst e2;exact ⟨k,h1,h2,by simp[swp,h3]⟩
   exact ⟨j,hj,hj',by unfold swp;rw[if_neg om,if_pos rfl];exact h3⟩
  by_cases e2:k=j
  ·subst e2;exact ⟨i,hi,hi',by unfold swp;rw[if_pos rfl];exact h3⟩
  exact ⟨k,h1,h2,by unfold swp;rw[if_neg e1,if_neg e2];exact h3⟩
 rintro ⟨k,h1,h2,h3⟩;unfold swp at h3;by_cases e1:k=i
 ·rw[if_pos e1] at h3;exact ⟨j,hj,hj',h3⟩
 by_cases e2:k=j
 ·rw[if_neg e1,if_pos e2] at h3;exact ⟨i,hi,hi',h3⟩
 rw[if_neg e1,if_neg e2] at h3;exact ⟨k,h1,h2,h3⟩
theorem out_swp (f:Fn) {i:Nat} (hi:a<=i) (hi':i<b) (hj:a<=j) (hj':j<b):Outw f (swp f i j) a b:=fun k hk=>by
 unfold swp;rw[if_neg om,if_neg om]
theorem Apart.of_same {f f':Fn} (h:Apart f a m b) (p:Same f f' a m) (q:Same f f' m b):Apart f' a m b:=by
 intro i j h1 h2 h3 h4;obtain ⟨i',p1,p2,p3⟩:=(p _).2 ⟨i,h1,h2,rfl⟩;obtain ⟨j',q1,q2,q3⟩:=(q _).2 ⟨j,h3,h4,rfl⟩;rw[<- p3, <-q3];exact h i' j' p1 p2 q1 q2
structure Ins (L:Int->Int->Bool) (f0 f:Fn) (a i:Nat):Prop where
 srt:Srt L f a i
 same:Same f0 f a i
 o:Outw f0 f a i
structure InsI (L:Int->Int->Bool) (f0 f:Fn) (a i j:Nat):Prop where
 haj:a<=j
 hji:j<=i
 lo:∀p q,a<=p->p<q->q<=i->p≠j->q≠j->L (f p) (f q)=true
 hi:∀q,j<q->q<=i->L (f j) (f q)=true
 less:∀p,a<=p->p<=i->p≠j->f p<f j
 same:Same f0 f a (i+1)
 o:Outw f0 f a (i+1)
theorem Ins.start (L:Int->Int->Bool) (f:Fn) (a:Nat):Ins L f f a (a+1):=⟨fun i j h1 h2 h3=>by omega,Same.refl _ _ _,Outw.refl _ _ _⟩
theorem Ins.inner {f0 f:Fn} {i:Nat} (h:Ins L f0 f a i) (ha:a<=i) (hi:i<b) (hasc:∀p q,a<=p->p<q->q<b->f0 p<f0 q):InsI L f0 f a i i where
 haj:=ha
 hji:=Nat.le_refl _
 lo:=fun p q h1 h2 h3 h4 h5=>h.srt p q h1 h2 om
 hi:=fun q h1 h2=>by omega
 less:=fun p h1 h2 h3=>by
  obtain ⟨k,k1,k2,k3⟩:=(h.same _).2 ⟨p,h1,om,rfl⟩;rw[<- k3,h.o i om];exact hasc k i k1 k2 hi
 same:=h.same.more h.o lr om
 o:=h.o.more lr om
theorem InsI.step {f0 f:Fn} {i:Nat} (h:InsI L f0 f a i j) (hj:a<j) (hL:L (f j) (f (j-1))=true) (_hO:Ord L):InsI L f0 (swp f j (j-1)) a i (j-1) where
 haj:=om
 hji:=by have:=h.hji;omega
 lo:=fun p q h1 h2 h3 h4 h5=>by
  have hji:=h.hji;unfold swp;by_cases e1:p=j
  ·rw[if_pos e1,if_neg om,if_neg h5];exact h.lo (j-1) q om om h3 om om
  ·rw[if_neg e1,if_neg h4];by_cases e2:q=j
   ·rw[if_pos e2];exact h.lo p (j-1) h1 om om e1 om
   ·rw[if_neg e2,if_neg h5];exact h.lo p q h1 h2 h3 e1 e2
 hi:=fun q h1 h2=>by
  have hji:=h.hji;unfold swp;rw[if_neg om,if_pos rfl];by_cases e2:q=j
  ·rw[if_pos e2];exact hL
  ·rw[if_neg e2,if_neg om];exact h.hi q om h2
 less:=fun p h1 h2 h3=>by
  have hji:=h.hji;have e:swp f j (j-1) (j-1)=f j:=by unfold swp;rw[if_neg om,if_pos rfl]
  rw[e];unfold swp;by_cases e1:p=j
  ·rw[if_pos e1];exact h.less (j-1) om om om
  ·rw[if_neg e1,if_neg h3];exact h.less p h1 h2 e1
 same:=by have hji:=h.hji;exact h.same.trans (same_swp f om om om om)
 o:=by have hji:=h.hji;exact h.o.trans (out_swp f om om om om)
theorem InsI.done {f0 f:Fn} {i:Nat} (h:InsI L f0 f a i j) (hO:Ord L) (hs:j<=a\/L (f j) (f (j-1))=false):Ins L f0 f a (i+1) where
 srt:=fun p q h1 h2 h3=>by
  by_cases e1:p=j
  ·subst e1;exact h.hi q h2 om
  ·by_cases e2:q=j
   ·subst e2;rcases hs with hs|hs
    ·omega
    ·have hl:=h.less (q-1) om om om;have h4:L (f (q-1)) (f q)=true:=hO.tot _ _ om hs;by_cases e3:p=q-1
     ·rw[e3];exact h4
     ·exact hO.tr _ _ _ (h.lo p (q-1) h1 om om om om) h4
   ·exact h.lo p q h1 h2 om e1 e2
 same:=h.same
 o:=h.o
def swr (f:Fn) (a b n:Nat):Fn:=fun k=>if a<=k/\k<a+n then f (k-a+b) else if b<=k/\k<b+n then f (k-b+a) else f k
def rot (f:Fn) (a m b:Nat):Fn:=fun k=>if a<=k/\k<a+(b-m) then f (k-a+m) else if a+(b-m)<=k/\k<b then f (k-(a+(b-m))+a) else f k
theorem swr_zero (f:Fn) (a b:Nat):swr f a b 0=f:=by
 funext k;unfold swr;rw[if_neg om,if_neg om]
theorem swr_succ (f:Fn) (a b n:Nat) (h:a+n<b):swp (swr f a b n) (a+n) (b+n)=swr f a b (n+1):=by
 funext k;unfold swp swr;by_cases h1:k=a+n
 ·subst h1;rw[if_pos rfl,if_neg om,if_neg om,if_pos om];congr 1;omega
 by_cases h2:k=b+n
 ·subst h2;rw[if_neg h1,if_pos rfl,if_neg om,if_neg om,if_neg om,if_pos om];congr 1;omega
 rw[if_neg h1,if_neg h2];by_cases h3:a<=k/\k<a+n
 ·rw[if_pos h3,if_pos om]
 rw[if_neg h3];by_cases h4:b<=k/\k<b+n
 ·rw[if_pos h4,if_neg om,if_pos om]
 rw[if_neg h4,if_neg om,if_neg om]
theorem rot_gt (f:Fn) (m i j:Nat) (him:i<=m) (h:j<i):rot (swr f (m-i) m j) (m-(i-j)) m (m+j)=rot f (m-i) m (m+j):=by
 funext k;unfold rot;by_cases h1:m-i<=k/\k<m-i+j
 ·have e:(if m-i<=k/\k<m-i+(m+j-m) then f (k-(m-i)+m) else if m-i+(m+j-m)<=k/\k<m+j then f (k-(m-i+(m+j-m))+(m-i)) else f k)=f (k-(m-i)+m):=by rw[if_pos om]
  rw[e,if_neg om,if_neg om];unfold swr;rw[if_pos om]
 by_cases h2:m-i+j<=k/\k<m+j
 ·have e:(if m-i<=k/\k<m-i+(m+j-m) then f (k-(m-i)+m) else if m-i+(m+j-m)<=k/\k<m+j then f (k-(m-i+(m+j-m))+(m-i)) else f k)=f (k-(m-i+(m+j-m))+(m-i)):=by rw[if_neg om,if_pos om]
  rw[e];by_cases h3:k<m-(i-j)+j
  ·rw[if_pos om];unfold swr;rw[if_neg om,if_pos om];congr 1;omega
  rw[if_neg om,if_pos om];unfold swr;rw[if_neg om,if_neg om];congr 1;omega
 exact gJ2
theorem rot_lt (f:Fn) (m i j:Nat) (him:i<=m) (h:i<j):rot (swr f (m-i) (m+j-i) i) (m-i) m (m+(j-i))=rot f (m-i) m (m+j):=by
 funext k;unfold rot;by_cases h1:m-i<=k/\k<m-i+j
 ·have e:(if m-i<=k/\k<m-i+(m+j-m) then f (k-(m-i)+m) else if m-i+(m+j-m)<=k/\k<m+j then f (k-(m-i+(m+j-m))+(m-i)) else f k)=f (k-(m-i)+m):=by rw[if_pos om]
  rw[e];by_cases h3:k<m-i+(j-i)
  ·rw[if_pos om];unfold swr;rw[if_neg om,if_neg om]
  rw[if_neg om];by_cases h4:k<m+(j-i)
  ·rw[if_pos om];unfold swr;rw[if_pos om];congr 1;omega
  omega
 by_cases h2:m-i+j<=k/\k<m+j
 ·have e:(if m-i<=k/\k<m-i+(m+j-m) then f (k-(m-i)+m) else if m-i+(m+j-m)<=k/\k<m+j then f (k-(m-i+(m+j-m))+(m-i)) else f k)=f (k-(m-i+(m+j-m))+(m-i)):=by rw[if_neg om,if_pos om]
  rw[e,if_neg om,if_neg om];unfold swr;rw[if_neg om,if_pos om];congr 1;omega
 exact gJ2
theorem rot_eq (f:Fn) (m i:Nat) (him:i<=m):swr f (m-i) m i=rot f (m-i) m (m+i):=by
 funext k;unfold rot swr;by_cases h1:m-i<=k/\k<m-i+i
 ·rw[if_pos h1,if_pos om]
 rw[if_neg h1];by_cases h2:m<=k/\k<m+i
 ·rw[if_pos h2,if_neg om,if_pos om];congr 1;omega
 rw[if_neg h2,if_neg om,if_neg om]
theorem same_rot (f:Fn) (h1:a<=m) (h2:m<=b):Same f (rot f a m b) a b:=by
 intro x;constructor
 ·rintro ⟨k,k1,k2,k3⟩;by_cases hk:k<m
  ·refine ⟨k-a+(a+(b-m)),om,om,?_⟩;unfold rot;rw[if_neg om,if_pos om, <-k3];congr 1;omega
  refine ⟨k-m+a,om,om,?_⟩;unfold rot;rw[if_pos om, <-k3];congr 1;omega
 rintro ⟨k,k1,k2,k3⟩;unfold rot at k3;by_cases hk:k<a+(b-m)
 ·rw[if_pos om] at k3;exact ⟨_,om,om,k3⟩
 rw[if_neg om,if_pos om] at k3;exact ⟨_,om,om,k3⟩
theorem out_rot (f:Fn) (h1:a<=m) (h2:m<=b):Outw f (rot f a m b) a b:=fun k hk=>by
 unfold rot;rw[if_neg om,if_neg om]
structure Mrg (L:Int->Int->Bool) (f:Fn) (a m b:Nat):Prop where
 am:a<m
 mb:m<b
 s1:Srt L f a m
 s2:Srt L f m b
 ap:Apart f a m b
structure MrgOk (L:Int->Int->Bool) (f f':Fn) (a b:Nat):Prop where
 srt:Srt L f' a b
 same:Same f f' a b
 o:Outw f f' a b
theorem Ins.last {f g:Fn} {i:Nat} (h:Ins L f g a i) (hi:i=b\/(i=a+1/\b<=i)) (hab:a<=b):MrgOk L f g a b:=by
 by_cases e:i=b
 ·subst e;exact ⟨h.srt,h.same,h.o⟩
 obtain rfl:b=a:=om;obtain rfl:i=b+1:=om;refine ⟨fun p q h1 h2 h3=>by omega,fun x=>⟨fun ⟨k,h1,h2,_⟩=>by omega,fun ⟨k,h1,h2,_⟩=>by omega⟩,fun k hk=>?_⟩;by_cases e2:k=b
 ·subst e2;obtain ⟨q,q1,q2,q3⟩:=(h.same (f k)).1 ⟨k,Nat.le_refl _,om,rfl⟩;obtain rfl:q=k:=om;exact q3
 exact h.o k om
def mvR (f:Fn) (a k:Nat):Fn:=fun p=>if a<=p/\p<k then f (p+1) else if p=k then f a else f p
theorem mvR_zero (f:Fn) (a:Nat):mvR f a a=f:=by
 funext p;unfold mvR;rw[if_neg om];by_cases h:p=a
 ·rw[if_pos h,h]
 rw[if_neg h]
theorem mvR_succ (f:Fn) (a k:Nat) (h:a<=k):swp (mvR f a k) k (k+1)=mvR f a (k+1):=by
 funext p;unfold swp mvR;by_cases h1:p=k
 ·rw[if_pos h1,if_neg om,if_neg om,if_pos om,h1]
 rw[if_neg h1];by_cases h2:p=k+1
 ·rw[if_pos h2,if_neg om,if_pos rfl,if_neg om,if_pos h2]
 rw[if_neg h2];by_cases h3:a<=p/\p<k
 ·rw[if_pos h3,if_pos om]
 rw[if_neg h3,if_neg om,if_neg om,if_neg h2]
def mvL (f:Fn) (m k:Nat):Fn:=fun p=>if k<p/\p<=m then f (p-1) else if p=k then f m else f p
theorem mvL_zero (f:Fn) (m:Nat):mvL f m m=f:=by
 funext p;unfold mvL;rw[if_neg om];by_cases h:p=m
 ·rw[if_pos h,h]
 rw[if_neg h]
theorem mvL_succ (f:Fn) (m k:Nat) (h:k<=m) (h0:0<k):swp (mvL f m k) k (k-1)=mvL f m (k-1):=by
 funext p;unfold swp mvL;by_cases h1:p=k
 ·rw[if_pos h1,if_neg om,if_neg om,if_pos om,h1]
 rw[if_neg h1];by_cases h2:p=k-1
 ·rw[if_pos h2,if_neg om,if_pos rfl,if_neg om,if_pos h2]
 rw[if_neg h2];by_cases h3:k<p/\p<=m
 ·rw[if_pos h3,if_pos om]
 rw[if_neg h3,if_neg om,if_neg om,if_neg h2]
theorem Mrg.one {f:Fn} {i:Nat} (h:Mrg L f a (a+1) b) (hO:Ord L) (hi:a+1<=i) (hib:i<=b)
 (h1:∀k,a+1<=k->k<i->L (f k) (f a)=true) (h2:∀k,i<=k->k<b->L (f k) (f a)=false):MrgOk L f (mvR f a (i-1)) a b where
 srt:=fun p q p1 p2 p3=>by
  have hgt:∀k,i<=k->k<b->L (f a) (f k)=true:=fun k k1 k2=>hO.tot _ _ (by have:=h.ap a k lr om om k2;omega) (h2 k k1 k2)
  unfold mvR;by_cases e1:p<i-1
  ·rw[if_pos ⟨p1,e1⟩];by_cases e2:q<i-1
   ·rw[if_pos om];exact h.s2 _ _ om om om
   ·rw[if_neg om];by_cases e3:q=i-1
    ·rw[if_pos e3];exact h1 _ om om
    ·rw[if_neg e3];exact h.s2 _ _ om om om
  ·rw[if_neg (show ¬(a<=p/\p<i-1) by omega),if_neg (show ¬(a<=q/\q<i-1) by omega),if_neg (show ¬q=i-1 by omega)];by_cases e3:p=i-1
   ·rw[if_pos e3];exact hgt q om om
   ·rw[if_neg e3];exact h.s2 _ _ om p2 om
 same:=fun x=>by
  constructor
  ·rintro ⟨k,k1,k2,k3⟩;by_cases e:k=a
   ·exact ⟨i-1,om,om,by unfold mvR;rw[if_neg om,if_pos rfl, <-e];exact k3⟩
   ·by_cases e2:k<i
    ·exact ⟨k-1,om,om,by unfold mvR;rw[if_pos om, <-k3];congr 1;omega⟩
    ·exact ⟨k,om,om,by unfold mvR;rw[if_neg om,if_neg om];exact k3⟩
  ·rintro ⟨k,k1,k2,k3⟩;unfold mvR at k3;by_cases e1:k<i-1
   ·rw[if_pos om] at k3;exact ⟨_,om,om,k3⟩
   ·rw[if_neg om] at k3;by_cases e2:k=i-1
    ·rw[if_pos e2] at k3;exact ⟨a,om,by have:=h.mb;omega,k3⟩
    ·rw[if_neg e2] at k3;exact ⟨k,k1,k2,k3⟩
 o:=fun k hk=>by unfold mvR;rw[if_neg om,if_neg om]
theorem Mrg.oneR {f:Fn} {i:Nat} (h:Mrg L f a m (m+1)) (hO:Ord L) (hi:a<=i) (him:i<=m)
 (h1:∀k,a<=k->k<i->L (f m) (f k)=false) (h2:∀k,i<=k->k<m->L (f m) (f k)=true):MrgOk L f (mvL f m i) a (m+1) where
 srt:=fun p q p1 p2 p3=>by
  have hgt:∀k,a<=k->k<i->L (f k) (f m)=true:=fun k k1 k2=>hO.tot _ _ (by have:=h.ap k m k1 om lr om;omega) (h1 k k1 k2)
  unfold mvL;by_cases e1:i<q
  ·rw[if_pos (show i<q/\q<=m by omega)];by_cases e2:i<p
   ·rw[if_pos om];exact h.s1 _ _ om om om
   ·rw[if_neg om];by_cases e3:p=i
    ·rw[if_pos e3];exact h2 _ om om
    ·rw[if_neg e3];exact h.s1 _ _ om om om
  ·rw[if_neg (show ¬(i<p/\p<=m) by omega),if_neg (show ¬(i<q/\q<=m) by omega),if_neg (show ¬p=i by omega)];by_cases e3:q=i
   ·rw[if_pos e3];exact hgt p om om
   ·rw[if_neg e3];exact h.s1 _ _ om p2 om
 same:=fun x=>by
  have ham:=h.am;constructor
  ·rintro ⟨k,k1,k2,k3⟩;by_cases e:k=m
   ·exact ⟨i,om,om,by unfold mvL;rw[if_neg om,if_pos rfl, <-e];exact k3⟩
   ·by_cases e2:i<=k
    ·exact ⟨k+1,om,om,by unfold mvL;rw[if_pos om, <-k3];congr 1⟩
    ·exact ⟨k,om,om,by unfold mvL;rw[if_neg om,if_neg om];exact k3⟩
  ·rintro ⟨k,k1,k2,k3⟩;unfold mvL at k3;by_cases e1:i<k
   ·rw[if_pos om] at k3;exact ⟨_,om,om,k3⟩
   ·rw[if_neg om] at k3;by_cases e2:k=i
    ·rw[if_pos e2] at k3;exact ⟨m,om,om,k3⟩
    ·rw[if_neg e2] at k3;exact ⟨k,k1,k2,k3⟩
 o:=fun k hk=>by unfold mvL;rw[if_neg om,if_neg om]
structure Cut (L:Int->Int->Bool) (f:Fn) (a m b s e:Nat):Prop where
 las:a<=s
 sm:s<=m
 me:m<=e
 eb:e<=b
 up:s<m->m<e->L (f (e-1)) (f s)=true
 dn:a<s->e<b->L (f e) (f (s-1))=false
theorem Cut.halves {f:Fn} {e:Nat} (c:Cut L f a m b s e) (h:Mrg L f a m b) (hO:Ord L):
 (a<s->s<s+(e-m)->Mrg L (rot f s m e) a s (s+(e-m)))/\(s+(e-m)<e->e<b->Mrg L (rot f s m e) (s+(e-m)) e b)/\
 (s=a->Srt L (rot f s m e) a (s+(e-m)))/\(e=m->Srt L (rot f s m e) a (s+(e-m)))/\
 (e=b->Srt L (rot f s m e) (s+(e-m)) b)/\(s=m->Srt L (rot f s m e) (s+(e-m)) b)/\
 (∀ i j,a<=i->i<s+(e-m)->s+(e-m)<=j->j<b->L (rot f s m e i) (rot f s m e j)=true):=by
 have ham:=h.am;have hmb:=h.mb;have has:=c.las;have hsm:=c.sm;have hme:=c.me;have heb:=c.eb;have r1:∀k,k<s->rot f s m e k=f k:=fun k hk=>by unfold rot;rw[if_neg om,if_neg om]
 have r2:∀k,s<=k->k<s+(e-m)->rot f s m e k=f (k-s+m):=fun k h1 h2=>by unfold rot;rw[if_pos om]
 have r3:∀k,s+(e-m)<=k->k<e->rot f s m e k=f (k-(s+(e-m))+s):=fun k h1 h2=>by unfold rot;rw[if_neg om,if_pos om]
 have r4:∀k,e<=k->rot f s m e k=f k:=fun k hk=>by unfold rot;rw[if_neg om,if_neg om]
 have S1:Srt L (rot f s m e) a s:=fun p q p1 p2 p3=>by rw[r1 p om,r1 q p3];exact h.s1 p q p1 p2 om
 have S2:Srt L (rot f s m e) s (s+(e-m)):=fun p q p1 p2 p3=>by rw[r2 p p1 om,r2 q om p3];exact h.s2 _ _ om om om
 have S3:Srt L (rot f s m e) (s+(e-m)) e:=fun p q p1 p2 p3=>by rw[r3 p p1 om,r3 q om p3];exact h.s1 _ _ om om om
 have S4:Srt L (rot f s m e) e b:=fun p q p1 p2 p3=>by rw[r4 p p1,r4 q om];exact h.s2 _ _ om om om
 have B13:∀i j,a<=i->i<s->s<=j->j<m->L (f i) (f j)=true:=fun i j h1 h2 h3 h4=>h.s1 i j h1 om h4
 have B24:∀i j,m<=i->i<e->e<=j->j<b->L (f i) (f j)=true:=fun i j h1 h2 h3 h4=>h.s2 i j h1 om h4
 have B23:∀i j,m<=i->i<e->s<=j->j<m->L (f i) (f j)=true:=fun i j h1 h2 h3 h4=>by
  have u:=c.up om om;have x1:i=e-1\/L (f i) (f (e-1))=true:=by
   by_cases e1:i=e-1
   ·exact .inl e1
   ·exact .inr (h.s2 i (e-1) h1 om om)
  have x2:j=s\/L (f s) (f j)=true:=by
   by_cases e1:j=s
   ·exact .inl e1
   ·exact .inr (h.s1 s j om om h4)
  have y1:L (f i) (f s)=true:=by
   rcases x1 with rfl|x1
   ·exact u
   ·exact hO.tr _ _ _ x1 u
  rcases x2 with rfl|x2
  ·exact y1
  ·exact hO.tr _ _ _ y1 x2
 have B14:∀i j,a<=i->i<s->e<=j->j<b->L (f i) (f j)=true:=fun i j h1 h2 h3 h4=>by
  have d:=c.dn om om;have u:L (f (s-1)) (f e)=true:=hO.tot _ _ (by have:=h.ap (s-1) e om om om om;omega) d;have x1:i=s-1\/L (f i) (f (s-1))=true:=by
   by_cases e1:i=s-1
   ·exact .inl e1
   ·exact .inr (h.s1 i (s-1) h1 om om)
  have x2:j=e\/L (f e) (f j)=true:=by
   by_cases e1:j=e
   ·exact .inl e1
   ·exact .inr (h.s2 e j om om h4)
  have y1:L (f i) (f e)=true:=by
   rcases x1 with rfl|x1
   ·exact u
   ·exact hO.tr _ _ _ x1 u
  rcases x2 with rfl|x2
  ·exact y1
  ·exact hO.tr _ _ _ y1 x2
 refine ⟨fun h1 h2=>⟨h1,h2,S1,S2,fun i j i1 i2 j1 j2=>?_⟩,fun h1 h2=>⟨h1,h2,S3,S4,fun i j i1 i2 j1 j2=>?_⟩,fun e1=>?_,fun e1=>?_,fun e1=>?_,fun e1=>?_,fun i j i1 i2 j1 j2=>?_⟩
 ·rw[r1 i om,r2 j j1 j2];exact h.ap _ _ i1 om om om
 ·rw[r3 i i1 i2,r4 j j1];exact h.ap _ _ om om om om
 ·subst e1;exact S2
 ·have:s+(e-m)=s:=om;rw[this];exact S1
 ·rw[<- e1];exact S3
 ·have:s+(e-m)=e:=om;rw[this];exact S4
 by_cases k1:i<s
 ·rw[r1 i k1];by_cases k2:j<e
  ·rw[r3 j j1 k2];exact B13 _ _ i1 k1 om om
  rw[r4 j om];exact B14 _ _ i1 k1 om j2
 rw[r2 i om i2];by_cases k2:j<e
 ·rw[r3 j j1 k2];exact B23 _ _ om om om om
 rw[r4 j om];exact B24 _ _ om om om j2
theorem MrgOk.join {f g g1 g2:Fn} (hac:a<=c) (hcb:c<=b) (hsame:Same f g a b) (hout:Outw f g a b)
 (hx:∀i j,a<=i->i<c->c<=j->j<b->L (g i) (g j)=true) (h1:MrgOk L g g1 a c) (h2:MrgOk L g1 g2 c b):MrgOk L f g2 a b where
 srt:=fun i j i1 i2 i3=>by
  by_cases k1:j<c
  ·rw[h2.o i om,h2.o j om];exact h1.srt i j i1 i2 k1
  ·by_cases k2:c<=i
   ·exact h2.srt i j k2 i2 i3
   ·obtain ⟨p,p1,p2,p3⟩:=(h1.same _).2 ⟨i,i1,om,rfl⟩;obtain ⟨q,q1,q2,q3⟩:=(h2.same _).2 ⟨j,om,i3,rfl⟩;rw[h2.o i om, <-p3, <-q3,h1.o q om];exact hx p q p1 p2 q1 q2
 same:=hsame.trans ((h1.same.more h1.o lr hcb).trans (h2.same.more h2.o hac lr))
 o:=hout.trans ((h1.o.more lr hcb).trans (h2.o.more hac lr))
theorem MrgOk.none {g:Fn} (h:Srt L g a c):MrgOk L g g a c:=⟨h,Same.refl _ _ _,Outw.refl _ _ _⟩
structure Srch (L:Int->Int->Bool) (f:Fn) (p s0 r0 s r:Nat):Prop where
 h1:s0<=s
 h2:s<=r
 h3:r<=r0
 lo:s0<s->L (f (p-(s-1))) (f (s-1))=false
 hi:r<r0->L (f (p-r)) (f r)=true
theorem Srch.start (L:Int->Int->Bool) (f:Fn) (p s0 r0:Nat) (h:s0<=r0):Srch L f p s0 r0 s0 r0:=⟨Nat.le_refl _,h,Nat.le_refl _,fun h=>absurd h (Nat.lt_irrefl _),fun h=>absurd h (Nat.lt_irrefl _)⟩
theorem Srch.right {f:Fn} (h:Srch L f p s0 r0 s r) (h1:s<=c) (h2:c<r) (hc:L (f (p-c)) (f c)=false):Srch L f p s0 r0 (c+1) r:=
 ⟨by have:=h.h1;omega,om,h.h3,fun _=>hc,h.hi⟩
theorem Srch.left {f:Fn} (h:Srch L f p s0 r0 s r) (h1:s<=c) (h2:c<r) (hc:L (f (p-c)) (f c)=true):Srch L f p s0 r0 s c:=
 ⟨h.h1,h1,by have:=h.h3;omega,h.lo,fun _=>hc⟩
theorem Srch.cut {f:Fn} {mid:Nat} (ham:a<m) (hmb:m<b) (hmid:mid=(a+b)/2) (h0:(mid<m/\s0=mid+m-b/\r0=mid)\/(m<=mid/\s0=a/\r0=m)) (h:Srch L f (mid+m-1) s0 r0 s s):
 Cut L f a m b s (mid+m-s)/\s+(mid+m-s-m)=mid/\s<=mid:=by
 obtain ⟨h1,-,h3,lo,hi⟩:=h;refine ⟨⟨om,om,om,om,fun k1 k2=>?_,fun k1 k2=>?_⟩,om,om⟩
 ·have:=hi om;rw[show mid+m-s-1=mid+m-1-s by omega];exact this
 have:=lo om;rw[show mid+m-s=mid+m-1-(s-1) by omega];exact this
end Go.Proofs.YtikilcbpogfgkaaGreat.Stab
namespace Go.Proofs.YtikilcbpogfgkaaGreat
open Go.RowKit
variable {L:Int->Int->Bool} {a b a' b' j m s c p s0 r0 r:Nat} {e:Ent} {W w w1:World} {p0 p1 p2 p3 p4 p5:Addr} {v0 v1 v2 v3 v4 v5:Value} {l1 l2 tab:Int} {ks:List Nat}
theorem cell?_some_after {p r:Addr} (a:Value) (h:∃x,W.cell? p=some x):∃x,(W.setCell r a).cell? p=some x:=by
 obtain ⟨x,hx⟩:=h;by_cases e:p=r
 ·subst e;exact ⟨a,World.cell?_setCell_same _ _ _ hx⟩
 exact ⟨x,(World.cell?_setCell_other _ _ _ _ (fun q=>e q.symm)).trans hx⟩
theorem cell?_apart {p:Addr} {g:Nat} {a v:Value} (h:p.block≠g) (hc:W.cell? p=some v):(W.setCell ⟨g,j,none⟩ a).cell? p=some v:=
 (World.cell?_setCell_other _ _ _ _ (fun q=>h (by rw[<- q]))).trans hc
theorem held_6_0 (hb:Bl W w1) (h:Bl w W/\W.cell? p0=some v0/\W.cell? p1=some v1/\W.cell? p2=some v2/\W.cell? p3=some v3/\W.cell? p4=some v4/\W.cell? p5=some v5):
 Bl w w1/\w1.cell? p0=some v0/\w1.cell? p1=some v1/\w1.cell? p2=some v2/\w1.cell? p3=some v3/\w1.cell? p4=some v4/\w1.cell? p5=some v5:=by
 obtain ⟨q,q0,q1,q2,q3,q4,q5⟩:=h;exact ⟨q.trans (hb.mono q.size),(hb.cell (cell_there q0).1).trans q0,(hb.cell (cell_there q1).1).trans q1,(hb.cell (cell_there q2).1).trans q2,(hb.cell (cell_there q3).1).trans q3,(hb.cell (cell_there q4).1).trans q4,(hb.cell (cell_there q5).1).trans q5⟩
theorem held_4_0 (hb:Bl W w1) (h:Bl w W/\W.cell? p0=some v0/\W.cell? p1=some v1/\W.cell? p2=some v2/\W.cell? p3=some v3):
 Bl w w1/\w1.cell? p0=some v0/\w1.cell? p1=some v1/\w1.cell? p2=some v2/\w1.cell? p3=some v3:=by
 obtain ⟨q,q0,q1,q2,q3⟩:=h;exact ⟨q.trans (hb.mono q.size),(hb.cell (cell_there q0).1).trans q0,(hb.cell (cell_there q1).1).trans q1,(hb.cell (cell_there q2).1).trans q2,(hb.cell (cell_there q3).1).trans q3⟩
theorem held_4_2 {g:Nat} (hb:Bl W w1) (h:Bl w W/\W.cell? p0=some v0/\W.cell? p1=some v1/\W.cell? p2=some v2/\W.cell? p3=some v3/\(∃ x,W.cell? ⟨g,0,none⟩=some x)/\(∃ x,W.cell? ⟨g,1,none⟩=some x)/\W.frozen? ⟨g,0,none⟩=false/\W.frozen? ⟨g,1,none⟩=false):
 Bl w w1/\w1.cell? p0=some v0/\w1.cell? p1=some v1/\w1.cell? p2=some v2/\w1.cell? p3=some v3/\(∃ x,w1.cell? ⟨g,0,none⟩=some x)/\(∃ x,w1.cell? ⟨g,1,none⟩=some x)/\w1.frozen? ⟨g,0,none⟩=false/\w1.frozen? ⟨g,1,none⟩=false:=by
 obtain ⟨q,q0,q1,q2,q3,⟨x0,z0⟩,⟨x1,z1⟩,f0,f1⟩:=h;exact ⟨q.trans (hb.mono q.size),(hb.cell (cell_there q0).1).trans q0,(hb.cell (cell_there q1).1).trans q1,(hb.cell (cell_there q2).1).trans q2,(hb.cell (cell_there q3).1).trans q3,⟨x0,(hb.cell (cell_there z0).1).trans z0⟩,⟨x1,(hb.cell (cell_there z1).1).trans z1⟩,(hb.frozen (cell_there z0).1).trans f0,(hb.frozen (cell_there z1).1).trans f1⟩
theorem heldset_4_2 {g:Nat} (a0 a1:Value) (hg:w.heap.size<=g) (hn:p0.block≠g/\p1.block≠g/\p2.block≠g/\p3.block≠g) (h:Bl w W/\W.cell? p0=some v0/\W.cell? p1=some v1/\W.cell? p2=some v2/\W.cell? p3=some v3/\(∃ x,W.cell? ⟨g,0,none⟩=some x)/\(∃ x,W.cell? ⟨g,1,none⟩=some x)/\W.frozen? ⟨g,0,none⟩=false/\W.frozen? ⟨g,1,none⟩=false):
 Bl w ((W.setCell ⟨g,0,none⟩ a0).setCell ⟨g,1,none⟩ a1)/\((W.setCell ⟨g,0,none⟩ a0).setCell ⟨g,1,none⟩ a1).cell? p0=some v0/\((W.setCell ⟨g,0,none⟩ a0).setCell ⟨g,1,none⟩ a1).cell? p1=some v1/\((W.setCell ⟨g,0,none⟩ a0).setCell ⟨g,1,none⟩ a1).cell? p2=some v2/\((W.setCell ⟨g,0,none⟩ a0).setCell ⟨g,1,none⟩ a1).cell? p3=some v3/\(∃ x,((W.setCell ⟨g,0,none⟩ a0).setCell ⟨g,1,none⟩ a1).cell? ⟨g,0,none⟩=some x)/\(∃ x,((W.setCell ⟨g,0,none⟩ a0).setCell ⟨g,1,none⟩ a1).cell? ⟨g,1,none⟩=some x)/\((W.setCell ⟨g,0,none⟩ a0).setCell ⟨g,1,none⟩ a1).frozen? ⟨g,0,none⟩=false/\((W.setCell ⟨g,0,none⟩ a0).setCell ⟨g,1,none⟩ a1).frozen? ⟨g,1,none⟩=false:=by
 obtain ⟨q,q0,q1,q2,q3,⟨x0,z0⟩,⟨x1,z1⟩,f0,f1⟩:=h;obtain ⟨d0,d1,d2,d3⟩:=hn;refine ⟨((q.setCell (by exact hg) _).setCell (by exact hg) _),(cell?_apart d0 (cell?_apart d0 q0)),(cell?_apart d1 (cell?_apart d1 q1)),(cell?_apart d2 (cell?_apart d2 q2)),(cell?_apart d3 (cell?_apart d3 q3)),?_,?_,?_,?_⟩
 ·exact cell?_some_after _ (cell?_some_after _ (⟨x0,z0⟩))
 ·exact cell?_some_after _ (cell?_some_after _ (⟨x1,z1⟩))
 ·simp only[World.frozen?_setCell];exact f0
 simp only[World.frozen?_setCell];exact f1
theorem held_2_0 (hb:Bl W w1) (h:Bl w W/\W.cell? p0=some v0/\W.cell? p1=some v1):
 Bl w w1/\w1.cell? p0=some v0/\w1.cell? p1=some v1:=by
 obtain ⟨q,q0,q1⟩:=h;exact ⟨q.trans (hb.mono q.size),(hb.cell (cell_there q0).1).trans q0,(hb.cell (cell_there q1).1).trans q1⟩
theorem held_13_0 {p6 p7 p8 p9 p10 p11 p12:Addr} {v6 v7 v8 v9 v10 v11 v12:Value} (hb:Bl W w1) (h:Bl w W/\W.cell? p0=some v0/\W.cell? p1=some v1/\W.cell? p2=some v2/\W.cell? p3=some v3/\W.cell? p4=some v4/\W.cell? p5=some v5/\W.cell? p6=some v6/\W.cell? p7=some v7/\W.cell? p8=some v8/\W.cell? p9=some v9/\W.cell? p10=some v10/\W.cell? p11=some v11/\W.cell? p12=some v12):
 Bl w w1/\w1.cell? p0=some v0/\w1.cell? p1=some v1/\w1.cell? p2=some v2/\w1.cell? p3=some v3/\w1.cell? p4=some v4/\w1.cell? p5=some v5/\w1.cell? p6=some v6/\w1.cell? p7=some v7/\w1.cell? p8=some v8/\w1.cell? p9=some v9/\w1.cell? p10=some v10/\w1.cell? p11=some v11/\w1.cell? p12=some v12:=by
 obtain ⟨q,q0,q1,q2,q3,q4,q5,q6,q7,q8,q9,q10,q11,q12⟩:=h;exact ⟨q.trans (hb.mono q.size),(hb.cell (cell_there q0).1).trans q0,(hb.cell (cell_there q1).1).trans q1,(hb.cell (cell_there q2).1).trans q2,(hb.cell (cell_there q3).1).trans q3,(hb.cell (cell_there q4).1).trans q4,(hb.cell (cell_there q5).1).trans q5,(hb.cell (cell_there q6).1).trans q6,(hb.cell (cell_there q7).1).trans q7,(hb.cell (cell_there q8).1).trans q8,(hb.cell (cell_there q9).1).trans q9,(hb.cell (cell_there q10).1).trans q10,(hb.cell (cell_there q11).1).trans q11,(hb.cell (cell_there q12).1).trans q12⟩
open Go.RowKit
def ahd (p1 l1 p2 l2:Int):Bool:=decide (p2<p1)||(decide (p1=p2)&&decide (l2<l1))
theorem ahd_ne {p1 p2:Int} (h:p1≠p2):ahd p1 l1 p2 l2=decide (p2<p1):=by unfold ahd;simp[h]
theorem ahd_eq {p:Int}:ahd p l1 p l2=decide (l2<l1):=by unfold ahd;simp
theorem ahead_any (t1 l1 q1 a1 t2 l2 q2 a2:Int) (p1 r1 p2 r2:Option Addr) (n1 c1 m1 d1 n2 c2 m2 d2:Nat) (w:World):
 Calls Tryz.prog 156 #[.agg #[.int .i64 t1, .slice p1 n1 c1, .int .i64 l1, .int .i64 q1, .int .i64 a1, .slice r1 m1 d1], .agg #[.int .i64 t2, .slice p2 n2 c2, .int .i64 l2, .int .i64 q2, .int .i64 a2, .slice r2 m2 d2]] w
  fun e w'=>e= .returned (.bool (ahd q1 l1 q2 l2))/\Bl w w':=by
 by_cases h:q1=q2
 ·subst h;have hA:Hd (ahd q1 l1 q1 l2=decide (l2<l1)):=ahd_eq;go_enter Tryz.func156,Tryz.ntmps156;go_wp2;go_ret;exact ⟨by rw[hA.o];rfl,bL⟩
 have hA:Hd (ahd q1 l1 q2 l2=decide (q2<q1)):=ahd_ne h;go_enter Tryz.func156,Tryz.ntmps156;go_wp2;go_ret;exact ⟨by rw[hA.o];rfl,bL⟩
theorem eql_pair {d:Nat} (W:World):(Go.binOp .eql 82 (.agg #[.int .u64 (a:Int), .int .u64 (b:Int)]) (.agg #[.int .u64 (c:Int), .int .u64 (d:Int)])).run Tryz.prog W= .ok (.bool (decide (a=c)&&decide (b=d))) W:=by
 have e1:decide (a=c)=decide ((a:Int)=c):=by simp only[decide_eq_decide];omega
 have e2:decide (b=d)=decide ((b:Int)=d):=by simp only[decide_eq_decide];omega
 rw[e1,e2];by_cases h1:(a:Int)=c<;>by_cases h2:(b:Int)=d<;>simp[go_sem,h1,h2]
def agr (p:Pt) (n:Nat):Bool:=decide (n &&& p.m=p.v)
theorem agrees_any (p:Pt) (n:Nat) (w:World) (hn:n<B*B) (hv:p.v<B*B) (hm:p.m<B*B):
 Calls Tryz.prog 69 #[patV p,numV n] w fun e w'=>e= .returned (.bool (agr p n))/\Bl w w':=by
 unfold patV numV;obtain ⟨v,m⟩:=p;simp only at hv hm⊢;have HA:Hd (∀ W,CR 101 #[.agg #[.int .u64 ((n/B:Nat):Int), .int .u64 ((n%B:Nat):Int)], .agg #[.int .u64 ((m/B:Nat):Int), .int .u64 ((m%B:Nat):Int)]] W (.agg #[.int .u64 (((n &&& m)/B:Nat):Int), .int .u64 (((n &&& m)%B:Nat):Int)])):=fun W=>numAnd_any n m W hn hm
 have HG:Hd (agr ⟨v,m⟩ n=(decide ((n &&& m)/B=v/B)&&decide ((n &&& m)%B=v%B))):=by
  show _=_;unfold agr;by_cases h:n &&& m=v
  ·simp[h]
  simp only[h,decide_false];symm;rw[Bool.and_eq_false_iff];by_cases h2:(n &&& m)/B=v/B
  ·right;refine decide_eq_false fun h3=>h ?_
   rw[<- Nat.div_add_mod (n &&& m) B, <-Nat.div_add_mod v B,h2,h3]
  left;exact decide_eq_false h2
 obtain ⟨nh,e1⟩:=nm (n/B);obtain ⟨nl,e2⟩:=nm (n%B);obtain ⟨mh,e3⟩:=nm (m/B);obtain ⟨ml,e4⟩:=nm (m%B);obtain ⟨vh,e5⟩:=nm (v/B);obtain ⟨vl,e6⟩:=nm (v%B);obtain ⟨rh,e7⟩:=nm ((n &&& m)/B);obtain ⟨rl,e8⟩:=nm ((n &&& m)%B);rw[<- e1, <-e2, <-e3, <-e4, <-e7, <-e8] at HA;rw[<- e5, <-e6, <-e7, <-e8] at HG;rw[<- e1, <-e2, <-e3, <-e4, <-e5, <-e6];clear e1 e2 e3 e4 e5 e6 e7 e8;obtain ⟨rb,hrb⟩:=nm (decide (rh=vh)&&decide (rl=vl));have heq:∀W,(Go.binOp .eql 82 (.agg #[.int .u64 (rh:Int), .int .u64 (rl:Int)]) (.agg #[.int .u64 (vh:Int), .int .u64 (vl:Int)])).run Tryz.prog W= .ok (.bool rb) W:=fun W=>by rw[hrb];exact eql_pair W
 rw[<- hrb] at HG;clear hrb;go_enter Tryz.func69,Tryz.ntmps69;go_wp2_with fail;have hbx:Bl w ((w.alloc (.cells #[.int .u64 (vh:Int), .int .u64 (vl:Int), .int .u64 (mh:Int), .int .u64 (ml:Int)] 142)).alloc (.cells #[.int .u64 (nh:Int), .int .u64 (nl:Int)] 82)):=bL;generalize hX:(w.alloc (.cells #[.int .u64 (vh:Int), .int .u64 (vl:Int), .int .u64 (mh:Int), .int .u64 (ml:Int)] 142)).alloc (.cells #[.int .u64 (nh:Int), .int .u64 (nl:Int)] 82)=X at hbx;have x0:X.cell? ⟨w.heap.size,0,none⟩=some (.int .u64 (vh:Int)):=by rw[<- hX];simp[go_sem]
 have x1:X.cell? ⟨w.heap.size,1,none⟩=some (.int .u64 (vl:Int)):=by rw[<- hX];simp[go_sem]
 have x2:X.cell? ⟨w.heap.size,2,none⟩=some (.int .u64 (mh:Int)):=by rw[<- hX];simp[go_sem]
 have x3:X.cell? ⟨w.heap.size,3,none⟩=some (.int .u64 (ml:Int)):=by rw[<- hX];simp[go_sem]
 have x4:X.cell? ⟨w.heap.size+1,0,none⟩=some (.int .u64 (nh:Int)):=by rw[<- hX];simp[go_sem]
 have x5:X.cell? ⟨w.heap.size+1,1,none⟩=some (.int .u64 (nl:Int)):=by rw[<- hX];simp[go_sem]
 have hx:=hD (And.intro (below_drewN hbx 1) (And.intro x0 (And.intro x1 (And.intro x2 (And.intro x3 (And.intro x4 x5))))));clear hX hbx;go_region_held3 (fun Wk=>Below (w.heap.size) (w) Wk/\Wk.cell? ⟨w.heap.size,0,none⟩=some (.int .u64 (vh:Int))/\Wk.cell? ⟨w.heap.size,1,none⟩=some (.int .u64 (vl:Int))/\Wk.cell? ⟨w.heap.size,2,none⟩=some (.int .u64 (mh:Int))/\Wk.cell? ⟨w.heap.size,3,none⟩=some (.int .u64 (ml:Int))/\Wk.cell? ⟨w.heap.size+1,0,none⟩=some (.int .u64 (nh:Int))/\Wk.cell? ⟨w.heap.size+1,1,none⟩=some (.int .u64 (nl:Int)))
  (first|exact hx.o|exact held_6_0 hb1 (by assumption)|assumption)
  (first
  |(go_at_call 101;(with_reducible refine (HA.o _).mono ?_);rintro e w1 ⟨rfl,hb1⟩))
 rename_i hS;have HB:=hD hS.1;clear hS;go_wp2_with fail;go_ret;exact ⟨by rw[HG.o];rfl,HB.o⟩
open Go.RowKit
def matB (e:Ent) (tab:Int) (ks:List Nat):Bool:=decide (e.tab=tab)&&(decide (e.pats.length=ks.length)&&(List.zip e.pats ks).all (fun x=>agr x.1 x.2))
theorem matB_tab (h:e.tab≠tab):matB e tab ks=false:=by unfold matB;simp[h]
theorem matB_len (h:e.pats.length≠ks.length):matB e tab ks=false:=by unfold matB;simp[h]
theorem matB_not {k n:Nat} {p:Pt} (h1:e.pats[k]?=some p) (h2:ks[k]?=some n) (h:agr p n=false):matB e tab ks=false:=by
 unfold matB;rw[show (List.zip e.pats ks).all (fun x=>agr x.1 x.2)=false from ?_]
 ·simp
 rw[List.all_eq_false];exact ⟨(p,n),gM_ (i:=k) (by rw[List.getElem?_zip_eq_some];exact ⟨h1,h2⟩),by simp[h]⟩
theorem matB_yes (h1:e.tab=tab) (h2:e.pats.length=ks.length) (h:∀(k:Nat) (p:Pt) (n:Nat),e.pats[k]?=some p->ks[k]?=some n->agr p n=true):matB e tab ks=true:=by
 unfold matB;rw[show (List.zip e.pats ks).all (fun x=>agr x.1 x.2)=true from ?_]
 ·simp[h1,h2]
 rw[List.all_eq_true];rintro ⟨p,n⟩ hx;obtain ⟨k,hk⟩:=List.getElem?_of_mem hx;rw[List.getElem?_zip_eq_some] at hk;exact h k p n hk.1 hk.2
theorem matches_any (e:Ent) (tab:Int) (ks:List Nat) (ev kv:Value) (w:World) (he:EntV w ev e) (hk:NRow w kv ks) (hpl:e.pats.length<=1000000):
 Calls Tryz.prog 129 #[ev, .int .i64 tab,kv] w fun r w'=>r= .returned (.bool (matB e tab ks))/\Bl w w':=by
 obtain ⟨pv,av,rfl,hp,ha⟩:=he;obtain ⟨pp,pc,rfl,p1,p2⟩:=hp.shape;obtain ⟨kp,kc,rfl,k1,k2⟩:=hk.shape;obtain ⟨ap,ac,rfl,a1,a2⟩:=ha.shape;obtain ⟨tb,pats,ln,pr,act,args⟩:=e;simp only at hp ha p1 p2 a1 a2 hpl⊢;have HP:=hD hp;have HK:=hD hk;clear hp hk ha;by_cases h1:tb=tab
 ·subst h1;by_cases h2:pats.length=ks.length
  ·have HT:Hd ((∀ (k:Nat) (p:Pt) (n:Nat),pats[k]?=some p->ks[k]?=some n->agr p n=true)->matB ⟨tb,pats,ln,pr,act,args⟩ tb ks=true):=fun h=>matB_yes rfl h2 h
   have HF:Hd (∀ (k n:Nat) (p:Pt),pats[k]?=some p->ks[k]?=some n->agr p n=false->matB ⟨tb,pats,ln,pr,act,args⟩ tb ks=false):=fun k n p q1 q2 q3=>matB_not q1 q2 q3
   obtain ⟨n,hn⟩:=nm pats.length;have hn2:n=ks.length:=hn.trans h2;rw[<- hn] at hpl p1⊢;rw[<- hn2] at k1⊢;have HN:=hD hn;have HN2:=hD hn2;have hpc:(n:Int)<=(pc:Int):=om;clear hn hn2 h2;go_enter Tryz.func129,Tryz.ntmps129;go_wp2_with fail;have HB0:Hd (Bl w (w.alloc (.cells #[.int .i64 tb, .slice pp n pc, .int .i64 ln, .int .i64 pr, .int .i64 act, .slice ap args.length ac] 125))):=bL;go_loopw [7,8,24] (fun u v i wr=>∃k:Nat,k<=n/\i= .int .i64 k/\Hd (∀ (j:Nat) (p:Pt) (x:Nat),j<k->pats[j]?=some p->ks[j]?=some x->agr p x=true)/\Hd (Bl w wr)) (fun _ _ i _=>n-(intOf i).toNat)
   case atStart=>exact ⟨0,om,rfl,fun j _ _ h=>absurd h om,HB0.o⟩
   case round=>
    clear HB0;obtain ⟨k,hkn,rfl,HJ,HW⟩:=hrel;by_cases hlt:k<n
    ·obtain ⟨p,hp⟩:∃p,pats[k]?=some p:=⟨_,gE_ (by have:=HN.o;omega)⟩;obtain ⟨x,hx⟩:∃x,ks[k]?=some x:=⟨_,gE_ (by have:=HN2.o;omega)⟩;obtain ⟨pb,po,pc',hpe,hpb,⟨pv0,pc0,pc1⟩,⟨pm0,pc2,pc3⟩⟩:=(HP.o.below keepP HW.o).at hp;obtain ⟨kb,ko,kc',hke,hkb,kx0,kc0,kc1⟩:=(HK.o.below keepN HW.o).at hx;simp only[Value.slice.injEq] at hpe hke;obtain ⟨rfl,-,-⟩:=hpe;obtain ⟨rfl,-,-⟩:=hke;obtain ⟨v,m⟩:=p;simp only at pv0 pc0 pc1 pm0 pc2 pc3;have HC:Hd (∀ W,CR 69 #[.agg #[.int .u64 ((v/B:Nat):Int), .int .u64 ((v%B:Nat):Int), .int .u64 ((m/B:Nat):Int), .int .u64 ((m%B:Nat):Int)], .agg #[.int .u64 ((x/B:Nat):Int), .int .u64 ((x%B:Nat):Int)]] W (.bool (agr ⟨v,m⟩ x))):=fun W=>agrees_any ⟨v,m⟩ x W kx0 pv0 pm0
     obtain ⟨q0,e0⟩:∃q:Int,q=((v/B:Nat):Int):=⟨_,rfl⟩;obtain ⟨q1,e1⟩:∃q:Int,q=((v%B:Nat):Int):=⟨_,rfl⟩;obtain ⟨q2,e2⟩:∃q:Int,q=((m/B:Nat):Int):=⟨_,rfl⟩;obtain ⟨q3,e3⟩:∃q:Int,q=((m%B:Nat):Int):=⟨_,rfl⟩;obtain ⟨q4,e4⟩:∃q:Int,q=((x/B:Nat):Int):=⟨_,rfl⟩;obtain ⟨q5,e5⟩:∃q:Int,q=((x%B:Nat):Int):=⟨_,rfl⟩;rw[<- e0, <-e1, <-e2, <-e3, <-e4, <-e5] at HC;rw[<- e0] at pc0;rw[<- e1] at pc1;rw[<- e2] at pc2;rw[<- e3] at pc3;rw[<- e4] at kc0;rw[<- e5] at kc1;have HPK:=hD (And.intro hp hx);obtain ⟨r,hr⟩:=nm (agr ⟨v,m⟩ x);rw[<- hr] at HC;have HR:=hD hr;clear e0 e1 e2 e3 e4 e5 hp hx pv0 pm0 kx0 hr;have z1:(k:Int)<(n:Int):=om;go_wp2_with fail;have hbx:Bl wr (wr.alloc (.cells #[.int .u64 q0, .int .u64 q1, .int .u64 q2, .int .u64 q3] 142)):=bL;generalize hX:wr.alloc (.cells #[.int .u64 q0, .int .u64 q1, .int .u64 q2, .int .u64 q3] 142)=X at hbx;have x0:X.cell? ⟨wr.heap.size,0,none⟩=some (.int .u64 q0):=by rw[<- hX];simp[go_sem]
     have x1:X.cell? ⟨wr.heap.size,1,none⟩=some (.int .u64 q1):=by rw[<- hX];simp[go_sem]
     have x2:X.cell? ⟨wr.heap.size,2,none⟩=some (.int .u64 q2):=by rw[<- hX];simp[go_sem]
     have x3:X.cell? ⟨wr.heap.size,3,none⟩=some (.int .u64 q3):=by rw[<- hX];simp[go_sem]
     have x4:=(hbx.cell (cell_there kc0).1).trans kc0;have x5:=(hbx.cell (cell_there kc1).1).trans kc1;have hx:=hD (And.intro (below_drewN hbx 1) (And.intro x0 (And.intro x1 (And.intro x2 (And.intro x3 (And.intro x4 x5))))));have z0:(0:Int)<=(k:Int):=om;clear hX hbx kc0 kc1 pc0 pc1 pc2 pc3;go_region_held3 (fun Wk=>Below (wr.heap.size) (wr) Wk/\Wk.cell? ⟨wr.heap.size,0,none⟩=some (.int .u64 q0)/\Wk.cell? ⟨wr.heap.size,1,none⟩=some (.int .u64 q1)/\Wk.cell? ⟨wr.heap.size,2,none⟩=some (.int .u64 q2)/\Wk.cell? ⟨wr.heap.size,3,none⟩=some (.int .u64 q3)/\Wk.cell? ⟨kb,ko+k*2,none⟩=some (.int .u64 q4)/\Wk.cell? ⟨kb,ko+k*2+1,none⟩=some (.int .u64 q5))
      (first|exact hx.o|exact held_6_0 hb1 (by assumption)|assumption)
      (first
      |(go_at_call 69;(with_reducible refine (HC.o _).mono ?_);rintro e w1 ⟨rfl,hb1⟩))
     rename_i hS;have HW1:=hD (HW.o.trans (hS.1.mono HW.o.size));clear hS x0 x1 x2 x3 x4 x5 hx hb1 HW HC;cases r
     ·go_wp2_with fail;go_ret;exact ⟨by rw[HF.o k x ⟨v,m⟩ HPK.o.1 HPK.o.2 HR.o.symm];rfl,HW1.o⟩
     ·go_wp2_with fail;go_roundw
      case rel=>exact ⟨k+1,om,by go_num,fun j p' x' hj h1 h2=>by
       by_cases e:j=k
       ·subst e;rw[HPK.o.1] at h1;rw[HPK.o.2] at h2;cases h1;cases h2;exact HR.o.symm
       ·exact HJ.o j p' x' om h1 h2,HW1⟩
      case measure=>exact mz
    obtain rfl:k=n:=om;go_wp2_with fail;go_ret;exact ⟨by rw[HT.o fun k p x q1 q2=>HJ.o k p x (by have:=(gL_ q1).1;have:=HN.o;omega) q1 q2];rfl,HW.o⟩
  have HE:Hd (matB ⟨tb,pats,ln,pr,act,args⟩ tb ks=false):=matB_len h2;have hne:¬((pats.length:Nat):Int)=((ks.length:Nat):Int):=om;clear h2;go_enter Tryz.func129,Tryz.ntmps129;go_wp2_with fail;go_ret;exact ⟨by rw[HE.o];rfl,bL⟩
 have HE:Hd (matB ⟨tb,pats,ln,pr,act,args⟩ tab ks=false):=matB_tab h1;go_enter Tryz.func129,Tryz.ntmps129;go_wp2_with fail;go_ret;exact ⟨by rw[HE.o];rfl,bL⟩
end Go.Proofs.YtikilcbpogfgkaaGreat
