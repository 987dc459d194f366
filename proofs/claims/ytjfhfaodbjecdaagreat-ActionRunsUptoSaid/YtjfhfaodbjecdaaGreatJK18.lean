/- Lemmas. -/
import Derived.Test.YtjfhfaodbjecdaaGreatJK12
set_option maxHeartbeats 1600000
set_option maxRecDepth 100000
namespace Go.Proofs.YtjfhfaodbjecdaaGreat.Stab
variable {L:Int->Int->Bool} {a b a' b' i j m s c s0 r0 r n:Nat} {W w w1:World} {p0 p1 p2 p3 p4 p5 p6 p7 p8 p9 p10 p11:Addr} {v0 v1 v2 v3 v4 v5 v6 v7 v8 v9 v10 v11:Value} {l1 l2:Int}
structure Ord (L:Int->Int->Bool):Prop where
 irr:∀x,L x x=false
 tr:∀x y z,L x y=true->L y z=true->L x z=true
 tot:∀x y,x≠y->L x y=false->L y x=true
theorem Ord.asym (h:Ord L) {x y:Int} (hxy:L x y=true):L y x=false:=by
 cases hc:L y x
 ·rfl
 ·have:=h.tr _ _ _ hxy hc;rw[h.irr] at this;cases this
abbrev Fn:=Nat->Int
def Srt (L:Int->Int->Bool) (f:Fn) (a b:Nat):Prop:=∀i j,a<=i->i<j->j<b->L (f i) (f j)=true
def Same (f f':Fn) (a b:Nat):Prop:=∀x,(∃ i,a<=i/\i<b/\f i=x)↔(∃ i,a<=i/\i<b/\f' i=x)
def Outw (f f':Fn) (a b:Nat):Prop:=∀i,(i<a\/b<=i)->f' i=f i
def Apart (f:Fn) (a m b:Nat):Prop:=∀i j,a<=i->i<m->m<=j->j<b->f i<f j
def kf (f:Fn) (i j:Nat):Fn:=fun k=>if k=i then f j else if k=j then f i else f k
theorem Same.refl (f:Fn) (a b:Nat):Same f f a b:=fun _=>Iff.rfl
theorem Same.trans {f g h:Fn} (p:Same f g a b) (q:Same g h a b):Same f h a b:=fun x=>(p x).trans (q x)
theorem Same.symm {f g:Fn} (p:Same f g a b):Same g f a b:=fun x=>(p x).symm
theorem Outw.refl (f:Fn) (a b:Nat):Outw f f a b:=fun _ _=>rfl
theorem Outw.trans {f g h:Fn} (p:Outw f g a b) (q:Outw g h a b):Outw f h a b:=fun i hi=>(q i hi).trans (p i hi)
theorem Outw.more {f g:Fn} (p:Outw f g a b) (ha:a'<=a) (hb:b<=b'):Outw f g a' b':=fun i hi=>p i om
theorem Same.more {f g:Fn} (p:Same f g a b) (o:Outw f g a b) (ha:a'<=a) (hb:b<=b'):Same f g a' b':=by
 intro x;constructor
 ·rintro ⟨i,h1,h2,h3⟩;by_cases hi:a<=i/\i<b
  ·obtain ⟨k,k1,k2,k3⟩:=(p x).1 ⟨i,hi.1,hi.2,h3⟩;exact ⟨k,om,om,k3⟩
  exact ⟨i,h1,h2,(o i om).trans h3⟩
 rintro ⟨i,h1,h2,h3⟩;by_cases hi:a<=i/\i<b
 ·obtain ⟨k,k1,k2,k3⟩:=(p x).2 ⟨i,hi.1,hi.2,h3⟩;exact ⟨k,om,om,k3⟩
 exact ⟨i,h1,h2,(o i om).symm.trans h3⟩
theorem vK (f:Fn) (hi:a<=i) (hi':i<b) (hj:a<=j) (hj':j<b):Same f (kf f i j) a b:=by
 intro x;constructor
 ·rintro ⟨k,h1,h2,h3⟩;by_cases e1:k=i
  ·subst e1;by_cases e2:k=j
   ·subst e2;exact ⟨k,h1,h2,by simp[kf,h3]⟩
   exact ⟨j,hj,hj',by unfold kf;rw[if_neg om,if_pos rfl];exact h3⟩
  by_cases e2:k=j
  ·subst e2;exact ⟨i,hi,hi',by unfold kf;rw[if_pos rfl];exact h3⟩
  exact ⟨k,h1,h2,by unfold kf;rw[if_neg e1,if_neg e2];exact h3⟩
 rintro ⟨k,h1,h2,h3⟩;unfold kf at h3;by_cases e1:k=i
 ·rw[if_pos e1] at h3;exact ⟨j,hj,hj',h3⟩
 by_cases e2:k=j
 ·rw[if_neg e1,if_pos e2] at h3;exact ⟨i,hi,hi',h3⟩
 rw[if_neg e1,if_neg e2] at h3;exact ⟨k,h1,h2,h3⟩
theorem ya (f:Fn) (hi:a<=i) (hi':i<b) (hj:a<=j) (hj':j<b):Outw f (kf f i j) a b:=fun k hk=>by
 unfold kf;rw[if_neg om,if_neg om]
theorem Apart.of_same {f f':Fn} (h:Apart f a m b) (p:Same f f' a m) (q:Same f f' m b):Apart f' a m b:=by
 intro i j h1 h2 h3 h4;obtain ⟨i',p1,p2,p3⟩:=(p _).2 ⟨i,h1,h2,rfl⟩;obtain ⟨j',q1,q2,q3⟩:=(q _).2 ⟨j,h3,h4,rfl⟩;rw[<- p3, <-q3];exact h i' j' p1 p2 q1 q2
structure Ins (L:Int->Int->Bool) (f0 f:Fn) (a i:Nat):Prop where
 srt:Srt L f a i
 same:Same f0 f a i
 o:Outw f0 f a i
structure InsI (L:Int->Int->Bool) (f0 f:Fn) (a i j:Nat):Prop where
 haj:a<=j
 hji:j<=i
 lo:∀p q,a<=p->p<q->q<=i->p≠j->q≠j->L (f p) (f q)=true
 hi:∀q,j<q->q<=i->L (f j) (f q)=true
 less:∀p,a<=p->p<=i->p≠j->f p<f j
 same:Same f0 f a (i+1)
 o:Outw f0 f a (i+1)
theorem Ins.start (L:Int->Int->Bool) (f:Fn) (a:Nat):Ins L f f a (a+1):=⟨fun i j h1 h2 h3=>by omega,Same.refl _ _ _,Outw.refl _ _ _⟩
theorem Ins.inner {f0 f:Fn} (h:Ins L f0 f a i) (ha:a<=i) (hi:i<b) (hasc:∀p q,a<=p->p<q->q<b->f0 p<f0 q):InsI L f0 f a i i where
 haj:=ha
 hji:=Nat.le_refl _
 lo:=fun p q h1 h2 h3 h4 h5=>h.srt p q h1 h2 om
 hi:=fun q h1 h2=>by omega
 less:=fun p h1 h2 h3=>by
  obtain ⟨k,k1,k2,k3⟩:=(h.same _).2 ⟨p,h1,om,rfl⟩;rw[<- k3,h.o i om];exact hasc k i k1 k2 hi
 same:=h.same.more h.o lr om
 o:=h.o.more lr om
theorem InsI.step {f0 f:Fn} (h:InsI L f0 f a i j) (hj:a<j) (hL:L (f j) (f (j-1))=true) (hO:Ord L):InsI L f0 (kf f j (j-1)) a i (j-1) where
 haj:=om
 hji:=by have:=h.hji;omega
 lo:=fun p q h1 h2 h3 h4 h5=>by
  have hji:=h.hji;unfold kf;by_cases e1:p=j
  ·rw[if_pos e1,if_neg om,if_neg h5];exact h.lo (j-1) q om om h3 om om
  ·rw[if_neg e1,if_neg h4];by_cases e2:q=j
   ·rw[if_pos e2];exact h.lo p (j-1) h1 om om e1 om
   ·rw[if_neg e2,if_neg h5];exact h.lo p q h1 h2 h3 e1 e2
 hi:=fun q h1 h2=>by
  have hji:=h.hji;unfold kf;rw[if_neg om,if_pos rfl];by_cases e2:q=j
  ·rw[if_pos e2];exact hL
  ·rw[if_neg e2,if_neg om];exact h.hi q om h2
 less:=fun p h1 h2 h3=>by
  have hji:=h.hji;have e:kf f j (j-1) (j-1)=f j:=by unfold kf;rw[if_neg om,if_pos rfl]
  rw[e];unfold kf;by_cases e1:p=j
  ·rw[if_pos e1];exact h.less (j-1) om om om
  ·rw[if_neg e1,if_neg h3];exact h.less p h1 h2 e1
 same:=by have hji:=h.hji;exact h.same.trans (vK f om om om om)
 o:=by have hji:=h.hji;exact h.o.trans (ya f om om om om)
theorem InsI.done {f0 f:Fn} (h:InsI L f0 f a i j) (hO:Ord L) (hs:j<=a\/L (f j) (f (j-1))=false):Ins L f0 f a (i+1) where
 srt:=fun p q h1 h2 h3=>by
  by_cases e1:p=j
  ·subst e1;exact h.hi q h2 om
  ·by_cases e2:q=j
   ·subst e2;rcases hs with hs|hs
    ·omega
    ·have hl:=h.less (q-1) om om om;have h4:L (f (q-1)) (f q)=true:=hO.tot _ _ om hs;by_cases e3:p=q-1
     ·rw[e3];exact h4
     ·exact hO.tr _ _ _ (h.lo p (q-1) h1 om om om om) h4
   ·exact h.lo p q h1 h2 om e1 e2
 same:=h.same
 o:=h.o
def nu (f:Fn) (a b n:Nat):Fn:=fun k=>if a<=k/\k<a+n then f (k-a+b) else if b<=k/\k<b+n then f (k-b+a) else f k
def fM (f:Fn) (a m b:Nat):Fn:=fun k=>if a<=k/\k<a+(b-m) then f (k-a+m) else if a+(b-m)<=k/\k<b then f (k-(a+(b-m))+a) else f k
theorem vL (f:Fn) (a b:Nat):nu f a b 0=f:=by
 funext k;unfold nu;rw[if_neg om,if_neg om]
theorem vM (f:Fn) (a b n:Nat) (h:a+n<b):kf (nu f a b n) (a+n) (b+n)=nu f a b (n+1):=by
 funext k;unfold kf nu;by_cases h1:k=a+n
 ·subst h1;rw[if_pos rfl,if_neg om,if_neg om,if_pos om];congr 1;omega
 by_cases h2:k=b+n
 ·subst h2;rw[if_neg h1,if_pos rfl,if_neg om,if_neg om,if_neg om,if_pos om];congr 1;omega
 rw[if_neg h1,if_neg h2];by_cases h3:a<=k/\k<a+n
 ·rw[if_pos h3,if_pos om]
 rw[if_neg h3];by_cases h4:b<=k/\k<b+n
 ·rw[if_pos h4,if_neg om,if_pos om]
 rw[if_neg h4,if_neg om,if_neg om]
theorem zT (f:Fn) (m i j:Nat) (him:i<=m) (h:j<i):fM (nu f (m-i) m j) (m-(i-j)) m (m+j)=fM f (m-i) m (m+j):=by
 funext k;unfold fM;by_cases h1:m-i<=k/\k<m-i+j
 ·have e:(if m-i<=k/\k<m-i+(m+j-m) then f (k-(m-i)+m) else if m-i+(m+j-m)<=k/\k<m+j then f (k-(m-i+(m+j-m))+(m-i)) else f k)=f (k-(m-i)+m):=by rw[if_pos om]
  rw[e,if_neg om,if_neg om];unfold nu;rw[if_pos om]
 by_cases h2:m-i+j<=k/\k<m+j
 ·have e:(if m-i<=k/\k<m-i+(m+j-m) then f (k-(m-i)+m) else if m-i+(m+j-m)<=k/\k<m+j then f (k-(m-i+(m+j-m))+(m-i)) else f k)=f (k-(m-i+(m+j-m))+(m-i)):=by rw[if_neg om,if_pos om]
  rw[e];by_cases h3:k<m-(i-j)+j
  ·rw[if_pos om];unfold nu;rw[if_neg om,if_pos om];congr 1;omega
  rw[if_neg om,if_pos om];unfold nu;rw[if_neg om,if_neg om];congr 1;omega
 exact Dq
theorem zU (f:Fn) (m i j:Nat) (him:i<=m) (h:i<j):fM (nu f (m-i) (m+j-i) i) (m-i) m (m+(j-i))=fM f (m-i) m (m+j):=by
 funext k;unfold fM;by_cases h1:m-i<=k/\k<m-i+j
 ·have e:(if m-i<=k/\k<m-i+(m+j-m) then f (k-(m-i)+m) else if m-i+(m+j-m)<=k/\k<m+j then f (k-(m-i+(m+j-m))+(m-i)) else f k)=f (k-(m-i)+m):=by rw[if_pos om]
  rw[e];by_cases h3:k<m-i+(j-i)
  ·rw[if_pos om];unfold nu;rw[if_neg om,if_neg om]
  rw[if_neg om];by_cases h4:k<m+(j-i)
  ·rw[if_pos om];unfold nu;rw[if_pos om];congr 1;omega
  omega
 by_cases h2:m-i+j<=k/\k<m+j
 ·have e:(if m-i<=k/\k<m-i+(m+j-m) then f (k-(m-i)+m) else if m-i+(m+j-m)<=k/\k<m+j then f (k-(m-i+(m+j-m))+(m-i)) else f k)=f (k-(m-i+(m+j-m))+(m-i)):=by rw[if_neg om,if_pos om]
  rw[e,if_neg om,if_neg om];unfold nu;rw[if_neg om,if_pos om];congr 1;omega
 exact Dq
theorem zV (f:Fn) (m i:Nat) (him:i<=m):nu f (m-i) m i=fM f (m-i) m (m+i):=by
 funext k;unfold fM nu;by_cases h1:m-i<=k/\k<m-i+i
 ·rw[if_pos h1,if_pos om]
 rw[if_neg h1];by_cases h2:m<=k/\k<m+i
 ·rw[if_pos h2,if_neg om,if_pos om];congr 1;omega
 rw[if_neg h2,if_neg om,if_neg om]
theorem vN (f:Fn) (h1:a<=m) (h2:m<=b):Same f (fM f a m b) a b:=by
 intro x;constructor
 ·rintro ⟨k,k1,k2,k3⟩;by_cases hk:k<m
  ·refine ⟨k-a+(a+(b-m)),om,om,?_⟩;unfold fM;rw[if_neg om,if_pos om, <-k3];congr 1;omega
  refine ⟨k-m+a,om,om,?_⟩;unfold fM;rw[if_pos om, <-k3];congr 1;omega
 rintro ⟨k,k1,k2,k3⟩;unfold fM at k3;by_cases hk:k<a+(b-m)
 ·rw[if_pos om] at k3;exact ⟨_,om,om,k3⟩
 rw[if_neg om,if_pos om] at k3;exact ⟨_,om,om,k3⟩
theorem sU (f:Fn) (h1:a<=m) (h2:m<=b):Outw f (fM f a m b) a b:=fun k hk=>by
 unfold fM;rw[if_neg om,if_neg om]
structure Mrg (L:Int->Int->Bool) (f:Fn) (a m b:Nat):Prop where
 am:a<m
 mb:m<b
 s1:Srt L f a m
 s2:Srt L f m b
 ap:Apart f a m b
structure MrgOk (L:Int->Int->Bool) (f f':Fn) (a b:Nat):Prop where
 srt:Srt L f' a b
 same:Same f f' a b
 o:Outw f f' a b
theorem Ins.last {f g:Fn} (h:Ins L f g a i) (hi:i=b\/(i=a+1/\b<=i)) (hab:a<=b):MrgOk L f g a b:=by
 by_cases e:i=b
 ·subst e;exact ⟨h.srt,h.same,h.o⟩
 obtain rfl:b=a:=om;obtain rfl:i=b+1:=om;refine ⟨fun p q h1 h2 h3=>by omega,fun x=>⟨fun ⟨k,h1,h2,_⟩=>by omega,fun ⟨k,h1,h2,_⟩=>by omega⟩,fun k hk=>?_⟩;by_cases e2:k=b
 ·subst e2;obtain ⟨q,q1,q2,q3⟩:=(h.same (f k)).1 ⟨k,Nat.le_refl _,om,rfl⟩;obtain rfl:q=k:=om;exact q3
 exact h.o k om
def qh (f:Fn) (a k:Nat):Fn:=fun p=>if a<=p/\p<k then f (p+1) else if p=k then f a else f p
theorem vO (f:Fn) (a:Nat):qh f a a=f:=by
 funext p;unfold qh;rw[if_neg om];by_cases h:p=a
 ·rw[if_pos h,h]
 rw[if_neg h]
theorem vP (f:Fn) (a k:Nat) (h:a<=k):kf (qh f a k) k (k+1)=qh f a (k+1):=by
 funext p;unfold kf qh;by_cases h1:p=k
 ·rw[if_pos h1,if_neg om,if_neg om,if_pos om,h1]
 rw[if_neg h1];by_cases h2:p=k+1
 ·rw[if_pos h2,if_neg om,if_pos rfl,if_neg om,if_pos h2]
 rw[if_neg h2];by_cases h3:a<=p/\p<k
 ·rw[if_pos h3,if_pos om]
 rw[if_neg h3,if_neg om,if_neg om,if_neg h2]
def qi (f:Fn) (m k:Nat):Fn:=fun p=>if k<p/\p<=m then f (p-1) else if p=k then f m else f p
theorem vQ (f:Fn) (m:Nat):qi f m m=f:=by
 funext p;unfold qi;rw[if_neg om];by_cases h:p=m
 ·rw[if_pos h,h]
 rw[if_neg h]
theorem vR (f:Fn) (m k:Nat) (h:k<=m) (h0:0<k):kf (qi f m k) k (k-1)=qi f m (k-1):=by
 funext p;unfold kf qi;by_cases h1:p=k
 ·rw[if_pos h1,if_neg om,if_neg om,if_pos om,h1]
 rw[if_neg h1];by_cases h2:p=k-1
 ·rw[if_pos h2,if_neg om,if_pos rfl,if_neg om,if_pos h2]
 rw[if_neg h2];by_cases h3:k<p/\p<=m
 ·rw[if_pos h3,if_pos om]
 rw[if_neg h3,if_neg om,if_neg om,if_neg h2]
theorem Mrg.one {f:Fn} (h:Mrg L f a (a+1) b) (hO:Ord L) (hi:a+1<=i) (hib:i<=b)
 (h1:∀k,a+1<=k->k<i->L (f k) (f a)=true) (h2:∀k,i<=k->k<b->L (f k) (f a)=false):MrgOk L f (qh f a (i-1)) a b where
 srt:=fun p q p1 p2 p3=>by
  have hgt:∀k,i<=k->k<b->L (f a) (f k)=true:=fun k k1 k2=>hO.tot _ _ (by have:=h.ap a k lr om om k2;omega) (h2 k k1 k2)
  unfold qh;by_cases e1:p<i-1
  ·rw[if_pos ⟨p1,e1⟩];by_cases e2:q<i-1
   ·rw[if_pos om];exact h.s2 _ _ om om om
   ·rw[if_neg om];by_cases e3:q=i-1
    ·rw[if_pos e3];exact h1 _ om om
    ·rw[if_neg e3];exact h.s2 _ _ om om om
  ·rw[if_neg (show ¬(a<=p/\p<i-1) by omega),if_neg (show ¬(a<=q/\q<i-1) by omega),if_neg (show ¬q=i-1 by omega)];by_cases e3:p=i-1
   ·rw[if_pos e3];exact hgt q om om
   ·rw[if_neg e3];exact h.s2 _ _ om p2 om
 same:=fun x=>by
  constructor
  ·rintro ⟨k,k1,k2,k3⟩;by_cases e:k=a
   ·exact ⟨i-1,om,om,by unfold qh;rw[if_neg om,if_pos rfl, <-e];exact k3⟩
   ·by_cases e2:k<i
    ·exact ⟨k-1,om,om,by unfold qh;rw[if_pos om, <-k3];congr 1;omega⟩
    ·exact ⟨k,om,om,by unfold qh;rw[if_neg om,if_neg om];exact k3⟩
  ·rintro ⟨k,k1,k2,k3⟩;unfold qh at k3;by_cases e1:k<i-1
   ·rw[if_pos om] at k3;exact ⟨_,om,om,k3⟩
   ·rw[if_neg om] at k3;by_cases e2:k=i-1
    ·rw[if_pos e2] at k3;exact ⟨a,om,by have:=h.mb;omega,k3⟩
    ·rw[if_neg e2] at k3;exact ⟨k,k1,k2,k3⟩
 o:=fun k hk=>by unfold qh;rw[if_neg om,if_neg om]
theorem Mrg.oneR {f:Fn} (h:Mrg L f a m (m+1)) (hO:Ord L) (hi:a<=i) (him:i<=m)
 (h1:∀k,a<=k->k<i->L (f m) (f k)=false) (h2:∀k,i<=k->k<m->L (f m) (f k)=true):MrgOk L f (qi f m i) a (m+1) where
 srt:=fun p q p1 p2 p3=>by
  have hgt:∀k,a<=k->k<i->L (f k) (f m)=true:=fun k k1 k2=>hO.tot _ _ (by have:=h.ap k m k1 om lr om;omega) (h1 k k1 k2)
  unfold qi;by_cases e1:i<q
  ·rw[if_pos (show i<q/\q<=m by omega)];by_cases e2:i<p
   ·rw[if_pos om];exact h.s1 _ _ om om om
   ·rw[if_neg om];by_cases e3:p=i
    ·rw[if_pos e3];exact h2 _ om om
    ·rw[if_neg e3];exact h.s1 _ _ om om om
  ·rw[if_neg (show ¬(i<p/\p<=m) by omega),if_neg (show ¬(i<q/\q<=m) by omega),if_neg (show ¬p=i by omega)];by_cases e3:q=i
   ·rw[if_pos e3];exact hgt p om om
   ·rw[if_neg e3];exact h.s1 _ _ om p2 om
 same:=fun x=>by
  have ham:=h.am;constructor
  ·rintro ⟨k,k1,k2,k3⟩;by_cases e:k=m
   ·exact ⟨i,om,om,by unfold qi;rw[if_neg om,if_pos rfl, <-e];exact k3⟩
   ·by_cases e2:i<=k
    ·exact ⟨k+1,om,om,by unfold qi;rw[if_pos om, <-k3];congr 1⟩
    ·exact ⟨k,om,om,by unfold qi;rw[if_neg om,if_neg om];exact k3⟩
  ·rintro ⟨k,k1,k2,k3⟩;unfold qi at k3;by_cases e1:i<k
   ·rw[if_pos om] at k3;exact ⟨_,om,om,k3⟩
   ·rw[if_neg om] at k3;by_cases e2:k=i
    ·rw[if_pos e2] at k3;exact ⟨m,om,om,k3⟩
    ·rw[if_neg e2] at k3;exact ⟨k,k1,k2,k3⟩
 o:=fun k hk=>by unfold qi;rw[if_neg om,if_neg om]
structure Cut (L:Int->Int->Bool) (f:Fn) (a m b s e:Nat):Prop where
 las:a<=s
 sm:s<=m
 me:m<=e
 eb:e<=b
 up:s<m->m<e->L (f (e-1)) (f s)=true
 dn:a<s->e<b->L (f e) (f (s-1))=false
theorem Cut.halves {f:Fn} {e:Nat} (c:Cut L f a m b s e) (h:Mrg L f a m b) (hO:Ord L):
 (a<s->s<s+(e-m)->Mrg L (fM f s m e) a s (s+(e-m)))/\(s+(e-m)<e->e<b->Mrg L (fM f s m e) (s+(e-m)) e b)/\
 (s=a->Srt L (fM f s m e) a (s+(e-m)))/\(e=m->Srt L (fM f s m e) a (s+(e-m)))/\
 (e=b->Srt L (fM f s m e) (s+(e-m)) b)/\(s=m->Srt L (fM f s m e) (s+(e-m)) b)/\
 (∀ i j,a<=i->i<s+(e-m)->s+(e-m)<=j->j<b->L (fM f s m e i) (fM f s m e j)=true):=by
 have ham:=h.am;have hmb:=h.mb;have has:=c.las;have hsm:=c.sm;have hme:=c.me;have heb:=c.eb;have r1:∀k,k<s->fM f s m e k=f k:=fun k hk=>by unfold fM;rw[if_neg om,if_neg om]
 have r2:∀k,s<=k->k<s+(e-m)->fM f s m e k=f (k-s+m):=fun k h1 h2=>by unfold fM;rw[if_pos om]
 have r3:∀k,s+(e-m)<=k->k<e->fM f s m e k=f (k-(s+(e-m))+s):=fun k h1 h2=>by unfold fM;rw[if_neg om,if_pos om]
 have r4:∀k,e<=k->fM f s m e k=f k:=fun k hk=>by unfold fM;rw[if_neg om,if_neg om]
 have S1:Srt L (fM f s m e) a s:=fun p q p1 p2 p3=>by rw[r1 p om,r1 q p3];exact h.s1 p q p1 p2 om
 have S2:Srt L (fM f s m e) s (s+(e-m)):=fun p q p1 p2 p3=>by rw[r2 p p1 om,r2 q om p3];exact h.s2 _ _ om om om
 have S3:Srt L (fM f s m e) (s+(e-m)) e:=fun p q p1 p2 p3=>by rw[r3 p p1 om,r3 q om p3];exact h.s1 _ _ om om om
 have S4:Srt L (fM f s m e) e b:=fun p q p1 p2 p3=>by rw[r4 p p1,r4 q om];exact h.s2 _ _ om om om
 have B13:∀i j,a<=i->i<s->s<=j->j<m->L (f i) (f j)=true:=fun i j h1 h2 h3 h4=>h.s1 i j h1 om h4
 have B24:∀i j,m<=i->i<e->e<=j->j<b->L (f i) (f j)=true:=fun i j h1 h2 h3 h4=>h.s2 i j h1 om h4
 have B23:∀i j,m<=i->i<e->s<=j->j<m->L (f i) (f j)=true:=fun i j h1 h2 h3 h4=>by
  have u:=c.up om om;have x1:i=e-1\/L (f i) (f (e-1))=true:=by
   by_cases e1:i=e-1
   ·exact .inl e1
   ·exact .inr (h.s2 i (e-1) h1 om om)
  have x2:j=s\/L (f s) (f j)=true:=by
   by_cases e1:j=s
   ·exact .inl e1
   ·exact .inr (h.s1 s j om om h4)
  have y1:L (f i) (f s)=true:=by
   rcases x1 with rfl|x1
   ·exact u
   ·exact hO.tr _ _ _ x1 u
  rcases x2 with rfl|x2
  ·exact y1
  ·exact hO.tr _ _ _ y1 x2
 have B14:∀i j,a<=i->i<s->e<=j->j<b->L (f i) (f j)=true:=fun i j h1 h2 h3 h4=>by
  have d:=c.dn om om;have u:L (f (s-1)) (f e)=true:=hO.tot _ _ (by have:=h.ap (s-1) e om om om om;omega) d;have x1:i=s-1\/L (f i) (f (s-1))=true:=by
   by_cases e1:i=s-1
   ·exact .inl e1
   ·exact .inr (h.s1 i (s-1) h1 om om)
  have x2:j=e\/L (f e) (f j)=true:=by
   by_cases e1:j=e
   ·exact .inl e1
   ·exact .inr (h.s2 e j om om h4)
  have y1:L (f i) (f e)=true:=by
   rcases x1 with rfl|x1
   ·exact u
   ·exact hO.tr _ _ _ x1 u
  rcases x2 with rfl|x2
  ·exact y1
  ·exact hO.tr _ _ _ y1 x2
 refine ⟨fun h1 h2=>⟨h1,h2,S1,S2,fun i j i1 i2 j1 j2=>?_⟩,fun h1 h2=>⟨h1,h2,S3,S4,fun i j i1 i2 j1 j2=>?_⟩,fun e1=>?_,fun e1=>?_,fun e1=>?_,fun e1=>?_,fun i j i1 i2 j1 j2=>?_⟩
 ·rw[r1 i om,r2 j j1 j2];exact h.ap _ _ i1 om om om
 ·rw[r3 i i1 i2,r4 j j1];exact h.ap _ _ om om om om
 ·subst e1;exact S2
 ·have:s+(e-m)=s:=om;rw[this];exact S1
 ·rw[<- e1];exact S3
 ·have:s+(e-m)=e:=om;rw[this];exact S4
 by_cases k1:i<s
 ·rw[r1 i k1];by_cases k2:j<e
  ·rw[r3 j j1 k2];exact B13 _ _ i1 k1 om om
  rw[r4 j om];exact B14 _ _ i1 k1 om j2
 rw[r2 i om i2];by_cases k2:j<e
 ·rw[r3 j j1 k2];exact B23 _ _ om om om om
 rw[r4 j om];exact B24 _ _ om om om j2
theorem MrgOk.join {f g g1 g2:Fn} (hac:a<=c) (hcb:c<=b) (hsame:Same f g a b) (hout:Outw f g a b)
 (hx:∀i j,a<=i->i<c->c<=j->j<b->L (g i) (g j)=true) (h1:MrgOk L g g1 a c) (h2:MrgOk L g1 g2 c b):MrgOk L f g2 a b where
 srt:=fun i j i1 i2 i3=>by
  by_cases k1:j<c
  ·rw[h2.o i om,h2.o j om];exact h1.srt i j i1 i2 k1
  ·by_cases k2:c<=i
   ·exact h2.srt i j k2 i2 i3
   ·obtain ⟨p,p1,p2,p3⟩:=(h1.same _).2 ⟨i,i1,om,rfl⟩;obtain ⟨q,q1,q2,q3⟩:=(h2.same _).2 ⟨j,om,i3,rfl⟩;rw[h2.o i om, <-p3, <-q3,h1.o q om];exact hx p q p1 p2 q1 q2
 same:=hsame.trans ((h1.same.more h1.o lr hcb).trans (h2.same.more h2.o hac lr))
 o:=hout.trans ((h1.o.more lr hcb).trans (h2.o.more hac lr))
theorem MrgOk.none {g:Fn} (h:Srt L g a c):MrgOk L g g a c:=⟨h,Same.refl _ _ _,Outw.refl _ _ _⟩
structure Srch (L:Int->Int->Bool) (f:Fn) (p s0 r0 s r:Nat):Prop where
 h1:s0<=s
 h2:s<=r
 h3:r<=r0
 lo:s0<s->L (f (p-(s-1))) (f (s-1))=false
 hi:r<r0->L (f (p-r)) (f r)=true
theorem Srch.start (L:Int->Int->Bool) (f:Fn) (p s0 r0:Nat) (h:s0<=r0):Srch L f p s0 r0 s0 r0:=⟨Nat.le_refl _,h,Nat.le_refl _,fun h=>absurd h (Nat.lt_irrefl _),fun h=>absurd h (Nat.lt_irrefl _)⟩
theorem Srch.right {f:Fn} {p:Nat} (h:Srch L f p s0 r0 s r) (h1:s<=c) (h2:c<r) (hc:L (f (p-c)) (f c)=false):Srch L f p s0 r0 (c+1) r:=
 ⟨by have:=h.h1;omega,om,h.h3,fun _=>hc,h.hi⟩
theorem Srch.left {f:Fn} {p:Nat} (h:Srch L f p s0 r0 s r) (h1:s<=c) (h2:c<r) (hc:L (f (p-c)) (f c)=true):Srch L f p s0 r0 s c:=
 ⟨h.h1,h1,by have:=h.h3;omega,h.lo,fun _=>hc⟩
theorem Srch.cut {f:Fn} {mid:Nat} (ham:a<m) (hmb:m<b) (hmid:mid=(a+b)/2) (h0:(mid<m/\s0=mid+m-b/\r0=mid)\/(m<=mid/\s0=a/\r0=m)) (h:Srch L f (mid+m-1) s0 r0 s s):
 Cut L f a m b s (mid+m-s)/\s+(mid+m-s-m)=mid/\s<=mid:=by
 obtain ⟨h1,-,h3,lo,hi⟩:=h;refine ⟨⟨om,om,om,om,fun k1 k2=>?_,fun k1 k2=>?_⟩,om,om⟩
 ·have:=hi om;rw[show mid+m-s-1=mid+m-1-s by omega];exact this
 have:=lo om;rw[show mid+m-s=mid+m-1-(s-1) by omega];exact this
end Go.Proofs.YtjfhfaodbjecdaaGreat.Stab
namespace Go.Proofs.YtjfhfaodbjecdaaGreat
open Go.RowKit
variable {L:Int->Int->Bool} {a b a' b' i j m s c s0 r0 r n:Nat} {W w w1:World} {p0 p1 p2 p3 p4 p5 p6 p7 p8 p9 p10 p11:Addr} {v0 v1 v2 v3 v4 v5 v6 v7 v8 v9 v10 v11:Value} {l1 l2:Int}
theorem bq {p r:Addr} (a:Value) (h:∃x,W.cell? p=some x):∃x,(W.setCell r a).cell? p=some x:=by
 obtain ⟨x,hx⟩:=h;by_cases e:p=r
 ·subst e;exact ⟨a,World.cell?_setCell_same _ _ _ hx⟩
 exact ⟨x,(World.cell?_setCell_other _ _ _ _ (fun q=>e q.symm)).trans hx⟩
theorem be {p:Addr} {g:Nat} {a v:Value} (h:p.block≠g) (hc:W.cell? p=some v):(W.setCell ⟨g,j,none⟩ a).cell? p=some v:=
 (World.cell?_setCell_other _ _ _ _ (fun q=>h (by rw[<- q]))).trans hc
theorem dv (hb:Bl W w1) (h:Bl w W/\W.cell? p0=some v0/\W.cell? p1=some v1/\W.cell? p2=some v2/\W.cell? p3=some v3/\W.cell? p4=some v4/\W.cell? p5=some v5):
 Bl w w1/\w1.cell? p0=some v0/\w1.cell? p1=some v1/\w1.cell? p2=some v2/\w1.cell? p3=some v3/\w1.cell? p4=some v4/\w1.cell? p5=some v5:=by
 obtain ⟨q,q0,q1,q2,q3,q4,q5⟩:=h;exact ⟨q.trans (hb.mono q.size),(hb.cell (af q0).1).trans q0,(hb.cell (af q1).1).trans q1,(hb.cell (af q2).1).trans q2,(hb.cell (af q3).1).trans q3,(hb.cell (af q4).1).trans q4,(hb.cell (af q5).1).trans q5⟩
theorem qj (hb:Bl W w1) (h:Bl w W/\W.cell? p0=some v0/\W.cell? p1=some v1/\W.cell? p2=some v2/\W.cell? p3=some v3):
 Bl w w1/\w1.cell? p0=some v0/\w1.cell? p1=some v1/\w1.cell? p2=some v2/\w1.cell? p3=some v3:=by
 obtain ⟨q,q0,q1,q2,q3⟩:=h;exact ⟨q.trans (hb.mono q.size),(hb.cell (af q0).1).trans q0,(hb.cell (af q1).1).trans q1,(hb.cell (af q2).1).trans q2,(hb.cell (af q3).1).trans q3⟩
theorem ql {g:Nat} (hb:Bl W w1) (h:Bl w W/\W.cell? p0=some v0/\W.cell? p1=some v1/\W.cell? p2=some v2/\W.cell? p3=some v3/\(∃ x,W.cell? ⟨g,0,none⟩=some x)/\(∃ x,W.cell? ⟨g,1,none⟩=some x)/\W.frozen? ⟨g,0,none⟩=false/\W.frozen? ⟨g,1,none⟩=false):
 Bl w w1/\w1.cell? p0=some v0/\w1.cell? p1=some v1/\w1.cell? p2=some v2/\w1.cell? p3=some v3/\(∃ x,w1.cell? ⟨g,0,none⟩=some x)/\(∃ x,w1.cell? ⟨g,1,none⟩=some x)/\w1.frozen? ⟨g,0,none⟩=false/\w1.frozen? ⟨g,1,none⟩=false:=by
 obtain ⟨q,q0,q1,q2,q3,⟨x0,z0⟩,⟨x1,z1⟩,f0,f1⟩:=h;exact ⟨q.trans (hb.mono q.size),(hb.cell (af q0).1).trans q0,(hb.cell (af q1).1).trans q1,(hb.cell (af q2).1).trans q2,(hb.cell (af q3).1).trans q3,⟨x0,(hb.cell (af z0).1).trans z0⟩,⟨x1,(hb.cell (af z1).1).trans z1⟩,(hb.frozen (af z0).1).trans f0,(hb.frozen (af z1).1).trans f1⟩
theorem qm {g:Nat} (a0 a1:Value) (hg:w.heap.size<=g) (hn:p0.block≠g/\p1.block≠g/\p2.block≠g/\p3.block≠g) (h:Bl w W/\W.cell? p0=some v0/\W.cell? p1=some v1/\W.cell? p2=some v2/\W.cell? p3=some v3/\(∃ x,W.cell? ⟨g,0,none⟩=some x)/\(∃ x,W.cell? ⟨g,1,none⟩=some x)/\W.frozen? ⟨g,0,none⟩=false/\W.frozen? ⟨g,1,none⟩=false):
 Bl w ((W.setCell ⟨g,0,none⟩ a0).setCell ⟨g,1,none⟩ a1)/\((W.setCell ⟨g,0,none⟩ a0).setCell ⟨g,1,none⟩ a1).cell? p0=some v0/\((W.setCell ⟨g,0,none⟩ a0).setCell ⟨g,1,none⟩ a1).cell? p1=some v1/\((W.setCell ⟨g,0,none⟩ a0).setCell ⟨g,1,none⟩ a1).cell? p2=some v2/\((W.setCell ⟨g,0,none⟩ a0).setCell ⟨g,1,none⟩ a1).cell? p3=some v3/\(∃ x,((W.setCell ⟨g,0,none⟩ a0).setCell ⟨g,1,none⟩ a1).cell? ⟨g,0,none⟩=some x)/\(∃ x,((W.setCell ⟨g,0,none⟩ a0).setCell ⟨g,1,none⟩ a1).cell? ⟨g,1,none⟩=some x)/\((W.setCell ⟨g,0,none⟩ a0).setCell ⟨g,1,none⟩ a1).frozen? ⟨g,0,none⟩=false/\((W.setCell ⟨g,0,none⟩ a0).setCell ⟨g,1,none⟩ a1).frozen? ⟨g,1,none⟩=false:=by
 obtain ⟨q,q0,q1,q2,q3,⟨x0,z0⟩,⟨x1,z1⟩,f0,f1⟩:=h;obtain ⟨d0,d1,d2,d3⟩:=hn;refine ⟨((q.setCell (by exact hg) _).setCell (by exact hg) _),(be d0 (be d0 q0)),(be d1 (be d1 q1)),(be d2 (be d2 q2)),(be d3 (be d3 q3)),?_,?_,?_,?_⟩
 ·exact bq _ (bq _ (⟨x0,z0⟩))
 ·exact bq _ (bq _ (⟨x1,z1⟩))
 ·simp only[World.frozen?_setCell];exact f0
 simp only[World.frozen?_setCell];exact f1
theorem jo (hb:Bl W w1) (h:Bl w W/\W.cell? p0=some v0/\W.cell? p1=some v1):
 Bl w w1/\w1.cell? p0=some v0/\w1.cell? p1=some v1:=by
 obtain ⟨q,q0,q1⟩:=h;exact ⟨q.trans (hb.mono q.size),(hb.cell (af q0).1).trans q0,(hb.cell (af q1).1).trans q1⟩
theorem vS (hb:Bl W w1) (h:Bl w W/\W.cell? p0=some v0/\W.cell? p1=some v1/\W.cell? p2=some v2/\W.cell? p3=some v3/\W.cell? p4=some v4/\W.cell? p5=some v5/\W.cell? p6=some v6):
 Bl w w1/\w1.cell? p0=some v0/\w1.cell? p1=some v1/\w1.cell? p2=some v2/\w1.cell? p3=some v3/\w1.cell? p4=some v4/\w1.cell? p5=some v5/\w1.cell? p6=some v6:=by
 obtain ⟨q,q0,q1,q2,q3,q4,q5,q6⟩:=h;exact ⟨q.trans (hb.mono q.size),(hb.cell (af q0).1).trans q0,(hb.cell (af q1).1).trans q1,(hb.cell (af q2).1).trans q2,(hb.cell (af q3).1).trans q3,(hb.cell (af q4).1).trans q4,(hb.cell (af q5).1).trans q5,(hb.cell (af q6).1).trans q6⟩
theorem tY (hb:Bl W w1) (h:Bl w W/\W.cell? p0=some v0/\W.cell? p1=some v1/\W.cell? p2=some v2/\W.cell? p3=some v3/\W.cell? p4=some v4/\W.cell? p5=some v5/\W.cell? p6=some v6/\W.cell? p7=some v7/\W.cell? p8=some v8/\W.cell? p9=some v9/\W.cell? p10=some v10/\W.cell? p11=some v11):
 Bl w w1/\w1.cell? p0=some v0/\w1.cell? p1=some v1/\w1.cell? p2=some v2/\w1.cell? p3=some v3/\w1.cell? p4=some v4/\w1.cell? p5=some v5/\w1.cell? p6=some v6/\w1.cell? p7=some v7/\w1.cell? p8=some v8/\w1.cell? p9=some v9/\w1.cell? p10=some v10/\w1.cell? p11=some v11:=by
 obtain ⟨q,q0,q1,q2,q3,q4,q5,q6,q7,q8,q9,q10,q11⟩:=h;exact ⟨q.trans (hb.mono q.size),(hb.cell (af q0).1).trans q0,(hb.cell (af q1).1).trans q1,(hb.cell (af q2).1).trans q2,(hb.cell (af q3).1).trans q3,(hb.cell (af q4).1).trans q4,(hb.cell (af q5).1).trans q5,(hb.cell (af q6).1).trans q6,(hb.cell (af q7).1).trans q7,(hb.cell (af q8).1).trans q8,(hb.cell (af q9).1).trans q9,(hb.cell (af q10).1).trans q10,(hb.cell (af q11).1).trans q11⟩
theorem nS {p12:Addr} {v12:Value} (hb:Bl W w1) (h:Bl w W/\W.cell? p0=some v0/\W.cell? p1=some v1/\W.cell? p2=some v2/\W.cell? p3=some v3/\W.cell? p4=some v4/\W.cell? p5=some v5/\W.cell? p6=some v6/\W.cell? p7=some v7/\W.cell? p8=some v8/\W.cell? p9=some v9/\W.cell? p10=some v10/\W.cell? p11=some v11/\W.cell? p12=some v12):
 Bl w w1/\w1.cell? p0=some v0/\w1.cell? p1=some v1/\w1.cell? p2=some v2/\w1.cell? p3=some v3/\w1.cell? p4=some v4/\w1.cell? p5=some v5/\w1.cell? p6=some v6/\w1.cell? p7=some v7/\w1.cell? p8=some v8/\w1.cell? p9=some v9/\w1.cell? p10=some v10/\w1.cell? p11=some v11/\w1.cell? p12=some v12:=by
 obtain ⟨q,q0,q1,q2,q3,q4,q5,q6,q7,q8,q9,q10,q11,q12⟩:=h;exact ⟨q.trans (hb.mono q.size),(hb.cell (af q0).1).trans q0,(hb.cell (af q1).1).trans q1,(hb.cell (af q2).1).trans q2,(hb.cell (af q3).1).trans q3,(hb.cell (af q4).1).trans q4,(hb.cell (af q5).1).trans q5,(hb.cell (af q6).1).trans q6,(hb.cell (af q7).1).trans q7,(hb.cell (af q8).1).trans q8,(hb.cell (af q9).1).trans q9,(hb.cell (af q10).1).trans q10,(hb.cell (af q11).1).trans q11,(hb.cell (af q12).1).trans q12⟩
open Go.RowKit
def pI (p1 l1 p2 l2:Int):Bool:=decide (p2<p1)||(decide (p1=p2)&&decide (l2<l1))
theorem zW {p1 p2:Int} (h:p1≠p2):pI p1 l1 p2 l2=decide (p2<p1):=by unfold pI;simp[h]
theorem vT {p:Int}:pI p l1 p l2=decide (l2<l1):=by unfold pI;simp
theorem nT (t1 l1 q1 a1 t2 l2 q2 a2:Int) (p1 r1 p2 r2:Option Addr) (n1 c1 m1 d1 n2 c2 m2 d2:Nat) (w:World):
 Calls Tryz.prog 143 #[.agg #[.int .i64 t1, .slice p1 n1 c1, .int .i64 l1, .int .i64 q1, .int .i64 a1, .slice r1 m1 d1], .agg #[.int .i64 t2, .slice p2 n2 c2, .int .i64 l2, .int .i64 q2, .int .i64 a2, .slice r2 m2 d2]] w
  fun e w'=>e= .returned (.bool (pI q1 l1 q2 l2))/\Bl w w':=by
 by_cases h:q1=q2
 ·subst h;have hA:Hd (pI q1 l1 q1 l2=decide (l2<l1)):=vT;go_enter Tryz.func143,Tryz.ntmps143;exact A3
 have hA:Hd (pI q1 l1 q2 l2=decide (q2<q1)):=zW h;go_enter Tryz.func143,Tryz.ntmps143;exact A3
theorem oV (t1 l1 q1 a1 t2 l2 q2 a2:Int) (p1 r1 p2 r2:Option Addr) (n1 c1 m1 d1 n2 c2 m2 d2:Nat) (w:World):
 Calls Tryz.prog 83 #[.agg #[.int .i64 t1, .slice p1 n1 c1, .int .i64 l1, .int .i64 q1, .int .i64 a1, .slice r1 m1 d1], .agg #[.int .i64 t2, .slice p2 n2 c2, .int .i64 l2, .int .i64 q2, .int .i64 a2, .slice r2 m2 d2]] w
  fun e w'=>e= .returned (.bool (pI q1 l1 q2 l2))/\Bl w w':=by
 by_cases h:q2<q1
 ·have hA:Hd (pI q1 l1 q2 l2=true):=by show _=_;unfold pI;simp[h]
  go_enter Tryz.func83,Tryz.ntmps83;exact A3
 by_cases h2:q1=q2
 ·subst h2;have hA:Hd (pI q1 l1 q1 l2=decide (l2<l1)):=vT;go_enter Tryz.func83,Tryz.ntmps83;exact A3
 have hA:Hd (pI q1 l1 q2 l2=false):=by show _=_;unfold pI;simp[h,h2]
 go_enter Tryz.func83,Tryz.ntmps83;exact A3
theorem vU {d:Nat} (W:World):(Go.binOp .eql 60 (.agg #[.int .u64 (a:Int), .int .u64 (b:Int)]) (.agg #[.int .u64 (c:Int), .int .u64 (d:Int)])).run Tryz.prog W= .ok (.bool (decide (a=c)&&decide (b=d))) W:=by
 have e1:decide (a=c)=decide ((a:Int)=c):=by simp only[decide_eq_decide];omega
 have e2:decide (b=d)=decide ((b:Int)=d):=by simp only[decide_eq_decide];omega
 rw[e1,e2];by_cases h1:(a:Int)=c<;>by_cases h2:(b:Int)=d<;>simp[go_sem,h1,h2]
def kF (p:Pt) (n:Nat):Bool:=decide (n &&& p.m=p.v)
theorem rL (p:Pt) (n:Nat) (w:World) (hn:n<B*B) (hv:p.v<B*B) (hm:p.m<B*B):
 Calls Tryz.prog 144 #[xO p,aC n] w fun e w'=>e= .returned (.bool (kF p n))/\Bl w w':=by
 unfold xO aC;obtain ⟨v,m⟩:=p;simp only at hv hm⊢;have HA:Hd (∀ W,CR 109 #[.agg #[.int .u64 ((n/B:Nat):Int), .int .u64 ((n%B:Nat):Int)], .agg #[.int .u64 ((m/B:Nat):Int), .int .u64 ((m%B:Nat):Int)]] W (.agg #[.int .u64 (((n &&& m)/B:Nat):Int), .int .u64 (((n &&& m)%B:Nat):Int)])):=fun W=>lq n m W hn hm
 have HG:Hd (kF ⟨v,m⟩ n=(decide ((n &&& m)/B=v/B)&&decide ((n &&& m)%B=v%B))):=by
  show _=_;unfold kF;by_cases h:n &&& m=v
  ·simp[h]
  simp only[h,decide_false];symm;rw[Bool.and_eq_false_iff];by_cases h2:(n &&& m)/B=v/B
  ·right;refine decide_eq_false fun h3=>h ?_
   rw[<- Nat.div_add_mod (n &&& m) B, <-Nat.div_add_mod v B,h2,h3]
  left;exact decide_eq_false h2
 obtain ⟨nh,e1⟩:=nm (n/B);obtain ⟨nl,e2⟩:=nm (n%B);obtain ⟨mh,e3⟩:=nm (m/B);obtain ⟨ml,e4⟩:=nm (m%B);obtain ⟨vh,e5⟩:=nm (v/B);obtain ⟨vl,e6⟩:=nm (v%B);obtain ⟨rh,e7⟩:=nm ((n &&& m)/B);obtain ⟨rl,e8⟩:=nm ((n &&& m)%B);rw[<- e1, <-e2, <-e3, <-e4, <-e7, <-e8] at HA;rw[<- e5, <-e6, <-e7, <-e8] at HG;rw[<- e1, <-e2, <-e3, <-e4, <-e5, <-e6];clear e1 e2 e3 e4 e5 e6 e7 e8;obtain ⟨rb,hrb⟩:=nm (decide (rh=vh)&&decide (rl=vl));have heq:∀W,(Go.binOp .eql 60 (.agg #[.int .u64 (rh:Int), .int .u64 (rl:Int)]) (.agg #[.int .u64 (vh:Int), .int .u64 (vl:Int)])).run Tryz.prog W= .ok (.bool rb) W:=fun W=>by rw[hrb];exact vU W
 rw[<- hrb] at HG;clear hrb;go_enter Tryz.func144,Tryz.ntmps144;go_wp2_with fail;have hbx:Bl w ((w.alloc (.cells #[.int .u64 (vh:Int), .int .u64 (vl:Int), .int .u64 (mh:Int), .int .u64 (ml:Int)] 128)).alloc (.cells #[.int .u64 (nh:Int), .int .u64 (nl:Int)] 60)):=bL;generalize hX:(w.alloc (.cells #[.int .u64 (vh:Int), .int .u64 (vl:Int), .int .u64 (mh:Int), .int .u64 (ml:Int)] 128)).alloc (.cells #[.int .u64 (nh:Int), .int .u64 (nl:Int)] 60)=X at hbx;have x0:X.cell? ⟨w.heap.size,0,none⟩=some (.int .u64 (vh:Int)):=by rw[<- hX];simp[go_sem]
 have x1:X.cell? ⟨w.heap.size,1,none⟩=some (.int .u64 (vl:Int)):=by rw[<- hX];simp[go_sem]
 have x2:X.cell? ⟨w.heap.size,2,none⟩=some (.int .u64 (mh:Int)):=by rw[<- hX];simp[go_sem]
 have x3:X.cell? ⟨w.heap.size,3,none⟩=some (.int .u64 (ml:Int)):=by rw[<- hX];simp[go_sem]
 have x4:X.cell? ⟨w.heap.size+1,0,none⟩=some (.int .u64 (nh:Int)):=by rw[<- hX];simp[go_sem]
 have x5:X.cell? ⟨w.heap.size+1,1,none⟩=some (.int .u64 (nl:Int)):=by rw[<- hX];simp[go_sem]
 have hx:=hD (And.intro (below_drewN hbx 1) (And.intro x0 (And.intro x1 (And.intro x2 (And.intro x3 (And.intro x4 x5))))));clear hX hbx;go_region_held3 (fun Wk=>Below (w.heap.size) (w) Wk/\Wk.cell? ⟨w.heap.size,0,none⟩=some (.int .u64 (vh:Int))/\Wk.cell? ⟨w.heap.size,1,none⟩=some (.int .u64 (vl:Int))/\Wk.cell? ⟨w.heap.size,2,none⟩=some (.int .u64 (mh:Int))/\Wk.cell? ⟨w.heap.size,3,none⟩=some (.int .u64 (ml:Int))/\Wk.cell? ⟨w.heap.size+1,0,none⟩=some (.int .u64 (nh:Int))/\Wk.cell? ⟨w.heap.size+1,1,none⟩=some (.int .u64 (nl:Int)))
  (first|exact hx.o|exact dv hb1 (by assumption)|assumption)
  (first
  |(go_at_call 109;(with_reducible refine (HA.o _).mono ?_);rintro e w1 ⟨rfl,hb1⟩))
 rename_i hS;have HB:=hD hS.1;clear hS;go_wp2_with fail;go_ret;exact ⟨by rw[HG.o];rfl,HB.o⟩
open Go.RowKit
theorem vV {p:Pt} (h:∀j,j<128->(n.testBit j&&p.m.testBit j)=p.v.testBit j) (hn:n<B*B) (hv:p.v<B*B):kF p n=true:=by
 unfold kF;refine decide_eq_true (Nat.eq_of_testBit_eq fun j=>?_);rw[Nat.testBit_and];by_cases hj:j<128
 ·exact h j hj
 have e:B*B=2 ^ 128:=by rw[fx, <-Nat.pow_add]
 have h1:n<2 ^ j:=Nat.lt_of_lt_of_le (by rw[<- e];exact hn) (Nat.pow_le_pow_right dq om);have h2:p.v<2 ^ j:=Nat.lt_of_lt_of_le (by rw[<- e];exact hv) (Nat.pow_le_pow_right dq om);rw[Nat.testBit_lt_two_pow h1,Nat.testBit_lt_two_pow h2];rfl
theorem tZ {p:Pt} (h:(n.testBit j&&p.m.testBit j)≠p.v.testBit j):kF p n=false:=by
 unfold kF;refine decide_eq_false fun e=>h ?_
 rw[<- e,Nat.testBit_and]
theorem lO (n k:Nat) (h:k<128):ns n (k:Int)=n.testBit k:=by
 unfold ns;have h1:decide ((0:Int)<=(k:Int))=true:=decide_eq_true om;have h2:decide ((k:Int)<128)=true:=decide_eq_true om;rw[h1,h2];simp
theorem nz (p:Pt) (n:Nat) (w:World) (hn:n<B*B) (hv:p.v<B*B) (hm:p.m<B*B):
 Calls Tryz.prog 127 #[xO p,aC n] w fun e w'=>e= .returned (.bool (kF p n))/\Bl w w':=by
 unfold xO aC;obtain ⟨v,m⟩:=p;simp only at hv hm⊢;have HT:Hd ((∀ j,j<128->(n.testBit j&&m.testBit j)=v.testBit j)->kF ⟨v,m⟩ n=true):=fun h=>vV (p:=⟨v,m⟩) h hn hv
 have HF:Hd (∀ j,(n.testBit j&&m.testBit j)≠v.testBit j->kF ⟨v,m⟩ n=false):=fun j h=>tZ (p:=⟨v,m⟩) h
 have HN:Hd (∀ (k:Nat) W,k<128->CR 88 #[.agg #[.int .u64 ((n/B:Nat):Int), .int .u64 ((n%B:Nat):Int)], .int .i64 k] W (.bool (n.testBit k))):=fun k W hk=>by
  have:=gi n k hn W;rw[lO n k hk] at this;exact this
 have HM:Hd (∀ (k:Nat) W,k<128->CR 88 #[.agg #[.int .u64 ((m/B:Nat):Int), .int .u64 ((m%B:Nat):Int)], .int .i64 k] W (.bool (m.testBit k))):=fun k W hk=>by
  have:=gi m k hm W;rw[lO m k hk] at this;exact this
 have HV:Hd (∀ (k:Nat) W,k<128->CR 88 #[.agg #[.int .u64 ((v/B:Nat):Int), .int .u64 ((v%B:Nat):Int)], .int .i64 k] W (.bool (v.testBit k))):=fun k W hk=>by
  have:=gi v k hv W;rw[lO v k hk] at this;exact this
 obtain ⟨nh,e1⟩:=nm (n/B);obtain ⟨nl,e2⟩:=nm (n%B);obtain ⟨mh,e3⟩:=nm (m/B);obtain ⟨ml,e4⟩:=nm (m%B);obtain ⟨vh,e5⟩:=nm (v/B);obtain ⟨vl,e6⟩:=nm (v%B);rw[<- e1, <-e2] at HN;rw[<- e3, <-e4] at HM;rw[<- e5, <-e6] at HV;rw[<- e1, <-e2, <-e3, <-e4, <-e5, <-e6];clear e1 e2 e3 e4 e5 e6 hn hm hv;go_enter Tryz.func127,Tryz.ntmps127;go_wp2_with fail;have hbx:Bl w ((w.alloc (.cells #[.int .u64 (vh:Int), .int .u64 (vl:Int), .int .u64 (mh:Int), .int .u64 (ml:Int)] 128)).alloc (.cells #[.int .u64 (nh:Int), .int .u64 (nl:Int)] 60)):=bL;generalize hX:(w.alloc (.cells #[.int .u64 (vh:Int), .int .u64 (vl:Int), .int .u64 (mh:Int), .int .u64 (ml:Int)] 128)).alloc (.cells #[.int .u64 (nh:Int), .int .u64 (nl:Int)] 60)=X at hbx;have hsX:w.heap.size+1<X.heap.size:=by rw[<- hX];simp
 have hx:Hd (∀ W,Bl X W->Bl w W/\Cl W w.heap.size 0 (.int .u64 (vh:Int))/\Cl W w.heap.size 1 (.int .u64 (vl:Int))/\Cl W w.heap.size 2 (.int .u64 (mh:Int))/\Cl W w.heap.size 3 (.int .u64 (ml:Int))/\
  Cl W (w.heap.size+1) 0 (.int .u64 (nh:Int))/\Cl W (w.heap.size+1) 1 (.int .u64 (nl:Int))):=fun W hW=>by
  refine ⟨hbx.trans (hW.mono hbx.size),?_,?_,?_,?_,?_,?_⟩
  all_goals
   show _=_;rw[hW.cell (by first|exact hsX|exact Nat.lt_of_succ_lt hsX), <-hX];simp[go_sem]
 clear hX hbx;go_loopw [5,6] (fun i u wr=>∃k:Nat,k<=128/\i= .int .i64 k/\Hd (∀ j,j<k->(n.testBit j&&m.testBit j)=v.testBit j)/\Hd (Bl X wr)) (fun i _ _=>128-(intOf i).toNat)
 case atStart=>exact ⟨0,om,rfl,fun j h=>absurd h om,Below.refl _ _⟩
 case round=>
  obtain ⟨k,hk,rfl,HJ,HW⟩:=hrel;by_cases hlt:k<128
  ·obtain ⟨-,x0,x1,x2,x3,x4,x5⟩:=hx.o wr HW.o;obtain ⟨bn,hbn⟩:=nm (n.testBit k);obtain ⟨bm,hbm⟩:=nm (m.testBit k);obtain ⟨bv,hbv⟩:=nm (v.testBit k);have HNk:=hD (fun W=>HN.o k W hlt);have HMk:=hD (fun W=>HM.o k W hlt);have HVk:=hD (fun W=>HV.o k W hlt);rw[<- hbn] at HNk;rw[<- hbm] at HMk;rw[<- hbv] at HVk;have Hbn:=hD hbn;have Hbm:=hD hbm;have Hbv:=hD hbv;clear hbn hbm hbv;cases bn
   ·go_wp2_with fail;refine (HNk.o _).mono ?_;rintro e w1 ⟨rfl,hb1⟩;have HW1:=hD (HW.o.trans (hb1.mono HW.o.size));clear hb1 x0 x1 x2 x3 x4 x5 HW;obtain ⟨-,x0,x1,x2,x3,x4,x5⟩:=hx.o w1 HW1.o;go_wp2_with fail;refine (HVk.o _).mono ?_;rintro e w2 ⟨rfl,hb1⟩;have HW2:=hD (HW1.o.trans (hb1.mono HW1.o.size));clear hb1 x0 x1 x2 x3 x4 x5 HW1;cases bv
    ·go_wp2_with fail;go_roundw
     case rel=>exact ⟨k+1,om,by go_num,fun j hj=>by
      by_cases e:j=k
      ·rw[e, <-Hbn.o, <-Hbv.o];rfl
      ·exact HJ.o j om,HW2⟩
     case measure=>exact mz
    ·go_wp2_with fail;go_ret;exact ⟨by rw[HF.o k (by rw[<- Hbn.o, <-Hbv.o];simp)];rfl,(hx.o w2 HW2.o).1⟩
   ·go_wp2_with fail;refine (HNk.o _).mono ?_;rintro e w1 ⟨rfl,hb1⟩;have HW1:=hD (HW.o.trans (hb1.mono HW.o.size));clear hb1 x0 x1 x2 x3 x4 x5 HW;obtain ⟨-,x0,x1,x2,x3,x4,x5⟩:=hx.o w1 HW1.o;go_wp2_with fail;refine (HMk.o _).mono ?_;rintro e w2 ⟨rfl,hb1⟩;have HW2:=hD (HW1.o.trans (hb1.mono HW1.o.size));clear hb1 x0 x1 x2 x3 x4 x5 HW1;obtain ⟨-,x0,x1,x2,x3,x4,x5⟩:=hx.o w2 HW2.o;go_wp2_with fail;refine (HVk.o _).mono ?_;rintro e w3 ⟨rfl,hb1⟩;have HW3:=hD (HW2.o.trans (hb1.mono HW2.o.size));clear hb1 x0 x1 x2 x3 x4 x5 HW2;cases bm<;>cases bv
    all_goals
     go_wp2_with fail
     first
     |(go_ret;exact ⟨by rw[HF.o k (by rw[<- Hbn.o, <-Hbv.o, <-Hbm.o];simp)];rfl,(hx.o w3 HW3.o).1⟩)
     |(
      go_roundw
      case rel=>exact ⟨k+1,om,by go_num,fun j hj=>by
       by_cases e:j=k
       ·rw[e, <-Hbn.o, <-Hbv.o, <-Hbm.o];rfl
       ·exact HJ.o j om,HW3⟩
      case measure=>simp[intOf];omega)
  obtain rfl:k=128:=om;go_wp2_with fail;go_ret;exact ⟨by rw[HT.o HJ.o];rfl,(hx.o wr HW.o).1⟩
end Go.Proofs.YtjfhfaodbjecdaaGreat
