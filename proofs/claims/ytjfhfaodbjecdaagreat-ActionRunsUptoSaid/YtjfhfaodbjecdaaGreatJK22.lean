/- Lemmas. -/
import Derived.Test.YtjfhfaodbjecdaaGreatJK21
import Derived.Test.YtjfhfaodbjecdaaGreatJK17
set_option maxHeartbeats 12800000
set_option maxRecDepth 100000
namespace Go.Proofs.YtjfhfaodbjecdaaGreat
open Stab
variable {a n:Nat} {y:Pkt} {i:Ist} {w:World} {c:List Ist}
theorem jR (n:Nat) (w:Int):bH (n%2 ^ sh w) w=true:=by unfold bH;rw[Nat.mod_mod];simp
theorem rP (w:Int):bH 0 w=true:=by unfold bH;rw[Nat.zero_mod];simp
theorem cH {l:List Nat} {ws:List Int}:eP l ws=true↔l.length=ws.length/\∀(j:Nat) (a:Nat),l[j]?=some a->bH a (ws.getD j 0)=true:=by
 unfold eP;rw[Bool.and_eq_true,decide_eq_true_eq];constructor
 ·rintro ⟨h1,h2⟩;refine ⟨h1,fun j a hj=>?_⟩;have hlt:j<ws.length:=by have:=(bO hj).1;omega
  have:=List.all_eq_true.1 h2 (a,ws.getD j 0) (List.mem_iff_getElem?.2 ⟨j,List.getElem?_zip_eq_some.2 ⟨hj,aA 0 hlt⟩⟩);exact this
 rintro ⟨h1,h2⟩;refine ⟨h1,List.all_eq_true.2 fun y hy=>?_⟩;obtain ⟨j,hj⟩:=List.mem_iff_getElem?.1 hy;obtain ⟨e1,e2⟩:=List.getElem?_zip_eq_some.1 hj;have:=h2 j y.1 e1
 rwa [getD_some e2] at this
structure PktF (p:Prg) (x:Pkt):Prop where
 v:x.valid.length=p.heads.length
 f:x.fields.length=p.heads.length
 m:x.metas.length=p.metas.length
 mf:∀(j:Nat) (a:Nat),x.metas[j]?=some a->bH a (p.metas.getD j 0)=true
 fl:∀(h:Nat) (l:List Nat),x.fields[h]?=some l->l.length=(p.heads.getD h []).length
 ff:∀(h:Nat) (l:List Nat),x.fields[h]?=some l->∀(j:Nat) (a:Nat),l[j]?=some a->bH a ((p.heads.getD h []).getD j 0)=true
 z:∀(h:Nat) (l:List Nat),x.fields[h]?=some l->x.valid.getD h false=false->∀a∈l,a=0
theorem db {p:Prg} {x:Pkt}:nk p x=true↔PktF p x:=by
 unfold nk;rw[Bool.and_eq_true,Bool.and_eq_true,decide_eq_true_eq,cH,aN];constructor
 ·rintro ⟨⟨⟨h1,h2⟩,h3,h4⟩,h5⟩;refine ⟨h1,h2,h3,h4,fun h l hl=>?_,fun h l hl=>?_,fun h l hl hv a ha=>?_⟩;all_goals
   have h6:=h5 h l hl;simp only[Nat.zero_add,Bool.and_eq_true] at h6
  ·exact (cH.1 h6.1).1
  ·exact (cH.1 h6.1).2
  ·have:=h6.2;rw[hv,Bool.false_or,List.all_eq_true] at this;exact of_decide_eq_true (this a ha)
 intro h;refine ⟨⟨⟨h.v,h.f⟩,h.m,h.mf⟩,fun j l hl=>?_⟩;simp only[Nat.zero_add,Bool.and_eq_true];refine ⟨cH.2 ⟨h.fl j l hl,h.ff j l hl⟩,?_⟩;cases hv:x.valid.getD j false
 ·rw[Bool.false_or,List.all_eq_true];exact fun a ha=>decide_eq_true (h.z j l hl hv a ha)
 ·rfl
theorem PktF.get {p:Prg} {x:Pkt} (h:PktF p x) {a b:Int} (ht:fJ x a b):tL x a b=(x.fields.getD a.toNat []).getD b.toNat 0:=by
 unfold tL;cases hv:x.valid.getD a.toNat false
 ·rw[if_neg sm];obtain ⟨h1,h2,h3,h4,h5⟩:=ht;have h6:=aA (l:=x.fields) (j:=a.toNat) [] om;have h7:=aA (l:=x.fields.getD a.toNat []) (j:=b.toNat) 0 om;exact (h.z _ _ h6 hv _ (List.mem_iff_getElem?.2 ⟨_,h7⟩)).symm
 ·rw[if_pos ⟨ht,rfl⟩]
theorem PktF.other {p:Prg} {x:Pkt} (h:PktF p x) (h1:y.valid=x.valid) (h2:y.fields=x.fields) (h3:y.metas=x.metas):PktF p y:=by
 refine ⟨by rw[h1];exact h.v,by rw[h2];exact h.f,by rw[h3];exact h.m,by rw[h3];exact h.mf,by rw[h2];exact h.fl,by rw[h2];exact h.ff,by rw[h1,h2];exact h.z⟩
theorem PktF.metas_set {p:Prg} {x:Pkt} (h:PktF p x) (i:Nat) (n:Nat) (hn:bH n (p.metas.getD i 0)=true):PktF p { x with metas:=x.metas.set i n }:=by
 refine ⟨h.v,h.f,by rw[<- h.m];simp,fun j a hj=>?_,h.fl,h.ff,h.z⟩;simp only[List.getElem?_set] at hj;split at hj
 ·rename_i e;subst e;split at hj
  ·cases hj;exact hn
  cases hj
 exact h.mf j a hj
theorem PktF.field_set {p:Prg} {x:Pkt} (h:PktF p x) (i:Nat) (l:List Nat) (h1:l.length=(p.heads.getD i []).length) (h2:∀(j:Nat) (a:Nat),l[j]?=some a->bH a ((p.heads.getD i []).getD j 0)=true) (on:List Bool) (h3:on.length=x.valid.length) (h4:∀j,j≠i->on.getD j false=x.valid.getD j false) (h5:on.getD i false=false->∀a∈l,a=0):
 PktF p { x with valid:=on,fields:=x.fields.set i l }:=by
 refine ⟨by rw[<- h.v];exact h3,by rw[<- h.f];simp,h.m,h.mf,fun k r hk=>?_,fun k r hk=>?_,fun k r hk=>?_⟩;all_goals
  simp only[List.getElem?_set] at hk;split at hk
  ·rename_i e;subst e;split at hk
   ·cases hk;assumption
   ·cases hk
  ·rename_i e
   first
   |exact h.fl k r hk
   |exact h.ff k r hk
   |(intro hv;rw[show ({ x with valid:=on,fields:=x.fields.set i l }:Pkt).valid=on from rfl,h4 k (fun e2=>e e2.symm)] at hv;exact h.z k r hk hv)
theorem nV {p:Prg} {x:Pkt} (hx:PktF p x) (h f:Int) (n:Nat):PktF p (gj p x h f n):=by
 unfold gj;split
 ·rename_i ht;split
  ·rename_i hv;obtain ⟨h1,h2,h3,h4,h5⟩:=ht;have h6:=aA (l:=x.fields) (j:=h.toNat) [] om;refine hx.field_set h.toNat _ (by rw[List.length_set];exact hx.fl _ _ h6) (fun j a hj=>?_) x.valid rfl (fun _ _=>rfl) (fun e=>by rw[hv] at e;cases e);simp only[List.getElem?_set] at hj;split at hj
   ·rename_i e;subst e;split at hj
    ·cases hj;exact jR n _
    cases hj
   exact hx.ff _ _ h6 j a hj
  exact hx.other rfl rfl rfl
 exact hx
theorem km {p:Prg} {x:Pkt} (hx:PktF p x) (h:Int) (on:Bool):PktF p (ba x h on):=by
 unfold ba;split
 ·rename_i ht;obtain ⟨h1,h2,h3,h4⟩:=ht;have h6:=aA (l:=x.fields) (j:=h.toNat) [] om;refine hx.field_set h.toNat _ (by rw[List.length_map];exact hx.fl _ _ h6) (fun j a hj=>?_) _ sm (fun j hj=>?_) (fun _ a ha=>?_)
  ·rw[List.getElem?_map] at hj;cases hq:(x.fields.getD h.toNat [])[j]? with
   |none=>rw[hq] at hj;cases hj
   |some b=>rw[hq] at hj;cases hj;exact rP _
  ·rw[List.getD_eq_getElem?_getD,List.getElem?_set_ne (fun e=>hj e.symm), <-List.getD_eq_getElem?_getD]
  obtain ⟨b,-,rfl⟩:=List.mem_map.1 ha;rfl
 exact hx
structure Stays (x y:Pkt):Prop where
 rest:y.rest=x.rest
 port:y.port=x.port
 sent:x.sent=true->y.sent=true
 acc:x.access=true->y.access=true
theorem Stays.refl (x:Pkt):Stays x x:=⟨rfl,rfl,id,id⟩
theorem Stays.trans {x z:Pkt} (h1:Stays x y) (h2:Stays y z):Stays x z:=⟨h2.rest.trans h1.rest,h2.port.trans h1.port,fun h=>h2.sent (h1.sent h),fun h=>h2.acc (h1.acc h)⟩
theorem gl (x:Pkt) (c:List Nod):Stays x (aQ x c):=⟨rfl,rfl,id,fun h=>by show (x.access||_)=true;rw[h];rfl⟩
theorem rQ (p:Prg) (x:Pkt) (h f:Int) (n:Nat):Stays x (gj p x h f n):=by
 unfold gj;split
 ·split
  ·exact ⟨rfl,rfl,id,id⟩
  exact ⟨rfl,rfl,id,fun _=>rfl⟩
 exact Stays.refl x
theorem gm (x:Pkt) (h:Int) (on:Bool):Stays x (ba x h on):=by
 unfold ba;split
 ·exact ⟨rfl,rfl,id,id⟩
 exact Stays.refl x
def ju (e:Int) (y:Pkt):Prop:=y.egress=e\/(0<=y.egress/\y.egress<512)
def rR (p:Prg) (act:Int) (i:Ist):Prop:=∃k many,bX p act i k many=true
theorem eo {p:Prg} {act:Int} (h:rR p act i):∃w,bK p act i=some w/\((w=0/\i.e.length=0)\/(w≠0/\aL p act i.e=some w)):=by
 obtain ⟨k,many,h⟩:=h;unfold bX at h;split at h
 ·cases h
 rename_i w hw;refine ⟨w,hw,?_⟩;rw[Bool.and_eq_true] at h;have h2:=h.2;split at h2
 ·exact .inl ⟨by assumption,of_decide_eq_true h2⟩
 exact .inr ⟨by assumption,of_decide_eq_true h2⟩
theorem cI {p:Prg} {act w:Int} {c:List Nod} (x:Pkt) (args:List Nat) (h:aL p act c=some w):ct x args c<2 ^ sh w:=by
 obtain ⟨t,rfl,ht⟩:=kK h;rw[lT x args ht];have:=zw x args t
 rwa [ht.root.1] at this
theorem Ef:2 ^ sh 9=512:=by decide
theorem iF {p:Prg} {act:Int} {w:Int} (h:bK p act i=some w) (hk:i.k=5):w=9:=by
 unfold bK at h;rw[hk] at h;simp only[show ¬(5:Int)=1 by decide,show ¬(5:Int)=2 by decide,show ¬(5:Int)=3 by decide,show ¬(5:Int)=6 by decide,show ¬(5:Int)=7 by decide,if_false,if_true,false_or,true_or] at h;split at h
 ·cases h;rfl
 cases h
theorem nW {p:Prg} {act:Int} {x:Pkt} (args:List Nat) (hx:PktF p x) (hi:rR p act i) (e:Int) (hg:ju e x):
 PktF p (dw p args x i)/\Stays x (dw p args x i)/\ju e (dw p args x i):=by
 have hs:PktF p (aQ x i.e):=hx.other rfl rfl rfl;have gs:ju e (aQ x i.e):=hg;unfold dw;split
 ·refine ⟨nV hs _ _ _,(gl x i.e).trans (rQ p _ _ _ _),?_⟩;unfold gj;split
  ·split<;>exact hg
  exact gs
 split
 ·exact ⟨hs.metas_set i.a.toNat _ (jR _ _),(gl x i.e).trans ⟨rfl,rfl,id,id⟩,hg⟩
 split
 ·exact ⟨hx.other rfl rfl rfl,⟨rfl,rfl,id,id⟩,hg⟩
 split
 ·rename_i hk;refine ⟨hs.other rfl rfl rfl,(gl x i.e).trans ⟨rfl,rfl,fun _=>rfl,id⟩, .inr ⟨by show (0:Int)<=((ct x args i.e:Nat):Int);omega,?_⟩⟩;obtain ⟨w,h1,h2⟩:=eo hi;have hw:=iF h1 hk;subst hw;rcases h2 with ⟨h2,-⟩|⟨-,h2⟩
  ·cases h2
  have:=cI x args h2;rw[Ef] at this;show ((ct x args i.e:Nat):Int)<512;omega
 split
 ·refine ⟨km hx _ _,gm x _ _,?_⟩;unfold ba;split<;>exact hg
 split
 ·exact ⟨hs,gl x i.e,gs⟩
 exact ⟨hx,Stays.refl x,hg⟩
theorem lW {p:Prg} {act:Int} {ap:Pkt->Ist->Pkt} (args:List Nat) (c:List Ist) (e:Int) (hc:∀i∈c,rR p act i)
 (hap:∀(x:Pkt) (i:Ist),i∈c->i.k=3->PktF p x->ju e x->PktF p (ap x i)/\Stays x (ap x i)/\ju e (ap x i)):
 ∀(k at':Nat) (x:Pkt),PktF p x->ju e x->PktF p (ic p ap args c k at' x)/\Stays x (ic p ap args c k at' x)/\ju e (ic p ap args c k at' x):=by
 intro k;induction k with
 |zero=>intro at' x hx hg;exact ⟨hx,Stays.refl x,hg⟩
 |succ k ih=>
  intro at' x hx hg;rw[ic];split
  ·rename_i hlt;have hm:hQ c at'∈c:=by
    unfold hQ;rw[List.getD_eq_getElem?_getD,bS hlt];exact List.getElem_mem _
   simp only;split
   ·rename_i h3;obtain ⟨a1,a2,a3⟩:=hap x _ hm h3 hx hg;obtain ⟨b1,b2,b3⟩:=ih (bB args x (hQ c at') at') _ a1 a3;exact ⟨b1,a2.trans b2,b3⟩
   obtain ⟨a1,a2,a3⟩:=nW args hx (hc _ hm) e hg;obtain ⟨b1,b2,b3⟩:=ih (bB args x (hQ c at') at') _ a1 a3;exact ⟨b1,a2.trans b2,b3⟩
  exact ⟨hx,Stays.refl x,hg⟩
theorem dU {p:Prg} {act:Int} {l:List Ist} (h:aH p act l=true):∀i∈l,rR p act i:=by
 intro i hi;unfold aH at h;rw[Bool.and_eq_true] at h;obtain ⟨j,hj⟩:=List.mem_iff_getElem?.1 hi;exact ⟨_,_,aN.1 h.2 j i hj⟩
def jS (p:Prg):Prop:=∀(a:Nat) (x:Actn),p.acts[a]?=some x->aH p (a:Int) x.body=true
theorem lZ {p:Prg} (hb:jS p) (l:List Ent) {x:Pkt} (e:Int) (hx:PktF p x) (hg:ju e x):PktF p (eK p l x i)/\Stays x (eK p l x i)/\ju e (eK p l x i):=by
 unfold eK;simp only;have hx2:PktF p (dT x (dK p i.a).keys):=hx.other rfl rfl rfl;have hs:Stays x (dT x (dK p i.a).keys):=⟨rfl,rfl,id,fun h=>by show (x.access||_)=true;rw[h];rfl⟩;have hg2:ju e (dT x (dK p i.a).keys):=hg;generalize lV l i.a _ _=gs;generalize jt l i.a _ _=a;generalize dT x _=y at hx2 hs hg2;by_cases hlt:a.toNat<p.acts.length
 ·have h6:=aA (l:=p.acts) (j:=a.toNat) ⟨[],[]⟩ hlt;have hm:=hb _ _ h6;obtain ⟨b1,b2,b3⟩:=lW (p:=p) (act:=(a.toNat:Int)) (ap:=fun x _=>x) gs (cZ p a).body e (dU hm) (fun x _ _ _ h1 h2=>⟨h1,Stays.refl x,h2⟩) (cZ p a).body.length 0 y hx2 hg2;exact ⟨b1,hs.trans b2,b3⟩
 have h7:cZ p a=⟨[],[]⟩:=by unfold cZ;rw[List.getD_eq_getElem?_getD,List.getElem?_eq_none om];rfl
 rw[h7];exact ⟨hx2,hs,hg2⟩
theorem wj {p:Prg} {act:Int} (hb:jS p) (l:List Ent) (args:List Nat) (hc:aH p act c=true) {x:Pkt} (e:Int) (hx:PktF p x) (hg:ju e x):PktF p (wh p l args c x)/\Stays x (wh p l args c x)/\ju e (wh p l args c x):=
 lW (ap:=eK p l) args c e (dU hc) (fun x i _ _ h1 h2=>lZ hb l e h1 h2) c.length 0 x hx hg
theorem qw {p:Prg} {act:Int} (args:List Nat) (hc:aH p act c=true) {x:Pkt} (e:Int) (hx:PktF p x) (hg:ju e x):PktF p (nB p args c x)/\Stays x (nB p args c x)/\ju e (nB p args c x):=
 lW (ap:=fun x _=>x) args c e (dU hc) (fun x _ _ _ h1 h2=>⟨h1,Stays.refl x,h2⟩) c.length 0 x hx hg
open Go.RowKit
def gq (a b:Nat):Int:=if a<b then -1 else if b<a then 1 else 0
theorem yn {b:Nat} (h:a<b):gq a b= -1:=by unfold gq;rw[if_pos h]
theorem yo {b:Nat} (h:b<a):gq a b=1:=by unfold gq;rw[if_neg om,if_pos h]
theorem yp {b:Nat} (h:a=b):gq a b=0:=by unfold gq;rw[if_neg om,if_neg om]
theorem iS {x y:Nat} (i:Nat) (hx:x.testBit i=false) (hy:y.testBit i=true) (h:∀j,i<j->x.testBit j=y.testBit j):x<y:=by
 have hd:x/2 ^ (i+1)=y/2 ^ (i+1):=by
  apply Nat.eq_of_testBit_eq;intro j;rw[Nat.testBit_div_two_pow,Nat.testBit_div_two_pow];exact h _ om
 have ex:=Nat.div_add_mod x (2 ^ (i+1));have ey:=Nat.div_add_mod y (2 ^ (i+1));have mx:=Nat.mod_pow_succ (x:=x) (b:=2) (k:=i);have my:=Nat.mod_pow_succ (x:=y) (b:=2) (k:=i);rw[fB,beq_eq_false_iff_ne] at hx;rw[fB,beq_iff_eq] at hy;have hx0:x/2 ^ i%2=0:=om;rw[hx0,Nat.mul_zero] at mx;rw[hy,Nat.mul_one] at my;have l:=Nat.mod_lt x (Nat.two_pow_pos i);rw[hd] at ex;omega
def mi (a b m:Nat):Prop:=∀i,m<=i->a.testBit i=b.testBit i
theorem iY (a b:Nat) (ha:a<B*B) (hb:b<B*B) (w:World):
 Calls Tryz.prog 29 #[aC a,aC b] w fun e w'=>e= .returned (.int .i64 (gq a b))/\Bl w w':=by
 obtain ⟨fa,hfa⟩:=nm a.testBit;obtain ⟨fb,hfb⟩:=nm b.testBit;have HA:Hd (∀ W,CR 52 #[aC a] W (.agg (aw fa))):=fun W=>by rw[hfa];exact aK a ha W
 have HB:Hd (∀ W,CR 52 #[aC b] W (.agg (aw fb))):=fun W=>by rw[hfb];exact aK b hb W
 have HFA:=hD hfa;have HFB:=hD hfb;obtain ⟨h1,l1,e1,-,-⟩:=ae a;obtain ⟨h2,l2,e2,-,-⟩:=ae b;rw[e1] at HA⊢;rw[e2] at HB⊢;clear e1 e2 hfa hfb;go_enter Tryz.func29,Tryz.ntmps29;go_wp2_with fail;obtain ⟨W0,hW0⟩:=nm ((w.alloc (.cells #[.int .u64 (h1:Int), .int .u64 (l1:Int)] 60)).alloc (.cells #[.int .u64 (h2:Int), .int .u64 (l2:Int)] 60));have hbW:Bl w W0:=by rw[hW0];exact bL
 have z0:w.heap.size<W0.heap.size:=by rw[hW0];simp<;>omega
 have z1:w.heap.size+1<W0.heap.size:=by rw[hW0];simp
 have c0:W0.cell? ⟨w.heap.size,0,none⟩=some (.int .u64 (h1:Int)):=by rw[hW0];simp[go_sem]
 have c1:W0.cell? ⟨w.heap.size,1,none⟩=some (.int .u64 (l1:Int)):=by rw[hW0];simp[go_sem]
 have c2:W0.cell? ⟨w.heap.size+1,0,none⟩=some (.int .u64 (h2:Int)):=by rw[hW0];simp[go_sem]
 have c3:W0.cell? ⟨w.heap.size+1,1,none⟩=some (.int .u64 (l2:Int)):=by rw[hW0];simp[go_sem]
 rw[<- hW0];have HBW0:=hD hbW;clear hW0 hbW;refine dt kq (fun L a' w'=>∃v5 v6 v8 v9 v10 v11:Value,a'=⟨#[.agg #[.int .u64 (h1:Int), .int .u64 (l1:Int)], .agg #[.int .u64 (h2:Int), .int .u64 (l2:Int)], .pointer (some ⟨w.heap.size,0,none⟩), .pointer (some ⟨w.heap.size+1,0,none⟩), .int .i64 0,v5,v6,undef,v8,v9,v10,v11,undef,undef,undef,undef,undef,undef,undef,undef,undef,undef,undef,undef,undef,undef,undef,undef,undef,undef,undef,undef,undef,undef],[]⟩/\TwoI (.agg #[.int .u64 (h1:Int), .int .u64 (l1:Int)]) (.agg #[.int .u64 (h2:Int), .int .u64 (l2:Int)]) fa fb W0 L v5 v6 v8 v9 v10 v11 w') ?_ ?_ ?_ ?_
 ·exact AX
 ·exact gC
 ·exact gN
 rintro L a' w' hall ⟨v5,v6,v8,v9,v10,v11,rfl,hI⟩;obtain ⟨rfl,rfl,rfl,rfl,gx,gy,hgn,rfl,rfl,hgx,hgy,hrx,hry,hbw⟩:=hI.all hall;have HRX:=hD hrx;have HRY:=hD hry;have HBW:=hD hbw;have HGN:=hD hgn;clear hI hall hrx hry hbw hgn HA HB c0 c1 c2 c3;have hwb:Bl w w':=HBW0.o.trans (HBW.o.mono HBW0.o.size);have HWB:=hD hwb;have HS0:Hd (mi a b 128):=fun i hi=>by
  rw[aY] at ha hb;rw[Nat.testBit_lt_two_pow (Nat.lt_of_lt_of_le ha (Nat.pow_le_pow_right om hi)),Nat.testBit_lt_two_pow (Nat.lt_of_lt_of_le hb (Nat.pow_le_pow_right om hi))]
 clear HBW HBW0 z0 z1 HGN hwb;go_wp2_with fail;go_loop [7] (fun i=>∃m:Nat,m<=128/\i= .int .i64 ((m:Int)-1)/\Hd (mi a b m)) (fun i=>(intOf i+1).toNat)
 case atStart=>exact ⟨128,Nat.le_refl _,by go_num,HS0⟩
 case round=>
  obtain ⟨m,hm,rfl,HK⟩:=hrel;cases m with
  |zero=>
   have HE:Hd (gq a b=0):=yp (Nat.eq_of_testBit_eq fun i=>HK.o i (zl));exact CE
  |succ j=>
   have hj:j<128:=om;have ej:(((j+1:Nat):Int)-1)=(j:Int):=om;rw[ej];clear ej;have r1:w'.cell? ⟨gx,j,none⟩=some (.bool (fa j)):=by rw[cell_of_row w' gx j _ _ _ HRX.o];exact eA _ j hj
   have r2:w'.cell? ⟨gy,j,none⟩=some (.bool (fb j)):=by rw[cell_of_row w' gy j _ _ _ HRY.o];exact eA _ j hj
   have HBA:Hd (a.testBit j=fa j):=by show _=_;rw[HFA.o]
   have HBB:Hd (b.testBit j=fb j):=by show _=_;rw[HFB.o]
   have HLT:Hd (fa j=false->fb j=true->gq a b= -1):=fun h1 h2=>yn (iS j (by rw[HBA.o,h1]) (by rw[HBB.o,h2]) (fun i hi=>HK.o i hi))
   have HGT:Hd (fa j=true->fb j=false->gq a b=1):=fun h1 h2=>yo (iS j (by rw[HBB.o,h2]) (by rw[HBA.o,h1]) (fun i hi=>(HK.o i hi).symm))
   have HEQ:Hd (fa j=fb j->mi a b j):=fun h i hi=>by
    rcases Nat.lt_or_ge j i with h1|h1
    ·exact HK.o i h1
    ·obtain rfl:i=j:=om
     rw[HBA.o,HBB.o,h]
   cases hf1:fa j<;>cases hf2:fb j
   ·exact DD
   ·have HE:=hD (HLT.o hf1 hf2);rw[hf1] at r1;rw[hf2] at r2;clear hf1 hf2;exact CE
   ·have HE:=hD (HGT.o hf1 hf2);rw[hf1] at r1;rw[hf2] at r2;clear hf1 hf2;exact CE
   ·exact DD
open Go.RowKit
structure KS where
 rp:Option Addr
 rn:Nat
 rc:Nat
 vp:Option Addr
 vn:Nat
 vc:Nat
 fp:Option Addr
 fn:Nat
 fc:Nat
 mp:Option Addr
 mn:Nat
 mc:Nat
@[simp] abbrev kA (k:KS) (po:Int) (dr se:Bool) (eg:Int) (ac:Bool):Array Value:=#[.int .i64 po, .slice k.rp k.rn k.rc, .slice k.vp k.vn k.vc, .slice k.fp k.fn k.fc, .slice k.mp k.mn k.mc, .bool dr, .bool se, .int .i64 eg, .bool ac]
@[simp] abbrev kL (k:KS) (po:Int) (dr se:Bool) (eg:Int) (ac:Bool):List Value:=[.int .i64 po, .slice k.rp k.rn k.rc, .slice k.vp k.vn k.vc, .slice k.fp k.fn k.fc, .slice k.mp k.mn k.mc, .bool dr, .bool se, .int .i64 eg, .bool ac]
def kV (k:KS) (po:Int) (dr se:Bool) (eg:Int) (ac:Bool):Value:= .agg #[.int .i64 po, .slice k.rp k.rn k.rc, .slice k.vp k.vn k.vc, .slice k.fp k.fn k.fc, .slice k.mp k.mn k.mc, .bool dr, .bool se, .int .i64 eg, .bool ac]
structure KOk (w:World) (k:KS) (x:Pkt):Prop where
 r:URow w (.slice k.rp k.rn k.rc) x.rest
 v:BRow w (.slice k.vp k.vn k.vc) x.valid
 f:NsRow w (.slice k.fp k.fn k.fc) x.fields
 m:NRow w (.slice k.mp k.mn k.mc) x.metas
theorem KOk.below {w':World} {k:KS} {x:Pkt} (h:KOk w k x) (hb:Bl w w'):KOk w' k x:=⟨h.r.below jg hb,h.v.below nU hb,h.f.below lR hb,h.m.below aM hb⟩
theorem PktV.ks {v:Value} {x:Pkt} (h:PktV w v x):∃k,v=kV k x.port x.dropped x.sent x.egress x.access/\KOk w k x:=by
 obtain ⟨p1,n1,c1,p2,n2,c2,p3,n3,c3,p4,n4,c4,e,h1,h2,h3,h4⟩:=h;exact ⟨⟨p1,n1,c1,p2,n2,c2,p3,n3,c3,p4,n4,c4⟩,e,h1,h2,h3,h4⟩
def KBox (w:World) (g:Nat) (k:KS) (po:Int) (dr se:Bool) (eg:Int) (ac:Bool):Prop:=w.heap[g]?=some (.cells #[.int .i64 po, .slice k.rp k.rn k.rc, .slice k.vp k.vn k.vc, .slice k.fp k.fn k.fc, .slice k.mp k.mn k.mc, .bool dr, .bool se, .int .i64 eg, .bool ac] 40 (0,0))
section
variable {w w':World} {g:Nat} {k:KS} {po eg:Int} {dr se ac:Bool}
theorem KBox.cells (h:KBox w g k po dr se eg ac):w.cell? ⟨g,0,none⟩=some (.int .i64 po)/\w.cell? ⟨g,1,none⟩=some (.slice k.rp k.rn k.rc)/\w.cell? ⟨g,2,none⟩=some (.slice k.vp k.vn k.vc)/\w.cell? ⟨g,3,none⟩=some (.slice k.fp k.fn k.fc)/\w.cell? ⟨g,4,none⟩=some (.slice k.mp k.mn k.mc)/\w.cell? ⟨g,5,none⟩=some (.bool dr)/\w.cell? ⟨g,6,none⟩=some (.bool se)/\w.cell? ⟨g,7,none⟩=some (.int .i64 eg)/\w.cell? ⟨g,8,none⟩=some (.bool ac):=by
 unfold KBox at h;refine ⟨?_,?_,?_,?_,?_,?_,?_,?_,?_⟩<;>simp[World.cell?,h]
theorem KBox.below (h:KBox w g k po dr se eg ac) (hb:Bl w w'):KBox w' g k po dr se eg ac:=(hb.block g (bV h).1).trans h
end
theorem BRow.el {p:Option Addr} {c:Nat} {l:List Bool} (h:BRow w (.slice p n c) l) {j:Nat} {x:Bool} (hj:l[j]?=some x):∃b o,p=some ⟨b,o,none⟩/\b<w.heap.size/\w.cell? ⟨b,o+j,none⟩=some (.bool x):=by
 obtain ⟨b,o,e,h1,h2⟩:=h.get hj;rw[Nat.mul_one] at h2;exact ⟨b,o,e,h1,h2⟩
theorem NsRow.el {p:Option Addr} {c:Nat} {l:List (List Nat)} (h:NsRow w (.slice p n c) l) {j:Nat} {x:List Nat} (hj:l[j]?=some x):∃b o p1 n1 c1,p=some ⟨b,o,none⟩/\b<w.heap.size/\w.cell? ⟨b,o+j,none⟩=some (.slice p1 n1 c1)/\NRow w (.slice p1 n1 c1) x:=by
 exact Cb
theorem ue {p:Prg} {x:Pkt} {i:Nat} {l:List Nat} (hl:x.fields[i]?=some l) (h:eP l (p.heads.getD i [])=false):nk p x=false:=by
 rw[Bool.eq_false_iff];intro hc;have hF:=db.1 hc;rw[Bool.eq_false_iff] at h;exact h (cH.2 ⟨hF.fl i l hl,hF.ff i l hl⟩)
theorem Aa {p:Prg} {x:Pkt} {i k:Nat} {l:List Nat} (hl:x.fields[i]?=some l) (hv:x.valid.getD i false=false) (hn:l[k]?=some n) (h:n≠0):nk p x=false:=by
 rw[Bool.eq_false_iff];intro hc;exact h ((db.1 hc).z i l hl hv n (cX hn))
theorem nY {p:Prg} {x:Pkt} (h:¬(x.valid.length=p.heads.length/\x.fields.length=p.heads.length/\eP x.metas p.metas=true)):nk p x=false:=by
 rw[Bool.eq_false_iff];intro hc;have hF:=db.1 hc;exact h ⟨hF.v,hF.f,cH.2 ⟨hF.m,hF.mf⟩⟩
theorem uf {p:Prg} {x:Pkt} (h1:x.valid.length=p.heads.length) (h2:x.fields.length=p.heads.length) (h3:eP x.metas p.metas=true) (h4:∀(i:Nat) (l:List Nat),x.fields[i]?=some l->eP l (p.heads.getD i [])=true/\(x.valid.getD i false=false->∀a∈l,a=0)):nk p x=true:=
 db.2 ⟨h1,h2,(cH.1 h3).1,(cH.1 h3).2,fun i l hl=>(cH.1 (h4 i l hl).1).1,fun i l hl=>(cH.1 (h4 i l hl).1).2,fun i l hl=>(h4 i l hl).2⟩
theorem rS (n:Nat) (hn:n<B*B) (W:World):Calls Tryz.prog 29 #[.agg #[.int .u64 ((n/B:Nat):Int), .int .u64 ((n%B:Nat):Int)], .agg #[.int .u64 0, .int .u64 0]] W fun e w'=>e= .returned (.int .i64 (if n=0 then 0 else 1))/\Bl W w':=by
 have h:=iY n 0 hn dq W;have e0:aC 0= .agg #[.int .u64 0, .int .u64 0]:=by kernel_rfl
 have e1:gq n 0=if n=0 then 0 else 1:=by unfold gq;split<;>split<;>first|rfl|omega
 obtain ⟨v1,v2,ev,ev1,ev2⟩:=ae n;rw[ev,e0,e1] at h;rw[<- ev1, <-ev2];exact h
theorem rT (s:PgS) (p:Prg) (q:KS) (x:Pkt) (po eg:Int) (dr se ac:Bool) (w:World) (hp:PgOk w s p) (hS:Sm p) (hq:KOk w q x):
 Calls Tryz.prog 13 #[cE s,kV q po dr se eg ac] w fun e w'=>e= .returned (.bool (nk p x))/\Bl w w':=by
 obtain ⟨R,hR⟩:=nm (nk p x);rw[<- hR];have HR:=hD hR;have HP:=hD hp;have HSM:=hD hS;have HQ:=hD hq;have HN:Hd (s.hn=p.heads.length/\q.vn=x.valid.length/\q.fn=x.fields.length):=⟨hp.heads.ln.1,hq.v.ln.1,hq.f.ln.1⟩;have hh6:s.hn<=6000:=by have:=hp.heads.ln.1;have:=hS.heads;omega
 obtain ⟨rm,hrm⟩:=nm (eP x.metas p.metas);have HNM:Hd (∀ W,Bl w W->CR 28 #[.slice q.mp q.mn q.mc, .slice s.mp s.mn s.mc] W (.bool rm)):=fun W h=>by rw[hrm];exact iR _ _ _ _ _ _ _ _ W (hq.m.below aM h) (hp.metas.below bW h) (by have:=hp.metas.ln.1;have:=hS.metas;omega)
 have HRM:=hD hrm;clear hR hp hS hq hrm;unfold cE kV;go_enter Tryz.func13,Tryz.ntmps13;go_upto_region 1 with fail;obtain ⟨W0,hW0⟩:=nm ((w.alloc (.cells (pA s) 33)).alloc (.cells (kA q po dr se eg ac) 40));have HB0:Hd (Bl w W0):=by show Below _ _ _;rw[hW0];exact bL
 have HPB:Hd (PBox W0 w.heap.size s):=by show _=_;rw[hW0,Below.heap_alloc _ _ _ sm];exact ag _ _
 have HKB:Hd (KBox W0 (w.heap.size+1) q po dr se eg ac):=by
  exact j9
 rw[<- hW0];clear hW0;obtain ⟨q0,q1,q2,q3,q4,q5,q6,q7,q8,q9,q10,q11⟩:=HPB.o.cells;obtain ⟨k0,k1,k2,k3,k4,k5,k6,k7,k8⟩:=HKB.o.cells;have hcase:(¬ (q.vn:Int)=(s.hn:Int))\/((q.vn:Int)=(s.hn:Int)/\¬(q.fn:Int)=(s.hn:Int))\/((q.vn:Int)=(s.hn:Int)/\(q.fn:Int)=(s.hn:Int)):=om;rcases hcase with g1|⟨g1,g2⟩|⟨g1,g2⟩
 ·have g3:((q.vn:Int)!=(s.hn:Int))=true:=bne_iff_ne.2 g1;exact DH
 ·have g3:((q.fn:Int)!=(s.hn:Int))=true:=bne_iff_ne.2 g2;exact DH
 have HG:=hD (And.intro g1 g2);cases rm
 ·have hr:R=false:=by rw[HR.o];exact nY fun h=>by have:=HRM.o;rw[h.2.2] at this;cases this
  go_wp2_with (go_at_call 28;(with_reducible refine (HNM.o _ HB0.o).mono ?_);rintro e w1 ⟨rfl,hb1⟩;have HB1:=hD hb1;clear hb1);go_ret;exact ⟨by first|rfl|(rw[hr];rfl),HB0.o.trans (HB1.o.mono HB0.o.size)⟩
 ·go_wp2_with (go_at_call 28;(with_reducible refine (HNM.o _ HB0.o).mono ?_);rintro e w1 ⟨rfl,hb1⟩;have HB1:=hD hb1;clear hb1);clear g1 g2 q0 q1 q2 q3 q4 q5 q6 q7 q8 q9 q10 q11 k0 k1 k2 k3 k4 k5 k6 k7 k8;go_loopw [6,7] (fun i u wr=>∃k:Nat,k<=s.hn/\i= .int .i64 k/\Hd (∀ (j:Nat) (l:List Nat),j<k->x.fields[j]?=some l->eP l (p.heads.getD j [])=true/\(x.valid.getD j false=false->∀a∈l,a=0))/\Hd (Bl W0 wr)) (fun i u _=>s.hn-(intOf i).toNat)
  case atStart=>exact ⟨0,zl,rfl,fun j l hj=>absurd hj om,HB1.o⟩
  case round=>
   clear HB1;obtain ⟨k,hk,rfl,HJ,HW⟩:=hrel;by_cases hlt:k<s.hn
   ·have hki:(k:Int)<(s.hn:Int):=om;have hkf:(k:Int)<(q.fn:Int):=by have:=HG.o;omega
    have hkv:(k:Int)<(q.vn:Int):=by have:=HG.o;omega
    obtain ⟨fl,hfl⟩:∃l,x.fields[k]?=some l:=⟨_,bS (by have:=HN.o;have:=HG.o;omega)⟩;obtain ⟨vb,hvb⟩:∃l,x.valid[k]?=some l:=⟨_,bS (by have:=HN.o;have:=HG.o;omega)⟩;have hbw:=HB0.o.trans (HW.o.mono HB0.o.size);obtain ⟨hb,ho,hp1,hnr,hc1,hps,hhb,y0,hy0⟩:=IsRow.el (HP.o.heads.below ii hbw) (j:=k) (by have:=HN.o;omega);obtain ⟨fb,fo,fp1,fnr,fc1,fps,hfb,y1,hy1⟩:=NsRow.el (HQ.o.f.below lR hbw) hfl;obtain ⟨bb,bo,bps,hbb,y2⟩:=BRow.el (HQ.o.v.below nU hbw) hvb;obtain ⟨rn,hrn⟩:=nm (eP fl (p.heads.getD k []));have hhn:hnr<=6000:=by
     have h1:=hy0.ln.1;have h2:=HSM.o.head _ (cX (aA (l:=p.heads) (j:=k) [] (by have:=HN.o;omega)));omega
    have HNU:Hd (∀ W,Bl wr W->CR 28 #[.slice fp1 fnr fc1, .slice hp1 hnr hc1] W (.bool rn)):=fun W h=>by rw[hrn];exact iR _ _ _ _ _ _ _ _ W (hy1.below aM h) (hy0.below bW h) om
    have HCE:Hd (∀ W,Bl wr W->Cl W w.heap.size 0 (.slice s.hp s.hn s.hc)/\Cl W (w.heap.size+1) 3 (.slice q.fp q.fn q.fc)/\Cl W (w.heap.size+1) 2 (.slice q.vp q.vn q.vc)/\Cl W hb (ho+k) (.slice hp1 hnr hc1)/\Cl W fb (fo+k) (.slice fp1 fnr fc1)/\Cl W bb (bo+k) (.bool vb)):=fun W h=>
     ⟨(HPB.o.below (HW.o.trans (h.mono HW.o.size))).cells.1,(HKB.o.below (HW.o.trans (h.mono HW.o.size))).cells.2.2.2.1,(HKB.o.below (HW.o.trans (h.mono HW.o.size))).cells.2.2.1,(h.cell (p:=⟨hb,ho+k,none⟩) hhb).trans y0,(h.cell (p:=⟨fb,fo+k,none⟩) hfb).trans y1,(h.cell (p:=⟨bb,bo+k,none⟩) hbb).trans y2⟩
    rw[hps,fps,bps] at HCE;have HFL:Hd (x.fields[k]?=some fl/\x.valid.getD k false=vb):=⟨hfl,getD_some hvb⟩;have HRN:=hD hrn;have HFR:Hd (NRow wr (.slice fp1 fnr fc1) fl):=hy1;have HFN:Hd (fnr=fl.length):=hy1.ln.1;clear hfl hvb hbw hps fps bps hhb hfb hbb y0 y1 y2 hy0 hy1 hrn hhn;obtain ⟨q0,k3,k2,y0,y1,y2⟩:=HCE.o wr br;cases rn
    ·have hr:R=false:=by rw[HR.o];exact ue HFL.o.1 HRN.o.symm
     go_upto_region 7 with fail;refine dZ wr ?_;refine sq (fun aa ww ll hh=>by have:=hh.oL 3;exact ov gX) ?_;refine sq (fun aa ww ll hh=>by have:=hh.gt 0 0;exact ov (fC (HCE.o ww hh.inv))) ?_;refine sq (fun aa ww ll hh=>by exact ov (bg (hh.oL 6))) ?_;refine sq (fun aa ww ll hh=>by have:=hh.gt 1 1;have:=hh.gt 2 0;exact ov gX) ?_;refine sq (fun aa ww ll hh=>by have:=hh.gt 3 0;exact ov (fC (HCE.o ww hh.inv))) ?_;refine sq (fun aa ww ll hh=>by have:=hh.oL 2;exact ov gX) ?_;refine sq (fun aa ww ll hh=>by have:=hh.gt 5 0;exact ov (fC (HCE.o ww hh.inv))) ?_;refine sq (fun aa ww ll hh=>by exact ov (bg (hh.oL 6))) ?_;refine sq (fun aa ww ll hh=>by have:=hh.gt 6 1;have:=hh.gt 7 0;exact ov gX) ?_;refine sq (fun aa ww ll hh=>by have:=hh.gt 8 0;exact ov (fC (HCE.o ww hh.inv))) ?_;refine ⟨.eq (.bool false),trivial,rfl,fun aa ww ll hh=>?_,?_⟩
     ·exact DT
     refine sq (fun aa ww ll hh=>by have:=hh.gt 10 0;exact ov gX) ?_;intro ll w2 hS hok;clear hok;simp only[ly];have HW2:=hD (HB0.o.trans ((HW.o.trans (hS.mono HW.o.size)).mono HB0.o.size));clear hS;go_wp2_with fail;go_ret;exact ⟨by first|rfl|(rw[hr];rfl),HW2.o⟩
    ·have hfn:fnr<=6000:=by
      have h1:=(cH.1 HRN.o.symm).1;have h2:=HSM.o.head _ (cX (aA (l:=p.heads) (j:=k) [] (by have:=HN.o;omega)));have h3:=HFN.o;omega
     go_upto_region 7 with fail;refine dZ wr ?_;refine sq (fun aa ww ll hh=>by have:=hh.oL 3;exact ov gX) ?_;refine sq (fun aa ww ll hh=>by have:=hh.gt 0 0;exact ov (fC (HCE.o ww hh.inv))) ?_;refine sq (fun aa ww ll hh=>by exact ov (bg (hh.oL 6))) ?_;refine sq (fun aa ww ll hh=>by have:=hh.gt 1 1;have:=hh.gt 2 0;exact ov gX) ?_;refine sq (fun aa ww ll hh=>by have:=hh.gt 3 0;exact ov (fC (HCE.o ww hh.inv))) ?_;refine sq (fun aa ww ll hh=>by have:=hh.oL 2;exact ov gX) ?_;refine sq (fun aa ww ll hh=>by have:=hh.gt 5 0;exact ov (fC (HCE.o ww hh.inv))) ?_;refine sq (fun aa ww ll hh=>by exact ov (bg (hh.oL 6))) ?_;refine sq (fun aa ww ll hh=>by have:=hh.gt 6 1;have:=hh.gt 7 0;exact ov gX) ?_;refine sq (fun aa ww ll hh=>by have:=hh.gt 8 0;exact ov (fC (HCE.o ww hh.inv))) ?_;refine ⟨.eq (.bool true),trivial,rfl,fun aa ww ll hh=>?_,?_⟩
     ·exact DT
     refine sq (fun aa ww ll hh=>by have:=hh.gt 10 0;exact ov gX) ?_;intro ll w2 hS hok;clear hok;simp only[ly];clear q0 k3 k2 y0 y1 y2;have HB2:=hD hS;clear hS;obtain ⟨q0,k3,k2,y0,y1,y2⟩:=HCE.o w2 HB2.o;go_wp2_with fail;clear q0 k3 k2 y0 y1 y2;go_loopw [7] (fun u wq=>∃z:Nat,z<=fnr/\u= .int .i64 z/\Hd (∀ (j:Nat) (n:Nat),j<z->fl[j]?=some n->vb=false->n=0)/\Hd (Bl wr wq)) (fun u _=>fnr-(intOf u).toNat)
     case atStart=>exact ⟨0,zl,rfl,fun j n hj=>absurd hj om,HB2.o⟩
     case round=>
      obtain ⟨z,hz,rfl,HZ,HQB⟩:=hrel;obtain ⟨q0,k3,k2,y0,y1,y2⟩:=HCE.o _ HQB.o;by_cases hzl:z<fnr
      ·have hzi:(z:Int)<(fnr:Int):=om;obtain ⟨n,hn⟩:∃n,fl[z]?=some n:=⟨_,bS (by have:=HFN.o;omega)⟩;obtain ⟨nb,no,nps,hnb,hnv,c0,c1⟩:=(HFR.o.below aM HQB.o).get hn;have HCM:=hD (rS n hnv);generalize ((n/B:Nat):Int)=n0 at*;generalize ((n%B:Nat):Int)=n1 at*;have HNN:=hD hn;rw[nps] at y1;clear hn nps hnb hnv;cases vb
       ·by_cases hn0:n=0
        ·subst hn0;rw[if_pos rfl] at HCM;go_wp2_with (go_at_call 29;(with_reducible refine (HCM.o _).mono ?_);rintro e w3 ⟨rfl,hb3⟩;have HB3:=hD (HQB.o.trans (hb3.mono HQB.o.size));clear hb3);go_roundw
         case rel=>exact ⟨z+1,om,by go_num,fun j m hj hm hv=>by
          rcases Nat.lt_or_ge j z with h|h
          ·exact HZ.o j m h hm hv
          ·obtain rfl:j=z:=om
           have:=HNN.o;rw[hm] at this;cases this;rfl,HB3.o⟩
         case measure=>exact mz
        rw[if_neg hn0] at HCM;have hr:R=false:=by rw[HR.o];exact Aa HFL.o.1 HFL.o.2 HNN.o hn0
        have HBZ:=hD (HB0.o.trans (HW.o.mono HB0.o.size));go_wp2_with (go_at_call 29;(with_reducible refine (HCM.o _).mono ?_);rintro e w3 ⟨rfl,hb3⟩;have HB3:=hD (HQB.o.trans (hb3.mono HQB.o.size));clear hb3);go_ret;exact ⟨by first|rfl|(rw[hr];rfl),HBZ.o.trans (HB3.o.mono HBZ.o.size)⟩
       ·go_wp2_with fail;go_roundw
        case rel=>exact ⟨z+1,om,by go_num,fun j m hj hm hv=>by first|cases hv|exact absurd hv sm,HQB.o⟩
        case measure=>exact mz
      obtain rfl:z=fnr:=om;have hzi:¬(z:Int)<(z:Int):=om;have HWB:=hD (HW.o.trans (HQB.o.mono HW.o.size));go_wp2_with fail;go_roundw
      case rel=>exact ⟨k+1,om,by go_num,fun j l hj hl=>by
       rcases Nat.lt_or_ge j k with h|h
       ·exact HJ.o j l h hl
       ·obtain rfl:j=k:=om
        have:=HFL.o.1;rw[hl] at this;cases this
        refine ⟨HRN.o.symm,fun hv a ha=>?_⟩;obtain ⟨i,hi⟩:=List.getElem?_of_mem ha;exact HZ.o i a (by have:=(bO hi).1;have:=HFN.o;omega) hi (HFL.o.2.symm.trans hv),HWB.o⟩
      case measure=>exact mz
   obtain rfl:k=s.hn:=om;have hki:¬(s.hn:Int)<(s.hn:Int):=om;have hr:R=true:=by
    rw[HR.o];exact uf (by have:=HN.o;have:=HG.o;omega) (by have:=HN.o;have:=HG.o;omega) HRM.o.symm fun i l hl=>HJ.o i l (by have:=(bO hl).1;have:=HN.o;have:=HG.o;omega) hl
   have hbw:=HB0.o.trans (HW.o.mono HB0.o.size);exact Ce
end Go.Proofs.YtjfhfaodbjecdaaGreat
