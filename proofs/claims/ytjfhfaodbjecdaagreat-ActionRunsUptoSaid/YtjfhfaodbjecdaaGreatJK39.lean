/- Lemmas. -/
import Derived.Test.YtjfhfaodbjecdaaGreatJK23
import Derived.Test.YtjfhfaodbjecdaaGreatJK38
set_option maxHeartbeats 6400000
set_option maxRecDepth 100000
namespace Go.Proofs.YtjfhfaodbjecdaaGreat
open Go.RowKit Stab
variable {p:Prg} {a b:Int} {g base h n lo c hi:Nat} {x:Pkt} {r f m:Value} {fs:List Value} {w' W:World} {vb:Bool} {es:List (Int×Value)}
theorem gz (h:iL p=true):ge p=true/\p.metas.all dl=true/\aH p (-1) p.ctl=true/\bA (fun i (a:Actn)=>decide (a.params.length<=8)&&a.params.all dl&&aH p (i:Int) a.body) 0 p.acts=true/\p.tabs.all (cw p)=true:=by
 unfold iL at h;simp only[Bool.and_eq_true] at h;obtain ⟨⟨⟨⟨⟨⟨⟨⟨⟨⟨h1,h2⟩,h3⟩,h4⟩,h5⟩,h6⟩,h7⟩,h8⟩,h9⟩,h10⟩,h11⟩:=h;exact ⟨h1,h3,h7,h10,h11⟩
theorem wG {w:Int} (h:dl w=true):0<w:=(dS.1 h).1
theorem pk (h:iL p=true):WPos p:=by
 obtain ⟨h1,h2,-,-,-⟩:=gz h;constructor
 ·intro l hl k hk;unfold ge at h1;rw[Bool.and_eq_true] at h1;obtain ⟨j,hj⟩:=List.getElem?_of_mem hl;have h3:=aN.1 h1.2 j l hj;rw[Bool.and_eq_true,Bool.and_eq_true] at h3;exact wG (List.all_eq_true.1 h3.1.2 k hk)
 intro k hk;exact wG (List.all_eq_true.1 h2 k hk)
theorem yE (h:iL p=true) (hS:Sm p) {j:Nat} (hj:j<p.acts.length):aH p j (cZ p j).body=true/\∀i∈(cZ p j).body,i.e.length<=6000:=by
 obtain ⟨-,-,-,h1,-⟩:=gz h;have hx:p.acts[j]?=some (cZ p j):=by
  unfold cZ;rw[Int.toNat_natCast];exact aA (l:=p.acts) (j:=j) _ hj
 have h2:=aN.1 h1 j _ hx;rw[Bool.and_eq_true,Nat.zero_add] at h2;exact ⟨h2.2,hS.bcode _ (cX hx)⟩
theorem jB {ls:List Int} {g:List Nat} (h:dQ p ls a g=true):0<=a/\a<(p.acts.length:Int)/\g.length=(cZ p a).params.length:=by
 unfold dQ at h;simp only[Bool.and_eq_true,decide_eq_true_eq] at h;exact ⟨h.1.1.1,h.1.1.2,h.2.1⟩
theorem mF (l:List Ent) (tab:Int) (ks:List Nat):∀k:Nat,k<=l.length->ck l tab ks k<0\/∃j:Nat,j<k/\ck l tab ks k=(j:Int)/\cP (bz l (j:Int)) tab ks=true
 |0,_=>by left;unfold ck;decide
 |k+1,hk=>by
  rw[ck];split
  ·rename_i h;exact .inr ⟨k,om,rfl,h.1⟩
  ·rcases mF l tab ks k om with h|⟨j,h1,h2,h3⟩
   ·exact .inl h
   ·exact .inr ⟨j,om,h2,h3⟩
theorem wH {i:Nat} (hi:i<p.tabs.length):p.tabs[i]?=some (dK p i):=by
 unfold dK;rw[Int.toNat_natCast];exact aA (l:=p.tabs) (j:=i) _ hi
theorem yF {l:List Ent} (h:iL p=true) (hS:Sm p) (he:∀y∈l,EntOk p y) (hn:l.length<=40) (hf:sj l):ApOk p l:=by
 obtain ⟨-,-,-,-,h5⟩:=gz h;have ht:∀i:Nat,i<p.tabs.length->cw p (dK p i)=true:=fun i hi=>List.all_eq_true.1 h5 _ (cX (wH hi))
 refine ⟨fun i hi=>?_,fun i ks hi=>?_,fun j hj=>yE h hS hj,hn,hf⟩
 ·have hm:=cX (wH hi);refine ⟨hS.tkeys _ hm,hS.tcode _ hm,fun c hc=>?_⟩;have h1:=ht i hi;unfold cw at h1;simp only[Bool.and_eq_true] at h1;obtain ⟨j,hj⟩:=List.getElem?_of_mem hc;have h2:=aN.1 h1.1.1.2 j c hj;rw[Bool.and_eq_true,Option.isSome_iff_exists] at h2;exact h2.1
 have h1:=ht i hi;unfold cw at h1;simp only[Bool.and_eq_true] at h1;have hd:=jB h1.2;unfold jt lV;by_cases hc:ck l i ks l.length<0
 ·rw[if_pos hc,if_pos hc];exact hd
 rw[if_neg hc,if_neg hc];rcases mF l i ks l.length lr with q|⟨j,q1,q2,q3⟩
 ·exact absurd q hc
 rw[q2];have hjm:l[j]?=some (bz l (j:Int)):=by
  unfold bz;rw[Int.toNat_natCast];exact aA (l:=l) (j:=j) _ q1
 exact jB (he _ (cX hjm)).run
theorem yG {l:List Ent} (h:∀e∈l,e.pats.length<=1000000/\e.args.length<=1000000):sj l:=by
 intro k hk;have hjm:l[k]?=some (bz l (k:Int)):=by
  unfold bz;rw[Int.toNat_natCast];exact aA (l:=l) (j:=k) _ hk
 exact h _ (cX hjm)
structure Fr (S:Nat->Prop) (w w':World):Prop where
 os:w'.os=w.os
 tape:w'.tape=w.tape
 output:w'.output=w.output
 size:w.heap.size<=w'.heap.size
 block:∀k,k<w.heap.size->¬S k->w'.heap[k]?=w.heap[k]?
section
variable {S S':Nat->Prop} {w w' w2:World}
theorem Fr.refl (S:Nat->Prop) (w:World):Fr S w w:=⟨rfl,rfl,rfl,Nat.le_refl _,fun _ _ _=>rfl⟩
theorem Fr.trans (h:Fr S w w') (k:Fr S w' w2):Fr S w w2:=⟨k.os.trans h.os,k.tape.trans h.tape,k.output.trans h.output,Nat.le_trans h.size k.size,fun i hi hs=>(k.block i (Nat.lt_of_lt_of_le hi h.size) hs).trans (h.block i hi hs)⟩
theorem Fr.of_below (h:Bl w w'):Fr S w w':=⟨h.os,h.tape,h.output,h.size,fun k hk _=>h.block k hk⟩
theorem Fr.more (h:Fr S w w') (hs:∀k,S k->S' k):Fr S' w w':=⟨h.os,h.tape,h.output,h.size,fun k hk hn=>h.block k hk fun e=>hn (hs k e)⟩
theorem Fr.below (h:Fr S w w') {b:Nat} (hb:b<=w.heap.size) (hs:∀k,S k->b<=k):Below b w w':=⟨h.os,h.tape,h.output,h.size,fun k hk=>h.block k om fun e=>by have:=hs k e;omega⟩
theorem Fr.set {X:Nat} {i:Nat} (h:Fr S w w') (hX:S X\/w.heap.size<=X) (u:Value):Fr S w (w'.setCell ⟨X,i,none⟩ u):=
 ⟨h.os,h.tape,h.output,by simpa [World.setCell] using h.size,fun k hk hn=>(heap_setCell_other w' _ k u (fun e=>by rcases hX with q|q;exact hn (by rw[show k=X from e];exact q);exact absurd (show k=X from e) om)).trans (h.block k hk hn)⟩
theorem Fr.cell (h:Fr S w w') {p:Addr} {v:Value} (hp:¬S p.block) (hc:w.cell? p=some v):w'.cell? p=some v:=
 (World.cell?_of_block (w:=w) (h.block p.block (af hc).1 hp)).trans hc
end
abbrev Pkt.acc (x:Pkt) (b:Bool):Pkt:={ x with access:=x.access||b }
theorem PktB.setAcc {w:World} {X:Nat} {v:Value} (h:PktB base w X x r v f m fs):PktB base (w.setCell ⟨X,8,none⟩ (.bool true)) X (x.acc true) r v f m fs:=
 h.put (i:=8) (u:= .bool true) (by simp[cA]) rfl rfl rfl rfl
theorem PktB.acc0 {w:World} {X:Nat} {v:Value} (h:PktB base w X x r v f m fs):PktB base w X (x.acc false) r v f m fs:=by
 have:x.acc false=x:=by simp[Pkt.acc]
 rw[this];exact h
def PS (X:Nat) (r v f m:Value) (fs:List Value) (k:Nat):Prop:=k=X\/∃z∈[r,v,f,m]++fs,z.ownBlock=some k
theorem PktB.kept {w:World} {X:Nat} {v:Value} (h:PktB base w X x r v f m fs) (hk:∀k,PS X r v f m fs k->w'.heap[k]?=w.heap[k]?):PktB base w' X x r v f m fs:=
 ⟨(hk X (.inl rfl)).trans h.st,aG h.hr fun k e=>hk k (.inr ⟨r,by simp,e⟩),aG h.hv fun k e=>hk k (.inr ⟨v,by simp,e⟩),aG h.hf fun k e=>hk k (.inr ⟨f,by simp,e⟩),
  fun i u l h1 h2=>(h.hfs i u l h1 h2).far fun k e=>hk k (.inr ⟨u,by simp[cX h1],e⟩),h.hm.far fun k e=>hk k (.inr ⟨m,by simp,e⟩),h.lo,h.nd⟩
theorem PktB.blk {w:World} {X:Nat} {v:Value} (h:PktB base w X x r v f m fs) {k:Nat} (hk:PS X r v f m fs k):base<=k/\k<w.heap.size:=by
 rcases hk with rfl|⟨z,hz,e⟩
 ·exact ⟨h.lo,h.lt⟩
 rcases List.mem_append.1 hz with q|q
 ·simp only[List.mem_cons,List.not_mem_nil,or_false] at q;rcases q with rfl|rfl|rfl|rfl
  ·exact aB h.hr e
  ·exact aB h.hv e
  ·exact aB h.hf e
  exact aB h.hm.1 e
 obtain ⟨i,hi⟩:=List.getElem?_of_mem q;have hlt:=(bO hi).1;exact aB (h.hfs i z _ hi (bS (by rw[<- h.flen];exact hlt))).1 e
structure PkAt (w:World) (X h f:Nat) (vg vc vn fg fn fc ug uc un:Nat) (vb:Bool) (y z:Int):Prop where
 c2:w.cell? ⟨X,2,none⟩=some (.slice (some ⟨vg,0,none⟩) vn vc)
 c3:w.cell? ⟨X,3,none⟩=some (.slice (some ⟨fg,0,none⟩) fn fc)
 cv:w.cell? ⟨vg,h,none⟩=some (.bool vb)
 cf:w.cell? ⟨fg,h,none⟩=some (.slice (some ⟨ug,0,none⟩) un uc)
 n0:w.cell? ⟨ug,f*2,none⟩=some (.int .u64 y)
 n1:w.cell? ⟨ug,f*2+1,none⟩=some (.int .u64 z)
theorem PktB.reads {w:World} {X:Nat} {v:Value} (hP:PktB base w X x r v f m fs) {j:Nat} {l:List Nat} (hl:x.fields[h]?=some l) (hn:l[j]?=some n) (hv:x.valid[h]?=some vb):
 ∃vg vc fg fc ug uc,PkAt w X h j vg vc x.valid.length fg x.fields.length fc ug uc l.length vb ((n/B:Nat):Int) ((n%B:Nat):Int):=by
 obtain ⟨vg,vc,rfl,-,hv0⟩:=hP.getValid hv;obtain ⟨fg,fc,u,rfl,-,hf0,hu,hnu⟩:=hP.getRow hl;have hlt:=(bO hn).1;obtain ⟨ug,uc,rfl,-⟩:=eF hnu.1 om;obtain ⟨nb,no,e,-,-,y1,y2⟩:=hnu.row.get hn;simp only[Option.some.injEq,Addr.mk.injEq,and_true] at e;obtain ⟨rfl,rfl⟩:=e;rw[Nat.zero_add] at y1 y2;exact ⟨vg,vc,fg,fc,ug,uc,hP.cell (i:=2) rfl,hP.cell (i:=3) rfl,hv0,hf0,y1,y2⟩
theorem di {o:Obj} (h:W.heap[g]?=some o):g<W.heap.size:=(bV h).1
def Bx2 (W:World) (g:Nat) (a b:Int):Prop:=W.heap[g]?=some (.cells #[.int .u64 a, .int .u64 b] 60 (0,0))
theorem Bx2.cells (h:Bx2 W g a b):W.cell? ⟨g,0,none⟩=some (.int .u64 a)/\W.cell? ⟨g,1,none⟩=some (.int .u64 b)/\W.frozen? ⟨g,0,none⟩=false/\W.frozen? ⟨g,1,none⟩=false:=by
 unfold Bx2 at h;refine ⟨?_,?_,?_,?_⟩<;>simp[World.cell?,World.frozen?,h]
theorem mG {w:World} {X:Nat} {v:Value} (hP:PktB base w X x r v f m fs) (h:Nat) (h1:h<x.valid.length) (h2:h<x.fields.length):
 Calls Tryz.prog 119 #[.pointer (some ⟨X,0,none⟩), .int .i64 (h:Int)] w fun e w'=>e= .returned (.bool true)/\Bl w w':=by
 obtain ⟨vg,vc,rfl,-,-⟩:=hP.getValid (bS h1);obtain ⟨fg,fc,u,rfl,-,-,-,-⟩:=hP.getRow (bS h2);have c2:=hP.cell (i:=2) rfl;have c3:=hP.cell (i:=3) rfl;have q1:(h:Int)<(x.valid.length:Int):=om;have q2:(h:Int)<(x.fields.length:Int):=om;have q0:¬(h:Int)<0:=om;clear hP h1 h2;generalize x.valid.length=vn at*;generalize x.fields.length=fn at*;go_enter Tryz.func119,Tryz.ntmps119;go_wp2_with fail;go_ret;exact ⟨rfl,bL⟩
theorem yH {w:World} {X:Nat} {v:Value} (hP:PktB base w X x r v f m fs) {j:Nat} {l:List Nat} (hl:x.fields[h]?=some l) (hn:l[j]?=some n) (hv:x.valid[h]?=some vb):
 Calls Tryz.prog 89 #[.pointer (some ⟨X,0,none⟩), .int .i64 (h:Int), .int .i64 (j:Int)] w fun e w'=>e= .returned (aC (if vb then n else 0))/\PktB base w' X (x.acc !vb) r v f m fs/\Fr (·=X) w w':=by
 have h1:h<x.valid.length:=(bO hv).1;have h2:h<x.fields.length:=(bO hl).1;have h3:j<l.length:=(bO hn).1;obtain ⟨vg,vc,fg,fc,ug,uc,hA⟩:=hP.reads hl hn hv;have HAS:Hd (∀ W,Bl w W->CR 119 #[.pointer (some ⟨X,0,none⟩), .int .i64 (h:Int)] W (.bool true)):=fun W hb=>mG (hP.below hb) h h1 h2
 have HRD:Hd (∀ W,Bl w W->PkAt W X h j vg vc x.valid.length fg x.fields.length fc ug uc l.length vb ((n/B:Nat):Int) ((n%B:Nat):Int)):=fun W hb=>by
  obtain ⟨a1,a2,a3,a4,a5,a6⟩:=hA;exact ⟨(hb.cell (af a1).1).trans a1,(hb.cell (af a2).1).trans a2,(hb.cell (af a3).1).trans a3,(hb.cell (af a4).1).trans a4,(hb.cell (af a5).1).trans a5,(hb.cell (af a6).1).trans a6⟩
 have HP:=hD hP;have hXl:=hP.lt;have HN:Hd (aC n= .agg #[.int .u64 ((n/B:Nat):Int), .int .u64 ((n%B:Nat):Int)]):=rfl;have i1:(h:Int)<(x.valid.length:Int):=om;have i2:(h:Int)<(x.fields.length:Int):=om;have i3:(j:Int)<(l.length:Int):=om;have i4:¬(l.length:Int)<=(j:Int):=om;have i0:¬(j:Int)<0:=om;clear hP hl hn hv hA h1 h2 h3;generalize ((n/B:Nat):Int)=n0 at*;generalize ((n%B:Nat):Int)=n2 at*;generalize x.valid.length=vn at*;generalize x.fields.length=fn at*;generalize l.length=ll at*;go_enter Tryz.func89,Tryz.ntmps89;go_upto_region 1 with fail;obtain ⟨W0,hW0⟩:=nm (w.alloc (.cells #[.int .u64 0, .int .u64 0] 60));have HB0:Hd (Bl w W0):=by show Below _ _ _;rw[hW0];exact bL
 have HX0:Hd (Bx2 W0 w.heap.size 0 0):=by show _=_;rw[hW0];exact ag _ _
 rw[<- hW0];clear hW0;obtain ⟨c2,c3,cv,cf,d0,d1⟩:=HRD.o W0 HB0.o;go_upto_region 3 with (go_at_call 119;refine (HAS.o _ HB0.o).mono ?_;rintro e w1 ⟨rfl,hb1⟩;clear c2 c3 cv cf d0 d1;have HX1:Hd (Bx2 w1 w.heap.size 0 0):=(hb1.block _ (di HX0.o)).trans HX0.o;have HB1:=hD (HB0.o.trans (hb1.mono HB0.o.size));clear hb1;obtain ⟨c2,c3,cv,cf,d0,d1⟩:=HRD.o w1 HB1.o);have HP1:Hd (PktB base w1 X x r v f m fs):=HP.o.below HB1.o;cases vb
 ·have e8:=HP1.o.cell (i:=8) rfl;have f8:=HP1.o.free 8;go_upto_region 5 with fail;obtain ⟨W2,hW2⟩:=nm (w1.setCell ⟨X,8,none⟩ (.bool true));have HP2:Hd (PktB base W2 X (x.acc true) r v f m fs):=by show PktB _ _ _ _ _ _ _ _ _;rw[hW2];exact HP1.o.setAcc
  have HF2:Hd (Fr (·=X) w W2):=by show Fr _ _ _;rw[hW2];exact (Fr.of_below (S:=(·=X)) HB1.o).set (X:=X) (.inl rfl) _
  have hx2:Bx2 W2 w.heap.size 0 0:=by rw[hW2];exact (heap_setCell_other w1 _ _ _ (by show w.heap.size≠X;omega)).trans HX1.o
  have HS2:Hd (w.heap.size<W2.heap.size):=di hx2;rw[<- hW2];clear hW2 c2 c3 cv cf d0 d1 e8 f8;obtain ⟨b0,b1,g0,g1⟩:=hx2.cells;have HW0:Hd (W2.heap.size>w.heap.size):=HS2.o;have hXX:=hXl;go_wp2_with fail;refine bodyPost_ret (v:= .agg #[.int .u64 0, .int .u64 0]) ?_ rfl ⟨rfl,?_,?_⟩
  ·simp[results,Tryz.results89,go_sem,b0,b1,g0,g1]
  ·exact HP2.o.kept fun k hk=>bj W2 w.heap.size 0 1 _ _ (by have:=(HP.o.blk hk).2;omega)
  exact (HF2.o.set (.inr lr) _).set (.inr lr) _
 ·obtain ⟨b0,b1,g0,g1⟩:=HX1.o.cells;go_wp2_with fail;refine bodyPost_ret (v:= .agg #[.int .u64 n0, .int .u64 n2]) ?_ rfl ⟨by rw[<- HN.o],?_,?_⟩
  ·simp[results,Tryz.results89,go_sem,b0,b1,g0,g1]
  ·exact HP1.o.acc0.kept fun k hk=>bj w1 w.heap.size 0 1 _ _ (by have:=(HP.o.blk hk).2;omega)
  exact ((Fr.of_below HB1.o).set (.inr lr) _).set (.inr lr) _
theorem ox {w:World} {v:Value} {l:List Nat} (hv:NRow w v l) {i:Nat} (hn:l[i]?=some n):
 Calls Tryz.prog 90 #[v, .int .i64 (i:Int)] w (ai w n):=by
 obtain ⟨p,c,rfl,-⟩:=hv.shape;obtain ⟨b,o,hp,hb,-,y1,y2⟩:=hv.get hn;have hlt:=(bO hn).1;have hbw:b<w.heap.size:=hb;have hlc:=hv.ln;subst hp;have i1:(i:Int)<(l.length:Int):=om;have i2:¬(l.length:Int)<=(i:Int):=om;obtain ⟨z3,z4,he,e3,e4⟩:=ae n;have HE:=hD he;rw[<- e3] at y1;rw[<- e4] at y2;unfold ai;rw[he];clear hv hn he e3 e4 hlc hb hlt;generalize l.length=ll at*;go_enter Tryz.func90,Tryz.ntmps90;go_wp2_with fail;exact bodyPost_ret (v:= .agg #[.int .u64 (z3:Int), .int .u64 (z4:Int)]) (by simp[results,Tryz.results90,go_sem]) rfl ⟨rfl,bL⟩
structure BR (n g:Nat) (n0 n1:Int) (W W':World):Prop where
 low:Below n W W'
 oth:∀k,k<W.heap.size->k≠g->W'.heap[k]?=W.heap[k]?
 kb:Bx2 W g n0 n1->Bx2 W' g n0 n1
 ob:(∃ a b,Bx2 W g a b)->∃a b,Bx2 W' g a b
structure BS (n g:Nat) (W0 W:World):Prop where
 low:Below n W0 W
 oth:∀k,k<W0.heap.size->k≠g->W.heap[k]?=W0.heap[k]?
 ob:∃a b,Bx2 W g a b
section
variable {n g:Nat} {n0 n1:Int} {W0 W W':World}
theorem BR.refl (n g:Nat) (n0 n1:Int) (W:World):BR n g n0 n1 W W:=⟨Below.refl _ _,fun _ _ _=>rfl,id,id⟩
theorem Bx2.below (h:Bx2 W g a b) (hb:Bl W W'):Bx2 W' g a b:=(hb.block _ (di h)).trans h
theorem BR.of_below (hn:n<=W.heap.size) (hb:Bl W W'):BR n g n0 n1 W W':=⟨hb.mono hn,fun k hk _=>hb.block k hk,fun h=>h.below hb,fun ⟨a,b,h⟩=>⟨a,b,h.below hb⟩⟩
theorem Bx2.put (h:Bx2 W g a b) (x y:Int):Bx2 ((W.setCell ⟨g,0,none⟩ (.int .u64 x)).setCell ⟨g,1,none⟩ (.int .u64 y)) g x y:=by
 have h1:(W.setCell ⟨g,0,none⟩ (.int .u64 x)).heap[g]?=some (.cells #[.int .u64 x, .int .u64 b] 60 (0,0)):=heap_setCell_same W g 0 _ _ _ h;exact heap_setCell_same (W.setCell ⟨g,0,none⟩ (.int .u64 x)) g 1 _ _ _ h1
theorem BR.put (hn:n<=g) (h:Bx2 W g a b):BR n g n0 n1 W ((W.setCell ⟨g,0,none⟩ (.int .u64 n0)).setCell ⟨g,1,none⟩ (.int .u64 n1)):=
 ⟨((Below.refl n W).setCell hn _).setCell hn _,fun k _ hk=>bj W g 0 1 _ _ hk,fun _=>h.put _ _,fun _=>⟨_,_,h.put _ _⟩⟩
theorem BS.step (h:BS n g W0 W) (hr:BR n g n0 n1 W W'):BS n g W0 W':=⟨h.low.trans hr.low,fun k hk hg=>(hr.oth k (Nat.lt_of_lt_of_le hk h.low.size) hg).trans (h.oth k hk hg),hr.ob h.ob⟩
theorem BS.start (h:Bx2 W g a b):BS n g W W.drew:=⟨Below.drew br,fun _ _ _=>rfl,⟨_,_,h⟩⟩
theorem BS.cell (h:BS n g W0 W) {p:Addr} {v:Value} (hp:p.block≠g) (hc:W0.cell? p=some v):W.cell? p=some v:=(World.cell?_of_block (w:=W0) (h.oth p.block (af hc).1 hp)).trans hc
end
open Go.Maps
def UMap (w:World) (m:Nat) (es:List (Int×Value)):Prop:=
 ∃arr clock,w.heap[m]?=some (.map arr clock)/\arr.toList.map (fun e=>(e.key,e.val))=es.map (fun p=>(Value.int .u8 p.1,p.2))/\(∀ p∈es,(Lit.int .u8 p.1).wf=true)/\(es.map Prod.fst).Nodup
theorem UMap.empty (w:World) (m:Nat) (h:w.heap[m]?=some (.map #[] 0)):UMap w m []:=⟨#[],0,h,rfl,by simp,by simp⟩
theorem UMap.kept {w:World} {m:Nat} (h:UMap w m es) (hb:w'.heap[m]?=w.heap[m]?):UMap w' m es:=by
 obtain ⟨arr,clock,h1,h2⟩:=h;exact ⟨arr,clock,hb.trans h1,h2⟩
theorem UMap.lt {w:World} {m:Nat} (h:UMap w m es):m<w.heap.size:=by
 obtain ⟨arr,clock,hb,-⟩:=h;exact (bV hb).1
theorem UMap.below {w:World} {m:Nat} (h:UMap w m es) (hb:Bl w w'):UMap w' m es:=h.kept (hb.block m h.lt)
section
variable {P:Program} {k T e:TypeId} {w:World} {m:Nat} {es:List (Int×Value)}
theorem UMap.keys {arr:Array MapEntry} (h:arr.toList.map (fun e=>(e.key,e.val))=es.map (fun p=>(Value.int .u8 p.1,p.2))) {x:MapEntry} (hx:x∈arr.toList):∃p∈es,x.key= .int .u8 p.1/\x.val=p.2:=by
 have:(x.key,x.val)∈arr.toList.map (fun e=>(e.key,e.val)):=List.mem_map.2 ⟨x,hx,rfl⟩;rw[h] at this;obtain ⟨p,hp,he⟩:=List.mem_map.1 this;simp only[Prod.mk.injEq] at he;exact ⟨p,hp,he.1.symm,he.2.symm⟩
theorem UMap.look (h:UMap w m es) (hk:P.underlying k=some (.int .u8)) (ht:P.underlying T=some (.map k e)) {x:Int} {v:Value} (hx:(x,v)∈es):
 (Instr.lookup T (.map (some m)) (.int .u8 x) true).run P w= .ok (.tuple #[v, .bool true]) w:=by
 obtain ⟨arr,clock,hb,h1,h2,h3⟩:=h;have K:=int_keyed hk;have hkey:=keyOf_int_mk hk (h2 _ hx);rcases K.find w hkey arr.toList (fun y hy=>by obtain ⟨p,hp,e1,-⟩:=UMap.keys h1 hy;exact ⟨_,by rw[e1];exact keyOf_int_mk hk (h2 _ hp)⟩) with ⟨f1,f2⟩|⟨j,e0,f1,f2,f3⟩
 ·exfalso;have:(Value.int .u8 x,v)∈arr.toList.map (fun e=>(e.key,e.val)):=by rw[h1];exact List.mem_map.2 ⟨_,hx,rfl⟩
  obtain ⟨y,hy,he⟩:=List.mem_map.1 this;simp only[Prod.mk.injEq] at he;exact f2 y hy he.1
 obtain ⟨p,hp,e1,e2⟩:=UMap.keys h1 (cX f2);have hpx:p.1=x:=by rw[f3] at e1;simpa using e1.symm
 have hv:p.2=v:=by
  have:∀(l:List (Int×Value)),(l.map Prod.fst).Nodup->p∈l->(x,v)∈l->p.2=v:=by
   intro l;induction l with
   |nil=>intro _ hp;cases hp
   |cons q l ih=>
    intro hn hp hx;rw[List.map_cons,List.nodup_cons] at hn;rcases List.mem_cons.1 hp with rfl|hp'<;>rcases List.mem_cons.1 hx with hx'|hx'
    ·rw[<- hx']
    ·exact absurd (List.mem_map.2 ⟨_,hx',hpx.symm⟩) hn.1
    ·exact absurd (List.mem_map.2 ⟨_,hp',by rw[<- hx'];exact hpx⟩) hn.1
    exact ih hn.2 hp' hx'
  exact this es h3 hp hx
 simp[Instr.lookup,run_underlying ht,MapKept.run_getObj_map hb,K.check w _ hkey,f1,Result.andThen,e2,hv]
theorem UMap.miss (h:UMap w m es) (hk:P.underlying k=some (.int .u8)) (ht:P.underlying T=some (.map k e)) {z:Value} (hz:(zeroValue e).run P w= .ok z w) {x:Int} (hw:(Lit.int .u8 x).wf=true) (hx:∀p∈es,p.1≠x):
 (Instr.lookup T (.map (some m)) (.int .u8 x) true).run P w= .ok (.tuple #[z, .bool false]) w:=by
 obtain ⟨arr,clock,hb,h1,h2,h3⟩:=h;have K:=int_keyed hk;have hkey:=keyOf_int_mk hk hw;rcases K.find w hkey arr.toList (fun y hy=>by obtain ⟨p,hp,e1,-⟩:=UMap.keys h1 hy;exact ⟨_,by rw[e1];exact keyOf_int_mk hk (h2 _ hp)⟩) with ⟨f1,f2⟩|⟨j,e0,f1,f2,f3⟩
 ·simp[Instr.lookup,run_underlying ht,MapKept.run_getObj_map hb,K.check w _ hkey,f1,hz,Result.andThen]
 exact DU
theorem UMap.put (h:UMap w m es) (hk:P.underlying k=some (.int .u8)) (ht:P.underlying T=some (.map k e)) {x:Int} (v:Value) (hw:(Lit.int .u8 x).wf=true) (hx:∀p∈es,p.1≠x):
 ∃w',(Instr.mapUpdate T (.map (some m)) (.int .u8 x) v).run P w= .ok () w'/\UMap w' m (es++[(x,v)])/\w.grownBy w' (some m):=by
 obtain ⟨arr,clock,hb,h1,h2,h3⟩:=h;have K:=int_keyed hk;have hkey:=keyOf_int_mk hk hw;have hg:∀o:Obj,w.grownBy (ChangeMaps.setBlock w m o) (some m):=fun o=>⟨rfl,rfl,rfl,by simp[ChangeMaps.setBlock],fun i _ hi=>ChangeMaps.heap_setBlock_other hb o (fun e=>hi (by rw[e]))⟩
 rcases K.find w hkey arr.toList (fun y hy=>by obtain ⟨p,hp,e1,-⟩:=UMap.keys h1 hy;exact ⟨_,by rw[e1];exact keyOf_int_mk hk (h2 _ hp)⟩) with ⟨f1,f2⟩|⟨j,e0,f1,f2,f3⟩
 ·refine ⟨ChangeMaps.setBlock w m (.map (arr.push ⟨.int .u8 x,v,clock⟩) (clock+1)),?_,⟨_,_,ChangeMaps.heap_setBlock_same hb _,?_,?_,?_⟩,hg _⟩
  ·simp[Instr.mapUpdate,run_underlying ht,MapKept.run_getObj_map hb,K.check w false hkey,f1,MapKept.run_setObj_map _ hb,Result.andThen,ChangeMaps.setBlock]
  ·rw[Array.toList_push,List.map_append,List.map_append,h1];rfl
  ·intro p hp;rcases List.mem_append.1 hp with q|q
   ·exact h2 p q
   rw[List.mem_singleton.1 q];exact hw
  rw[List.map_append,List.nodup_append];refine ⟨h3,by simp,?_⟩;intro a ha b hb2;obtain ⟨p,hp,rfl⟩:=List.mem_map.1 ha;simp at hb2;rw[hb2];exact hx p hp
 exact DU
theorem jc {ops:Array Oper} {rest:List Oper} {o:Oper} {a:Act} {Q:Exit->Act->World->Prop} (hg:o.guard=none) (mo x v:Operand) (hop:o.op=Op.insert T mo x v)
 (hk:P.underlying k=some (.int .u8)) (ht:P.underlying T=some (.map k e)) (hm:a.eval mo= .map (some m)) (h:UMap w m es) (key:Int) (hx:a.eval x= .int .u8 key) (val:Value) (hv:a.eval v=val) (hw:(Lit.int .u8 key).wf=true) (hn:∀p∈es,p.1≠key)
 (hK:∀w',UMap w' m (es++[(key,val)])->w.grownBy w' (some m)->wpList P ops Q rest (a.put o.dst undef) w'):wpList P ops Q (o::rest) a w:=by
 refine wpList_plain hg fun K' hK'=>?_
 obtain ⟨w',hrun,r1,r2⟩:=h.put hk ht val hw hn;unfold Oper.wp;simp[execOp,hop,hm,hx,hv,hrun,Result.andThen];exact hK' _ _ (hK w' r1 r2)
end
theorem wI (a b:Int) (w:World):
 Calls Tryz.prog 134 #[.int .u64 a, .int .u64 b] w fun e w'=>e= .returned (.int .u64 (bits BinOp.xor IntKind.u64 a b))/\w'=w:=by
 go_enter Tryz.func134,Tryz.ntmps134;go_wp2;go_ret;exact ⟨rfl,rfl⟩
theorem wJ (a b c d:Int) (w:World):
 Calls Tryz.prog 132 #[.agg #[.int .u64 a, .int .u64 b], .agg #[.int .u64 c, .int .u64 d], .func (Fn.func 134) #[] #[]] w fun e w'=>e= .returned (.agg #[.int .u64 (bits BinOp.xor IntKind.u64 a c), .int .u64 (bits BinOp.xor IntKind.u64 b d)])/\Bl w w':=by
 go_enter Tryz.func132,Tryz.ntmps132;go_wp2;refine wp_region_still_tail 13 kq kq ?_;simp only[List.take_succ_cons,List.take_zero,List.drop_succ_cons,List.drop_zero];change wpStill _ _ (World.drew _) _ _ _;repeat (first|still_step|still_call (wI _ _ _))
 refine wpStill_nil ?_;change wpList _ _ _ _ _ (World.drew _);go_wp2;exact bodyPost_ret (v:= .agg #[.int .u64 (bits BinOp.xor IntKind.u64 a c), .int .u64 (bits BinOp.xor IntKind.u64 b d)]) (by simp[results,Tryz.results132,go_sem]) rfl ⟨rfl,bL⟩
theorem yI (a b c d:Int) (w:World):
 Calls Tryz.prog 111 #[.agg #[.int .u64 a, .int .u64 b], .agg #[.int .u64 c, .int .u64 d]] w fun e w'=>e= .returned (.agg #[.int .u64 (bits BinOp.xor IntKind.u64 a c), .int .u64 (bits BinOp.xor IntKind.u64 b d)])/\Bl w w':=by
 go_enter Tryz.func111,Tryz.ntmps111;go_wp2_with (go_at_call 132;refine (wJ _ _ _ _ _).mono ?_;rintro e w1 ⟨rfl,hb⟩;obtain ⟨hc,hf⟩:=bT hb;have hz:=hb.size;simp at hz);exact bodyPost_ret (v:= .agg #[.int .u64 (bits BinOp.xor IntKind.u64 a c), .int .u64 (bits BinOp.xor IntKind.u64 b d)]) (by simp[results,Tryz.results111,go_sem,hc,hf,hz]) rfl ⟨rfl,bL⟩
theorem mH (a b:Nat) (w:World) (ha:a<B*B) (hb:b<B*B):Calls Tryz.prog 111 #[aC a,aC b] w (ai w (a ^^^ b)):=
 (yI _ _ _ _ w).mono fun e w' ⟨h1,h2⟩=>⟨by rw[h1,xN a b ha hb],h2⟩
theorem sr (n:Nat) (k:Int) (w:World) (hn:n<B*B):Calls Tryz.prog 94 #[aC n, .int .i64 k] w (ai w ((n%2 ^ sh k) ^^^ (2 ^ sh k-1))):=by
 have hlt:n%2 ^ sh k<B*B:=Nat.lt_of_le_of_lt (Nat.mod_le _ _) hn;have HC:Hd (∀ W,Calls Tryz.prog 69 #[aC n, .int .i64 k] W (ai W (n%2 ^ sh k))):=fun W=>dh n k W hn
 have HM:Hd (∀ W,Calls Tryz.prog 118 #[.int .i64 k] W (ai W (2 ^ sh k-1))):=fun W=>kw k W
 have HX:Hd (∀ W,Calls Tryz.prog 111 #[aC (n%2 ^ sh k),aC (2 ^ sh k-1)] W (ai W ((n%2 ^ sh k) ^^^ (2 ^ sh k-1)))):=fun W=>mH _ _ W hlt (pd k)
 generalize n%2 ^ sh k=m at*;generalize 2 ^ sh k-1=q at*;generalize m ^^^ q=r at*;obtain ⟨y,z,he,-,-⟩:=ae n;obtain ⟨y1,z1,he1,-,-⟩:=ae m;obtain ⟨y2,z2,he2,-,-⟩:=ae q;obtain ⟨y3,z3,he3,-,-⟩:=ae r;have HR:=hD he3;unfold ai at HC HM HX;rw[he,he1] at HC;rw[he2] at HM;rw[he1,he2,he3] at HX;rw[he];clear he he1 he2 he3 hn hlt;go_enter Tryz.func94,Tryz.ntmps94;go_wp2_with (first
  |(go_at_call 69;refine (HC.o _).mono ?_;rintro e w1 ⟨rfl,hb1⟩;obtain ⟨hc1,hf1⟩:=bT hb1;have hz1:=hb1.size;simp at hz1;have L1:w.heap.size+1<w1.heap.size:=by omega)
  |(go_at_call 118;refine (HM.o _).mono ?_;rintro e w2 ⟨rfl,hb2⟩;obtain ⟨hc2,hf2⟩:=bT hb2;have hz2:=hb2.size;have L2:w.heap.size+1<w2.heap.size:=by omega)
  |(go_at_call 111;refine (HX.o _).mono ?_;rintro e w3 ⟨rfl,hb3⟩;obtain ⟨hc3,hf3⟩:=bT hb3;have hz3:=hb3.size;have L3:w.heap.size+1<w3.heap.size:=by omega))
 exact bodyPost_ret (v:= .agg #[.int .u64 (y3:Int), .int .u64 (z3:Int)]) (by simp[results,Tryz.results94,go_sem,hc1,hf1,hc2,hf2,hc3,hf3,L1,L2,L3]) rfl ⟨by rw[HR.o],bL⟩
theorem mI (x y c:Nat) (hc:c<=1) (w:World):(callFunc 131 #[.int .u64 x, .int .u64 y, .int .u64 c]).run Tryz.prog w=
 .ok (.value (.tuple #[.int .u64 (((x+y+c)%B:Nat):Int), .int .u64 (((x+y+c)/B:Nat):Int)])) w:=by
 rw[run_callFunc_extern (show Tryz.prog.funcs[131]?=some Tryz.f131 by kernel_rfl) kq kq kq (e:=add64Entry) kq,run_add64 x y c om om om om];simp only[Result.andThen];unfold B;congr 5<;>omega
def wK:Array Value->Sem Value:=fun args=>do
 let (x,y,b) <-Extern.MathBitsCarry.three "Sub64" args
 pure (Extern.MathBitsCarry.pair ((x+Extern.MathBitsCarry.m64-y-b)%Extern.MathBitsCarry.m64) (if x<y+b then 1 else 0))
theorem su (x y b:Nat) (hb:b<=1) (w:World):
 (wK #[.int .u64 x, .int .u64 y, .int .u64 b]).run Tryz.prog w=
  .ok (.tuple #[.int .u64 (((x+18446744073709551616-y-b)%18446744073709551616:Nat):Int), .int .u64 ((if x<y+b then 1 else 0:Nat):Int)]) w:=by
 have:b=0\/b=1:=om;rcases this with rfl|rfl<;>rfl
theorem mJ (x y c:Nat) (hc:c<=1) (w:World):(callFunc 129 #[.int .u64 x, .int .u64 y, .int .u64 c]).run Tryz.prog w=
 .ok (.value (.tuple #[.int .u64 (((x+B-y-c)%B:Nat):Int), .int .u64 ((if x<y+c then 1 else 0:Nat):Int)])) w:=by
 rw[run_callFunc_extern (show Tryz.prog.funcs[129]?=some Tryz.f129 by kernel_rfl) kq kq kq (e:=wK) kq,su x y c hc];rfl
theorem uy {a b:Nat} (ha:a<B*B) (hb:b<B*B) (hlo:lo=(a%B+b%B+0)%B) (hc:c=(a%B+b%B+0)/B) (hhi:hi=(a/B+b/B+c)%B):hi*B+lo=(a+b)%(B*B)/\lo<B/\c<=1:=by
 unfold B at*;omega
theorem uz {a b:Nat} (ha:a<B*B) (hb:b<B*B) (hlo:lo=(a%B+B-b%B-0)%B) (hc:c=if a%B<b%B+0 then 1 else 0) (hhi:hi=(a/B+B-b/B-c)%B):hi*B+lo=(a+(B*B-b))%(B*B)/\lo<B/\c<=1:=by
 unfold B at*;split at hc<;>omega
theorem sv (a b:Nat) (k:Int) (w:World) (ha:a<B*B) (hb:b<B*B):Calls Tryz.prog 106 #[aC a,aC b, .int .i64 k] w (ai w ((a+b)%(B*B)%2 ^ sh k)):=by
 have hlt:(a+b)%(B*B)<B*B:=Nat.mod_lt _ (by unfold B;omega);have HC:Hd (∀ W,Calls Tryz.prog 69 #[aC ((a+b)%(B*B)), .int .i64 k] W (ai W ((a+b)%(B*B)%2 ^ sh k))):=fun W=>dh _ k W hlt
 obtain ⟨lo,hlo⟩:=nm ((a%B+b%B+0)%B);obtain ⟨c,hc⟩:=nm ((a%B+b%B+0)/B);obtain ⟨hi,hhi⟩:=nm ((a/B+b/B+c)%B);obtain ⟨c2,hc2⟩:=nm ((a/B+b/B+c)/B);obtain ⟨e1,e2,e3⟩:=uy ha hb hlo hc hhi;have h1:∀W,(callFunc 131 #[.int .u64 (a%B:Nat), .int .u64 (b%B:Nat), .int .u64 0]).run Tryz.prog W= .ok (.value (.tuple #[.int .u64 (lo:Int), .int .u64 (c:Int)])) W:=fun W=>by
  rw[hlo,hc];exact mI _ _ 0 om W
 have h2:∀W,(callFunc 131 #[.int .u64 (a/B:Nat), .int .u64 (b/B:Nat), .int .u64 (c:Nat)]).run Tryz.prog W= .ok (.value (.tuple #[.int .u64 (hi:Int), .int .u64 (c2:Int)])) W:=fun W=>by
  rw[hhi,hc2];exact mI _ _ c e3 W
 have hv:=fA hi lo e2;rw[e1] at hv;generalize (a+b)%(B*B)%2 ^ sh k=r at*;generalize (a+b)%(B*B)=m at*;obtain ⟨y3,z3,he3,-,-⟩:=ae r;have HR:=hD he3;unfold ai at HC;rw[<- hv,he3] at HC;obtain ⟨ah,al,hea,qa,qb⟩:=ae a;obtain ⟨bh,bl,heb,qc,qd⟩:=ae b;rw[<- qb, <-qd] at h1;rw[<- qa, <-qc] at h2;rw[hea,heb];clear hlt hlo hc hhi hc2 e1 e2 e3 hv he3 hea heb qa qb qc qd ha hb;go_enter Tryz.func106,Tryz.ntmps106;go_wp2_with (first
  |simp only[h1]
  |simp only[h2]
  |(go_at_call 69;refine (HC.o _).mono ?_;rintro e w1 ⟨rfl,hb1⟩;obtain ⟨hc1,hf1⟩:=bT hb1;have hz1:=hb1.size;simp at hz1;have L1:w.heap.size+1<w1.heap.size:=by omega))
 exact bodyPost_ret (v:= .agg #[.int .u64 (y3:Int), .int .u64 (z3:Int)]) (by simp[results,Tryz.results106,go_sem,hc1,hf1,L1]) rfl ⟨by rw[HR.o],bL⟩
theorem mK (a b:Nat) (k:Int) (w:World) (ha:a<B*B) (hb:b<B*B):Calls Tryz.prog 96 #[aC a,aC b, .int .i64 k] w (ai w ((a+(B*B-b))%(B*B)%2 ^ sh k)):=by
 have hlt:(a+(B*B-b))%(B*B)<B*B:=Nat.mod_lt _ (by unfold B;omega);have HC:Hd (∀ W,Calls Tryz.prog 69 #[aC ((a+(B*B-b))%(B*B)), .int .i64 k] W (ai W ((a+(B*B-b))%(B*B)%2 ^ sh k))):=fun W=>dh _ k W hlt
 obtain ⟨lo,hlo⟩:=nm ((a%B+B-b%B-0)%B);obtain ⟨c,hc⟩:=nm (if a%B<b%B+0 then 1 else 0);obtain ⟨hi,hhi⟩:=nm ((a/B+B-b/B-c)%B);obtain ⟨c2,hc2⟩:=nm (if a/B<b/B+c then 1 else 0);obtain ⟨e1,e2,e3⟩:=uz ha hb hlo hc hhi;have h1:∀W,(callFunc 129 #[.int .u64 (a%B:Nat), .int .u64 (b%B:Nat), .int .u64 0]).run Tryz.prog W= .ok (.value (.tuple #[.int .u64 (lo:Int), .int .u64 (c:Int)])) W:=fun W=>by
  rw[hlo,hc];exact mJ _ _ 0 om W
 have h2:∀W,(callFunc 129 #[.int .u64 (a/B:Nat), .int .u64 (b/B:Nat), .int .u64 (c:Nat)]).run Tryz.prog W= .ok (.value (.tuple #[.int .u64 (hi:Int), .int .u64 (c2:Int)])) W:=fun W=>by
  rw[hhi,hc2];exact mJ _ _ c e3 W
 have hv:=fA hi lo e2;rw[e1] at hv;generalize (a+(B*B-b))%(B*B)%2 ^ sh k=r at*;generalize (a+(B*B-b))%(B*B)=m at*;obtain ⟨y3,z3,he3,-,-⟩:=ae r;have HR:=hD he3;unfold ai at HC;rw[<- hv,he3] at HC;obtain ⟨ah,al,hea,qa,qb⟩:=ae a;obtain ⟨bh,bl,heb,qc,qd⟩:=ae b;rw[<- qb, <-qd] at h1;rw[<- qa, <-qc] at h2;rw[hea,heb];clear hlt hlo hc hhi hc2 e1 e2 e3 hv he3 hea heb qa qb qc qd ha hb;go_enter Tryz.func96,Tryz.ntmps96;go_wp2_with (first
  |simp only[h1]
  |simp only[h2]
  |(go_at_call 69;refine (HC.o _).mono ?_;rintro e w1 ⟨rfl,hb1⟩;obtain ⟨hc1,hf1⟩:=bT hb1;have hz1:=hb1.size;simp at hz1;have L1:w.heap.size+1<w1.heap.size:=by omega))
 exact bodyPost_ret (v:= .agg #[.int .u64 (y3:Int), .int .u64 (z3:Int)]) (by simp[results,Tryz.results96,go_sem,hc1,hf1,L1]) rfl ⟨by rw[HR.o],bL⟩
theorem pl (n:Nat) (hi lo:Int) (w:World) (hn:n<B*B) (h0:0<=lo) (h1:lo<=hi) (h2:hi<128):Calls Tryz.prog 98 #[aC n, .int .i64 hi, .int .i64 lo] w (ai w (n/2 ^ sh lo%2 ^ sh (hi-lo+1))):=by
 have hlt:n/2 ^ sh lo<B*B:=Nat.lt_of_le_of_lt (Nat.div_le_self _ _) hn;have HS:Hd (∀ W,Calls Tryz.prog 102 #[aC n, .int .i64 lo] W (ai W (n/2 ^ sh lo))):=fun W=>i7 n lo W hn
 have HC:Hd (∀ W,Calls Tryz.prog 69 #[aC (n/2 ^ sh lo), .int .i64 (hi-lo+1)] W (ai W (n/2 ^ sh lo%2 ^ sh (hi-lo+1)))):=fun W=>dh _ _ W hlt
 generalize n/2 ^ sh lo%2 ^ sh (hi-lo+1)=r at*;generalize n/2 ^ sh lo=m at*;obtain ⟨y,z,he,-,-⟩:=ae n;obtain ⟨y1,z1,he1,-,-⟩:=ae m;obtain ⟨y3,z3,he3,-,-⟩:=ae r;have HR:=hD he3;unfold ai at HC HS;rw[he,he1] at HS;rw[he1,he3] at HC;rw[he];clear he he1 he3 hn hlt;go_enter Tryz.func98,Tryz.ntmps98;go_wp2_with (first
  |(go_at_call 102;refine (HS.o _).mono ?_;rintro e w1 ⟨rfl,hb1⟩;obtain ⟨hc1,hf1⟩:=bT hb1;have hz1:=hb1.size;simp at hz1;have L1:w.heap.size+1<w1.heap.size:=by omega)
  |(go_at_call 69;refine (HC.o _).mono ?_;rintro e w2 ⟨rfl,hb2⟩;obtain ⟨hc2,hf2⟩:=bT hb2;have hz2:=hb2.size;have L2:w.heap.size+1<w2.heap.size:=by omega))
 all_goals exact bodyPost_ret (v:= .agg #[.int .u64 (y3:Int), .int .u64 (z3:Int)]) (by simp[results,Tryz.results98,go_sem,hc1,hf1,hc2,hf2,L1,L2]) rfl ⟨by rw[HR.o],bL⟩
theorem sw (a b:Nat) (k:Int) (w:World) (ha:a<B*B) (hb:b<B*B):Calls Tryz.prog 104 #[aC a,aC b, .int .i64 k] w (ai w ((a*2 ^ sh k%(B*B)%2 ^ sh 128) ||| (b%2 ^ sh k))):=by
 have hl1:a*2 ^ sh k%(B*B)%2 ^ sh 128<B*B:=Nat.lt_of_le_of_lt (Nat.mod_le _ _) (Nat.mod_lt _ (by unfold B;omega));have hl2:b%2 ^ sh k<B*B:=Nat.lt_of_le_of_lt (Nat.mod_le _ _) hb;have HS:Hd (∀ W,Calls Tryz.prog 100 #[aC a, .int .i64 k, .int .i64 128] W (ai W (a*2 ^ sh k%(B*B)%2 ^ sh 128))):=fun W=>mt a k 128 W ha
 have HC:Hd (∀ W,Calls Tryz.prog 69 #[aC b, .int .i64 k] W (ai W (b%2 ^ sh k))):=fun W=>dh _ _ W hb
 have HO:Hd (∀ W,Calls Tryz.prog 113 #[aC (a*2 ^ sh k%(B*B)%2 ^ sh 128),aC (b%2 ^ sh k)] W (ai W ((a*2 ^ sh k%(B*B)%2 ^ sh 128) ||| (b%2 ^ sh k)))):=fun W=>nJ _ _ W hl1 hl2
 generalize a*2 ^ sh k%(B*B)%2 ^ sh 128=m at*;generalize b%2 ^ sh k=q at*;generalize m ||| q=r at*
 obtain ⟨y,z,he,-,-⟩:=ae a;obtain ⟨y0,z0,he0,-,-⟩:=ae b;obtain ⟨y1,z1,he1,-,-⟩:=ae m;obtain ⟨y2,z2,he2,-,-⟩:=ae q;obtain ⟨y3,z3,he3,-,-⟩:=ae r;have HR:=hD he3;unfold ai at HC HS HO;rw[he,he1] at HS;rw[he0,he2] at HC;rw[he1,he2,he3] at HO;rw[he,he0];clear he he0 he1 he2 he3 ha hb hl1 hl2;go_enter Tryz.func104,Tryz.ntmps104;go_wp2_with fail;obtain ⟨W0,hW0⟩:=nm (((w.alloc (.cells #[.int .u64 (y:Int), .int .u64 (z:Int)] 60)).alloc (.cells #[.int .u64 (y0:Int), .int .u64 (z0:Int)] 60)).alloc (.cells #[.int .u64 0, .int .u64 0] 60));have HS0:Hd ((fun Wk=>Below (w.heap.size) (w) Wk/\Cl Wk w.heap.size 0 (.int .u64 (y:Int))/\Cl Wk w.heap.size 1 (.int .u64 (z:Int))/\Cl Wk (w.heap.size+1) 0 (.int .u64 (y0:Int))/\Cl Wk (w.heap.size+1) 1 (.int .u64 (z0:Int))/\(∃ x,Cl Wk (w.heap.size+1+1) 0 x)/\(∃ x,Cl Wk (w.heap.size+1+1) 1 x)/\Wk.frozen? ⟨w.heap.size+1+1,0,none⟩=false/\Wk.frozen? ⟨w.heap.size+1+1,1,none⟩=false) W0.drew):=by
  show _/\_;rw[hW0];exact ⟨below_drewN bL 1,by simp[go_sem],by simp[go_sem],by simp[go_sem],by simp[go_sem],⟨.int .u64 0,by simp[go_sem]⟩,⟨.int .u64 0,by simp[go_sem]⟩,by simp[go_sem],by simp[go_sem]⟩
 rw[<- hW0];clear hW0;have hs0:=HS0.o;obtain ⟨-,c0,c1,c2,c3,⟨x4,c4⟩,⟨x5,c5⟩,f4,f5⟩:=hs0;simp only[Cl,World.cell?_drew] at c0 c1 c2 c3 c4 c5;rw[World.frozen?_drew] at f4 f5;go_region_held3 (fun Wk=>Below (w.heap.size) (w) Wk/\Wk.cell? ⟨w.heap.size,0,none⟩=some (.int .u64 (y:Int))/\Wk.cell? ⟨w.heap.size,1,none⟩=some (.int .u64 (z:Int))/\Wk.cell? ⟨w.heap.size+1,0,none⟩=some (.int .u64 (y0:Int))/\Wk.cell? ⟨w.heap.size+1,1,none⟩=some (.int .u64 (z0:Int))/\(∃ x,Wk.cell? ⟨w.heap.size+1+1,0,none⟩=some x)/\(∃ x,Wk.cell? ⟨w.heap.size+1+1,1,none⟩=some x)/\Wk.frozen? ⟨w.heap.size+1+1,0,none⟩=false/\Wk.frozen? ⟨w.heap.size+1+1,1,none⟩=false)
  (first|exact HS0.o|exact ql hb1 (by assumption)|exact qm _ _ om (by simp<;>omega) (by assumption))
  (first
  |(go_at_call 100;refine (HS.o _).mono ?_;rintro e w1 ⟨rfl,hb1⟩)
  |(go_at_call 69;refine (HC.o _).mono ?_;rintro e w1 ⟨rfl,hb1⟩)
  |(go_at_call 113;refine (HO.o _).mono ?_;rintro e w1 ⟨rfl,hb1⟩;obtain ⟨-,-,-,-,-,⟨x6,g4⟩,⟨x7,g5⟩,g6,g7⟩:=ql hb1 (by assumption)))
 rename_i hS;have HBF:=hD hS.1;clear hS;have y5:(w1.setCell ⟨w.heap.size+1+1,0,none⟩ (.int .u64 (y3:Int))).cell? ⟨w.heap.size+1+1,1,none⟩=some x7:=by rw[World.cell?_setCell_other _ _ _ _ sm];exact g5
 have y0':((w1.setCell ⟨w.heap.size+1+1,0,none⟩ (.int .u64 (y3:Int))).setCell ⟨w.heap.size+1+1,1,none⟩ (.int .u64 (z3:Int))).cell? ⟨w.heap.size+1+1,0,none⟩=some (.int .u64 (y3:Int)):=by
  rw[World.cell?_setCell_other _ _ _ _ sm];exact World.cell?_setCell_same _ _ _ g4
 have y1':((w1.setCell ⟨w.heap.size+1+1,0,none⟩ (.int .u64 (y3:Int))).setCell ⟨w.heap.size+1+1,1,none⟩ (.int .u64 (z3:Int))).cell? ⟨w.heap.size+1+1,1,none⟩=some (.int .u64 (z3:Int)):=World.cell?_setCell_same _ _ _ y5;clear y5 g4 g5 g6 g7 c0 c1 c2 c3 c4 c5 f4 f5;generalize (w1.setCell ⟨w.heap.size+1+1,0,none⟩ (.int .u64 (y3:Int))).setCell ⟨w.heap.size+1+1,1,none⟩ (.int .u64 (z3:Int))=WF at*;go_wp2_with fail;exact bodyPost_ret (v:= .agg #[.int .u64 (y3:Int), .int .u64 (z3:Int)]) (by simp[results,Tryz.results104,go_sem,y0',y1']) rfl ⟨by rw[HR.o],HBF.o⟩
theorem uA (x:Int) (w:World):Calls Tryz.prog 140 #[.int .u64 x] w fun e w'=>e= .returned (.bool false)/\w'=w:=by
 go_enter Tryz.func140,Tryz.ntmps140;go_wp2;go_ret;exact ⟨rfl,rfl⟩
def dX (a b:Nat):Int:=if a<b then -1 else if b<a then 1 else 0
theorem kz (x y:Nat) (w:World):Calls Tryz.prog 137 #[.int .u64 (x:Int), .int .u64 (y:Int)] w fun e w'=>e= .returned (.int .i64 (dX x y))/\w'=w:=by
 have h1:x<y->Hd (dX x y= -1):=fun h=>by show _=_;unfold dX;rw[if_pos h]
 have h2:y<x->Hd (dX x y=1):=fun h=>by show _=_;unfold dX;rw[if_neg om,if_pos h]
 have h3:x=y->Hd (dX x y=0):=fun h=>by show _=_;unfold dX;rw[if_neg om,if_neg om]
 have H:=hD (And.intro h1 (And.intro h2 h3));clear h1 h2 h3;go_enter Tryz.func137,Tryz.ntmps137;go_wp2_with (go_at_call 140;refine (uA _ _).mono ?_;rintro e w1 ⟨rfl,rfl⟩);all_goals go_ret
 ·exact ⟨by rw[(H.o.1 om).o];rfl,rfl⟩
 ·exact ⟨by rw[(H.o.2.1 om).o];rfl,rfl⟩
 ·exact ⟨by rw[(H.o.2.2 om).o];rfl,rfl⟩
theorem yJ (g t:Nat) (a b:Int) (w:World) (h0:w.heap[g]?=some (.cells #[.int .i64 a, .int .i64 b] t (0,0))):Calls Tryz.prog 136 #[.slice (some ⟨g,0,none⟩) 2 2] w fun e w'=>e= .returned (.int .i64 (if a≠0 then a else b))/\w'=w:=by
 have c0:w.cell? ⟨g,0,none⟩=some (.int .i64 a):=by simp[World.cell?,h0]
 have c1:w.cell? ⟨g,1,none⟩=some (.int .i64 b):=by simp[World.cell?,h0]
 clear h0;have V1:a≠0->Hd ((if a≠0 then a else b)=a):=fun h=>if_pos h
 have V2:a=0->Hd ((if a≠0 then a else b)=b):=fun h=>if_neg (by simp[h])
 have HV:=hD (And.intro V1 V2);clear V1 V2;generalize (if a≠0 then a else b)=r at*;go_enter Tryz.func136,Tryz.ntmps136;go_wp2;go_loop [8] (fun i=>∃k:Nat,k<=2/\i= .int .i64 k/\(0<k->a=0)/\(1<k->b=0)) (fun i=>2-(intOf i).toNat)
 case atStart=>exact ⟨0,om,rfl,om,om⟩
 case round=>
  obtain ⟨k,hk,rfl,hz0,hz1⟩:=hrel;have hcase:k=0\/k=1\/k=2:=om;rcases hcase with rfl|rfl|rfl
  ·by_cases ha:a=0
   ·subst ha;go_wp2;go_round
    case rel=>exact ⟨1,om,rfl,by simp,om⟩
    case measure=>simp[intOf]
   have hd:decide (a=0)=false:=decide_eq_false ha;have hd2:(a !=0)=true:=by simpa using ha
   go_wp2;go_ret;exact ⟨by rw[(HV.o.1 ha).o];rfl,rfl⟩
  ·have ha:=hz0 om;by_cases hb:b=0
   ·subst hb;go_wp2;go_round
    case rel=>exact ⟨2,om,rfl,fun _=>ha,by simp⟩
    case measure=>simp[intOf]
   have hd:decide (b=0)=false:=decide_eq_false hb;have hd2:(b !=0)=true:=by simpa using hb
   go_wp2;go_ret;exact ⟨by rw[(HV.o.2 ha).o];rfl,rfl⟩
  have ha:=hz0 om;have hb:=hz1 om;go_wp2;go_ret;exact ⟨by rw[(HV.o.2 ha).o,hb];rfl,rfl⟩
theorem uB {a b:Nat} (ha:a<B*B) (hb:b<B*B):(if dX (a/B) (b/B)≠0 then dX (a/B) (b/B) else dX (a%B) (b%B))=dX a b:=by
 unfold dX B at*;repeat split
 all_goals first|rfl|omega|simp_all
theorem mL (a b:Nat) (w:World) (ha:a<B*B) (hb:b<B*B):Calls Tryz.prog 116 #[aC a,aC b] w fun e w'=>e= .returned (.int .i64 (dX a b))/\Bl w w':=by
 have hv:=uB ha hb;have H1:∀W,Calls Tryz.prog 137 #[.int .u64 (a/B:Nat), .int .u64 (b/B:Nat)] W fun e w'=>e= .returned (.int .i64 (dX (a/B) (b/B)))/\w'=W:=fun W=>kz _ _ W
 have H2:∀W,Calls Tryz.prog 137 #[.int .u64 (a%B:Nat), .int .u64 (b%B:Nat)] W fun e w'=>e= .returned (.int .i64 (dX (a%B) (b%B)))/\w'=W:=fun W=>kz _ _ W
 have H3:∀(g:Nat) W,W.heap[g]?=some (.cells #[.int .i64 (dX (a/B) (b/B)), .int .i64 (dX (a%B) (b%B))] 3 (0,0))->Calls Tryz.prog 136 #[.slice (some ⟨g,0,none⟩) 2 2] W fun e w'=>e= .returned (.int .i64 (dX a b))/\w'=W:=fun g W h=>by rw[<- hv];exact yJ g _ _ _ W h
 obtain ⟨ah,al,hea,qa,qb⟩:=ae a;obtain ⟨bh,bl,heb,qc,qd⟩:=ae b;rw[<- qa, <-qc] at H1 H3;rw[<- qb, <-qd] at H2 H3;rw[hea,heb];generalize dX ah bh=x at*;generalize dX al bl=y at*;generalize dX a b=z at*;have HH1:=hD H1;have HH2:=hD H2;have HH3:=hD H3;clear hv H1 H2 H3 qa qb qc qd hea heb ha hb;go_enter Tryz.func116,Tryz.ntmps116;go_wp2_with fail;obtain ⟨W0,hW0⟩:=nm ((w.alloc (.cells #[.int .u64 (ah:Int), .int .u64 (al:Int)] 60)).alloc (.cells #[.int .u64 (bh:Int), .int .u64 (bl:Int)] 60));have HS0:Hd ((fun Wk=>Below (w.heap.size) (w) Wk/\Cl Wk w.heap.size 0 (.int .u64 (ah:Int))/\Cl Wk w.heap.size 1 (.int .u64 (al:Int))/\Cl Wk (w.heap.size+1) 0 (.int .u64 (bh:Int))/\Cl Wk (w.heap.size+1) 1 (.int .u64 (bl:Int))) W0.drew):=by
  show _/\_;rw[hW0];exact ⟨below_drewN bL 1,by simp[go_sem],by simp[go_sem],by simp[go_sem],by simp[go_sem]⟩
 rw[<- hW0];clear hW0;have hs0:=HS0.o;obtain ⟨-,c0,c1,c2,c3⟩:=hs0;simp only[Cl,World.cell?_drew] at c0 c1 c2 c3;have hal:∀(W:World) (o:Obj),Bl W (W.alloc o):=fun W o=>br.alloc lr _
 have HAL:=hD hal;clear hal;go_region_held3 (fun Wk=>Below (w.heap.size) (w) Wk/\Wk.cell? ⟨w.heap.size,0,none⟩=some (.int .u64 (ah:Int))/\Wk.cell? ⟨w.heap.size,1,none⟩=some (.int .u64 (al:Int))/\Wk.cell? ⟨w.heap.size+1,0,none⟩=some (.int .u64 (bh:Int))/\Wk.cell? ⟨w.heap.size+1,1,none⟩=some (.int .u64 (bl:Int)))
  (first|exact HS0.o|assumption|exact qj (HAL.o _ _) (by assumption))
  (first
  |(go_at_call 137;(with_reducible refine (HH1.o _).mono ?_);rintro e w1 ⟨rfl,rfl⟩)
  |(go_at_call 137;(with_reducible refine (HH2.o _).mono ?_);rintro e w1 ⟨rfl,rfl⟩)
  |(go_at_call 136;refine (HH3.o W0.heap.size _ ?_).mono ?_;exact ag W0 _;rintro e w2 ⟨rfl,rfl⟩))
 rename_i hS;have HBF:=hD hS.1;clear hS c0 c1 c2 c3;go_wp2_with fail;go_ret;exact ⟨rfl,HBF.o⟩
end Go.Proofs.YtjfhfaodbjecdaaGreat
