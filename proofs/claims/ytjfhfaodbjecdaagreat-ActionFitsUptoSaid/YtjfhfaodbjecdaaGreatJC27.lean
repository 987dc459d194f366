/-
  Lemmas, joined: HasA, UMap, NumMore, NumMore2, NumMore3, Alone.
-/
import Derived.Test.YtjfhfaodbjecdaaGreatJC21
import Derived.BigRegion
import Derived.Test.YtjfhfaodbjecdaaGreatJC25
import Derived.Test.YtjfhfaodbjecdaaGreatJC01
import Derived.Maps.Keyed
import Derived.Maps.Own
import Derived.ProofKit
import Derived.Test.YtjfhfaodbjecdaaGreatJC24
import Derived.Laws.Externs
import Derived.Deep.RegionHeld3
import Derived.Test.YtjfhfaodbjecdaaGreatJC18
import Derived.Test.YtjfhfaodbjecdaaGreatJC02
set_option maxHeartbeats 6400000
set_option maxRecDepth 100000
namespace Go.Proofs.YtjfhfaodbjecdaaGreat
open Go.RowKit
structure Fr (S:Nat->Prop) (w w':World):Prop where
 os:w'.os=w.os
 tape:w'.tape=w.tape
 output:w'.output=w.output
 size:w.heap.size<=w'.heap.size
 block:∀k,k<w.heap.size->¬S k->w'.heap[k]?=w.heap[k]?
section
variable {S S':Nat->Prop} {w w' w2:World}
theorem Fr.refl (S:Nat->Prop) (w:World):Fr S w w:=⟨rfl,rfl,rfl,Nat.le_refl _,fun _ _ _=>rfl⟩
theorem Fr.trans (h:Fr S w w') (k:Fr S w' w2):Fr S w w2:=⟨k.os.trans h.os,k.tape.trans h.tape,k.output.trans h.output,Nat.le_trans h.size k.size,fun i hi hs=>(k.block i (Nat.lt_of_lt_of_le hi h.size) hs).trans (h.block i hi hs)⟩
theorem Fr.of_below (h:Below w.heap.size w w'):Fr S w w':=⟨h.os,h.tape,h.output,h.size,fun k hk _=>h.block k hk⟩
theorem Fr.more (h:Fr S w w') (hs:∀k,S k->S' k):Fr S' w w':=⟨h.os,h.tape,h.output,h.size,fun k hk hn=>h.block k hk fun e=>hn (hs k e)⟩
theorem Fr.below (h:Fr S w w') {b:Nat} (hb:b<=w.heap.size) (hs:∀k,S k->b<=k):Below b w w':=⟨h.os,h.tape,h.output,h.size,fun k hk=>h.block k (by omega) fun e=>by have:=hs k e;omega⟩
theorem Fr.set {X:Nat} {i:Nat} (h:Fr S w w') (hX:S X\/w.heap.size<=X) (u:Value):Fr S w (w'.setCell ⟨X,i,none⟩ u):=
 ⟨h.os,h.tape,h.output,by simpa [World.setCell] using h.size,fun k hk hn=>(heap_setCell_other w' _ k u (fun e=>by rcases hX with q|q;exact hn (by rw[show k=X from e];exact q);exact absurd (show k=X from e) (by omega))).trans (h.block k hk hn)⟩
theorem Fr.cell (h:Fr S w w') {p:Addr} {v:Value} (hp:¬S p.block) (hc:w.cell? p=some v):w'.cell? p=some v:=
 (World.cell?_of_block (w:=w) (h.block p.block (cell_there hc).1 hp)).trans hc
end
abbrev Pkt.acc (x:Pkt) (b:Bool):Pkt:={ x with access:=x.access||b }
theorem PktB.setAcc {base:Nat} {w:World} {X:Nat} {x:Pkt} {r v f m:Value} {fs:List Value} (h:PktB base w X x r v f m fs):PktB base (w.setCell ⟨X,8,none⟩ (.bool true)) X (x.acc true) r v f m fs:=
 h.put (i:=8) (u:= .bool true) (by simp[pktCells]) rfl rfl rfl rfl
theorem PktB.acc0 {base:Nat} {w:World} {X:Nat} {x:Pkt} {r v f m:Value} {fs:List Value} (h:PktB base w X x r v f m fs):PktB base w X (x.acc false) r v f m fs:=by
 have:x.acc false=x:=by simp[Pkt.acc]
 rw[this];exact h
def PS (X:Nat) (r v f m:Value) (fs:List Value) (k:Nat):Prop:=k=X\/∃z∈[r,v,f,m]++fs,z.ownBlock=some k
theorem PktB.kept {base:Nat} {w w':World} {X:Nat} {x:Pkt} {r v f m:Value} {fs:List Value} (h:PktB base w X x r v f m fs) (hk:∀k,PS X r v f m fs k->w'.heap[k]?=w.heap[k]?):PktB base w' X x r v f m fs:=
 ⟨(hk X (.inl rfl)).trans h.st,own_far h.hr fun k e=>hk k (.inr ⟨r,by simp,e⟩),own_far h.hv fun k e=>hk k (.inr ⟨v,by simp,e⟩),own_far h.hf fun k e=>hk k (.inr ⟨f,by simp,e⟩),
  fun i u l h1 h2=>(h.hfs i u l h1 h2).far fun k e=>hk k (.inr ⟨u,by simp[List.mem_of_getElem? h1],e⟩),h.hm.far fun k e=>hk k (.inr ⟨m,by simp,e⟩),h.lo,h.nd⟩
theorem PktB.blk {base:Nat} {w:World} {X:Nat} {x:Pkt} {r v f m:Value} {fs:List Value} (h:PktB base w X x r v f m fs) {k:Nat} (hk:PS X r v f m fs k):base<=k/\k<w.heap.size:=by
 rcases hk with rfl|⟨z,hz,e⟩
 ·exact ⟨h.lo,h.lt⟩
 ·rcases List.mem_append.1 hz with q|q
  ·simp only[List.mem_cons,List.not_mem_nil,or_false] at q;rcases q with rfl|rfl|rfl|rfl
   ·exact own_size h.hr e
   ·exact own_size h.hv e
   ·exact own_size h.hf e
   ·exact own_size h.hm.1 e
  ·obtain ⟨i,hi⟩:=List.getElem?_of_mem q;have hlt:=(List.getElem?_eq_some_iff.1 hi).1;exact own_size (h.hfs i z _ hi (List.getElem?_eq_getElem (by rw[<- h.flen];exact hlt))).1 e
structure PkAt (w:World) (X h f:Nat) (vg vc vn fg fn fc ug uc un:Nat) (vb:Bool) (y z:Int):Prop where
 c2:w.cell? ⟨X,2,none⟩=some (.slice (some ⟨vg,0,none⟩) vn vc)
 c3:w.cell? ⟨X,3,none⟩=some (.slice (some ⟨fg,0,none⟩) fn fc)
 cv:w.cell? ⟨vg,h,none⟩=some (.bool vb)
 cf:w.cell? ⟨fg,h,none⟩=some (.slice (some ⟨ug,0,none⟩) un uc)
 n0:w.cell? ⟨ug,f*2,none⟩=some (.int .u64 y)
 n1:w.cell? ⟨ug,f*2+1,none⟩=some (.int .u64 z)
theorem PktB.reads {base:Nat} {w:World} {X:Nat} {x:Pkt} {r v f m:Value} {fs:List Value} (hP:PktB base w X x r v f m fs) {h j n:Nat} {l:List Nat} {vb:Bool} (hl:x.fields[h]?=some l) (hn:l[j]?=some n) (hv:x.valid[h]?=some vb):
 ∃vg vc fg fc ug uc,PkAt w X h j vg vc x.valid.length fg x.fields.length fc ug uc l.length vb ((n/B:Nat):Int) ((n%B:Nat):Int):=by
 obtain ⟨vg,vc,rfl,-,hv0⟩:=hP.getValid hv;obtain ⟨fg,fc,u,rfl,-,hf0,hu,hnu⟩:=hP.getRow hl;have hlt:=(List.getElem?_eq_some_iff.1 hn).1;obtain ⟨ug,uc,rfl,-⟩:=own_some hnu.1 (by omega);obtain ⟨nb,no,e,-,-,y1,y2⟩:=hnu.row.get hn;simp only[Option.some.injEq,Addr.mk.injEq,and_true] at e;obtain ⟨rfl,rfl⟩:=e;rw[Nat.zero_add] at y1 y2;exact ⟨vg,vc,fg,fc,ug,uc,hP.cell (i:=2) rfl,hP.cell (i:=3) rfl,hv0,hf0,y1,y2⟩
theorem lt_of_some {W:World} {g:Nat} {o:Obj} (h:W.heap[g]?=some o):g<W.heap.size:=(Array.getElem?_eq_some_iff.1 h).1
def Bx2 (W:World) (g:Nat) (a b:Int):Prop:=W.heap[g]?=some (.cells #[.int .u64 a, .int .u64 b] 60 (0,0))
theorem Bx2.cells {W:World} {g:Nat} {a b:Int} (h:Bx2 W g a b):W.cell? ⟨g,0,none⟩=some (.int .u64 a)/\W.cell? ⟨g,1,none⟩=some (.int .u64 b)/\W.frozen? ⟨g,0,none⟩=false/\W.frozen? ⟨g,1,none⟩=false:=by
 unfold Bx2 at h;refine ⟨?_,?_,?_,?_⟩<;>simp[World.cell?,World.frozen?,h]
theorem has_true {base:Nat} {w:World} {X:Nat} {x:Pkt} {r v f m:Value} {fs:List Value} (hP:PktB base w X x r v f m fs) (h:Nat) (h1:h<x.valid.length) (h2:h<x.fields.length):
 Calls Tryz.prog 119 #[.pointer (some ⟨X,0,none⟩), .int .i64 (h:Int)] w fun e w'=>e= .returned (.bool true)/\Below w.heap.size w w':=by
 obtain ⟨vg,vc,rfl,-,-⟩:=hP.getValid (List.getElem?_eq_getElem h1);obtain ⟨fg,fc,u,rfl,-,-,-,-⟩:=hP.getRow (List.getElem?_eq_getElem h2);have c2:=hP.cell (i:=2) rfl;have c3:=hP.cell (i:=3) rfl;have q1:(h:Int)<(x.valid.length:Int):=by omega
 have q2:(h:Int)<(x.fields.length:Int):=by omega
 have q0:¬(h:Int)<0:=by omega
 clear hP h1 h2;generalize x.valid.length=vn at*;generalize x.fields.length=fn at*;go_enter Tryz.func119,Tryz.ntmps119;go_wp2_with fail;go_ret;exact ⟨rfl,(by repeat (first|exact Below.refl _ _|assumption|refine Below.drew ?_|refine blA ?_|refine blS ?_|refine blT ?_ (by assumption)))⟩
theorem get_any {base:Nat} {w:World} {X:Nat} {x:Pkt} {r v f m:Value} {fs:List Value} (hP:PktB base w X x r v f m fs) {h j n:Nat} {l:List Nat} {vb:Bool} (hl:x.fields[h]?=some l) (hn:l[j]?=some n) (hv:x.valid[h]?=some vb):
 Calls Tryz.prog 89 #[.pointer (some ⟨X,0,none⟩), .int .i64 (h:Int), .int .i64 (j:Int)] w fun e w'=>e= .returned (numV (if vb then n else 0))/\PktB base w' X (x.acc !vb) r v f m fs/\Fr (·=X) w w':=by
 have h1:h<x.valid.length:=(List.getElem?_eq_some_iff.1 hv).1;have h2:h<x.fields.length:=(List.getElem?_eq_some_iff.1 hl).1;have h3:j<l.length:=(List.getElem?_eq_some_iff.1 hn).1;obtain ⟨vg,vc,fg,fc,ug,uc,hA⟩:=hP.reads hl hn hv;have HAS:Hid (∀ W,Below w.heap.size w W->Calls Tryz.prog 119 #[.pointer (some ⟨X,0,none⟩), .int .i64 (h:Int)] W fun e w'=>e= .returned (.bool true)/\Below W.heap.size W w'):=fun W hb=>has_true (hP.below hb) h h1 h2
 have HRD:Hid (∀ W,Below w.heap.size w W->PkAt W X h j vg vc x.valid.length fg x.fields.length fc ug uc l.length vb ((n/B:Nat):Int) ((n%B:Nat):Int)):=fun W hb=>by
  obtain ⟨a1,a2,a3,a4,a5,a6⟩:=hA;exact ⟨(hb.cell (cell_there a1).1).trans a1,(hb.cell (cell_there a2).1).trans a2,(hb.cell (cell_there a3).1).trans a3,(hb.cell (cell_there a4).1).trans a4,(hb.cell (cell_there a5).1).trans a5,(hb.cell (cell_there a6).1).trans a6⟩
 have HP:=hD hP;have hXl:=hP.lt;have HN:Hid (numV n= .agg #[.int .u64 ((n/B:Nat):Int), .int .u64 ((n%B:Nat):Int)]):=rfl;have i1:(h:Int)<(x.valid.length:Int):=by omega
 have i2:(h:Int)<(x.fields.length:Int):=by omega
 have i3:(j:Int)<(l.length:Int):=by omega
 have i4:¬(l.length:Int)<=(j:Int):=by omega
 have i0:¬(j:Int)<0:=by omega
 clear hP hl hn hv hA h1 h2 h3;generalize ((n/B:Nat):Int)=n0 at*;generalize ((n%B:Nat):Int)=n2 at*;generalize x.valid.length=vn at*;generalize x.fields.length=fn at*;generalize l.length=ll at*;go_enter Tryz.func89,Tryz.ntmps89;go_upto_region 1 with fail
 obtain ⟨W0,hW0⟩:∃W0,W0=w.alloc (.cells #[.int .u64 0, .int .u64 0] 60):=⟨_,rfl⟩;have HB0:Hid (Below w.heap.size w W0):=by show Below _ _ _;rw[hW0];exact (by repeat (first|exact Below.refl _ _|assumption|refine Below.drew ?_|refine blA ?_|refine blS ?_|refine blT ?_ (by assumption)))
 have HX0:Hid (Bx2 W0 w.heap.size 0 0):=by show _=_;rw[hW0];exact heap_new _ _
 rw[<- hW0];clear hW0;obtain ⟨c2,c3,cv,cf,d0,d1⟩:=HRD.out W0 HB0.out;go_upto_region 3 with (go_at_call 119;refine (HAS.out _ HB0.out).mono ?_;rintro e w1 ⟨rfl,hb1⟩;clear c2 c3 cv cf d0 d1;have HX1:Hid (Bx2 w1 w.heap.size 0 0):=(hb1.block _ (lt_of_some HX0.out)).trans HX0.out;have HB1:Hid (Below w.heap.size w w1):=HB0.out.trans (hb1.mono HB0.out.size);clear hb1;obtain ⟨c2,c3,cv,cf,d0,d1⟩:=HRD.out w1 HB1.out)
 have HP1:Hid (PktB base w1 X x r v f m fs):=HP.out.below HB1.out;cases vb
 ·have e8:=HP1.out.cell (i:=8) rfl;have f8:=HP1.out.free 8;go_upto_region 5 with fail
  obtain ⟨W2,hW2⟩:∃W2,W2=w1.setCell ⟨X,8,none⟩ (.bool true):=⟨_,rfl⟩;have HP2:Hid (PktB base W2 X (x.acc true) r v f m fs):=by show PktB _ _ _ _ _ _ _ _ _;rw[hW2];exact HP1.out.setAcc
  have HF2:Hid (Fr (·=X) w W2):=by show Fr _ _ _;rw[hW2];exact (Fr.of_below (S:=(·=X)) HB1.out).set (X:=X) (.inl rfl) _
  have hx2:Bx2 W2 w.heap.size 0 0:=by rw[hW2];exact (heap_setCell_other w1 _ _ _ (by show w.heap.size≠X;omega)).trans HX1.out
  have HS2:Hid (w.heap.size<W2.heap.size):=lt_of_some hx2;rw[<- hW2];clear hW2 c2 c3 cv cf d0 d1 e8 f8;obtain ⟨b0,b1,g0,g1⟩:=hx2.cells;have HW0:Hid (W2.heap.size>w.heap.size):=HS2.out;have hXX:=hXl;go_wp2_with fail;refine bodyPost_ret (v:= .agg #[.int .u64 0, .int .u64 0]) ?_ rfl ⟨rfl,?_,?_⟩
  ·simp[results,Tryz.results89,go_sem,b0,b1,g0,g1]
  ·exact HP2.out.kept fun k hk=>set2_other W2 w.heap.size 0 1 _ _ (by have:=(HP.out.blk hk).2;omega)
  ·exact (HF2.out.set (.inr (Nat.le_refl _)) _).set (.inr (Nat.le_refl _)) _
 ·obtain ⟨b0,b1,g0,g1⟩:=HX1.out.cells;go_wp2_with fail;refine bodyPost_ret (v:= .agg #[.int .u64 n0, .int .u64 n2]) ?_ rfl ⟨by rw[<- HN.out],?_,?_⟩
  ·simp[results,Tryz.results89,go_sem,b0,b1,g0,g1]
  ·exact HP1.out.acc0.kept fun k hk=>set2_other w1 w.heap.size 0 1 _ _ (by have:=(HP.out.blk hk).2;omega)
  ·exact ((Fr.of_below HB1.out).set (.inr (Nat.le_refl _)) _).set (.inr (Nat.le_refl _)) _
theorem among_any {w:World} {v:Value} {l:List Nat} (hv:NRow w v l) {i n:Nat} (hn:l[i]?=some n):
 Calls Tryz.prog 90 #[v, .int .i64 (i:Int)] w (RetNum w n):=by
 obtain ⟨p,c,rfl,-⟩:=hv.shape;obtain ⟨b,o,hp,hb,-,y1,y2⟩:=hv.get hn;have hlt:=(List.getElem?_eq_some_iff.1 hn).1;have hbw:b<w.heap.size:=hb;have hlc:=hv.ln;subst hp;have i1:(i:Int)<(l.length:Int):=by omega
 have i2:¬(l.length:Int)<=(i:Int):=by omega
 obtain ⟨z3,z4,he,e3,e4⟩:=numV_parts n;have HE:=hD he;rw[<- e3] at y1;rw[<- e4] at y2;unfold RetNum;rw[he];clear hv hn he e3 e4 hlc hb hlt;generalize l.length=ll at*;go_enter Tryz.func90,Tryz.ntmps90;go_wp2_with fail;exact bodyPost_ret (v:= .agg #[.int .u64 (z3:Int), .int .u64 (z4:Int)]) (by simp[results,Tryz.results90,go_sem]) rfl ⟨rfl,(by repeat (first|exact Below.refl _ _|assumption|refine Below.drew ?_|refine blA ?_|refine blS ?_|refine blT ?_ (by assumption)))⟩
structure BR (n g:Nat) (n0 n1:Int) (W W':World):Prop where
 low:Below n W W'
 oth:∀k,k<W.heap.size->k≠g->W'.heap[k]?=W.heap[k]?
 kb:Bx2 W g n0 n1->Bx2 W' g n0 n1
 ob:(∃ a b,Bx2 W g a b)->∃a b,Bx2 W' g a b
structure BS (n g:Nat) (W0 W:World):Prop where
 low:Below n W0 W
 oth:∀k,k<W0.heap.size->k≠g->W.heap[k]?=W0.heap[k]?
 ob:∃a b,Bx2 W g a b
section
variable {n g:Nat} {n0 n1:Int} {W0 W W':World}
theorem BR.refl (n g:Nat) (n0 n1:Int) (W:World):BR n g n0 n1 W W:=⟨Below.refl _ _,fun _ _ _=>rfl,id,id⟩
theorem Bx2.below {a b:Int} (h:Bx2 W g a b) (hb:Below W.heap.size W W'):Bx2 W' g a b:=(hb.block _ (lt_of_some h)).trans h
theorem BR.of_below (hn:n<=W.heap.size) (hb:Below W.heap.size W W'):BR n g n0 n1 W W':=⟨hb.mono hn,fun k hk _=>hb.block k hk,fun h=>h.below hb,fun ⟨a,b,h⟩=>⟨a,b,h.below hb⟩⟩
theorem Bx2.put {a b:Int} (h:Bx2 W g a b) (x y:Int):Bx2 ((W.setCell ⟨g,0,none⟩ (.int .u64 x)).setCell ⟨g,1,none⟩ (.int .u64 y)) g x y:=by
 have h1:(W.setCell ⟨g,0,none⟩ (.int .u64 x)).heap[g]?=some (.cells #[.int .u64 x, .int .u64 b] 60 (0,0)):=heap_setCell_same W g 0 _ _ _ h;exact heap_setCell_same (W.setCell ⟨g,0,none⟩ (.int .u64 x)) g 1 _ _ _ h1
theorem BR.put {a b:Int} (hn:n<=g) (h:Bx2 W g a b):BR n g n0 n1 W ((W.setCell ⟨g,0,none⟩ (.int .u64 n0)).setCell ⟨g,1,none⟩ (.int .u64 n1)):=
 ⟨((Below.refl n W).setCell hn _).setCell hn _,fun k _ hk=>set2_other W g 0 1 _ _ hk,fun _=>h.put _ _,fun _=>⟨_,_,h.put _ _⟩⟩
theorem BS.step (h:BS n g W0 W) (hr:BR n g n0 n1 W W'):BS n g W0 W':=⟨h.low.trans hr.low,fun k hk hg=>(hr.oth k (Nat.lt_of_lt_of_le hk h.low.size) hg).trans (h.oth k hk hg),hr.ob h.ob⟩
theorem BS.start {a b:Int} (h:Bx2 W g a b):BS n g W W.drew:=⟨Below.drew (Below.refl _ _),fun _ _ _=>rfl,⟨_,_,h⟩⟩
theorem BS.cell (h:BS n g W0 W) {p:Addr} {v:Value} (hp:p.block≠g) (hc:W0.cell? p=some v):W.cell? p=some v:=(World.cell?_of_block (w:=W0) (h.oth p.block (cell_there hc).1 hp)).trans hc
end
open Go.RowKit Go.Maps
def UMap (w:World) (m:Nat) (es:List (Int×Value)):Prop:=
 ∃arr clock,w.heap[m]?=some (.map arr clock)/\arr.toList.map (fun e=>(e.key,e.val))=es.map (fun p=>(Value.int .u8 p.1,p.2))/\(∀ p∈es,(Lit.int .u8 p.1).wf=true)/\(es.map Prod.fst).Nodup
theorem UMap.empty (w:World) (m:Nat) (h:w.heap[m]?=some (.map #[] 0)):UMap w m []:=⟨#[],0,h,rfl,by simp,by simp⟩
theorem UMap.kept {w w':World} {m:Nat} {es:List (Int×Value)} (h:UMap w m es) (hb:w'.heap[m]?=w.heap[m]?):UMap w' m es:=by
 obtain ⟨arr,clock,h1,h2⟩:=h;exact ⟨arr,clock,hb.trans h1,h2⟩
theorem UMap.lt {w:World} {m:Nat} {es:List (Int×Value)} (h:UMap w m es):m<w.heap.size:=by
 obtain ⟨arr,clock,hb,-⟩:=h;exact (Array.getElem?_eq_some_iff.1 hb).1
theorem UMap.below {w w':World} {m:Nat} {es:List (Int×Value)} (h:UMap w m es) (hb:Below w.heap.size w w'):UMap w' m es:=h.kept (hb.block m h.lt)
section
variable {P:Program} {k T e:TypeId} {w:World} {m:Nat} {es:List (Int×Value)}
theorem UMap.keys {arr:Array MapEntry} (h:arr.toList.map (fun e=>(e.key,e.val))=es.map (fun p=>(Value.int .u8 p.1,p.2))) {x:MapEntry} (hx:x∈arr.toList):∃p∈es,x.key= .int .u8 p.1/\x.val=p.2:=by
 have:(x.key,x.val)∈arr.toList.map (fun e=>(e.key,e.val)):=List.mem_map.2 ⟨x,hx,rfl⟩;rw[h] at this;obtain ⟨p,hp,he⟩:=List.mem_map.1 this;simp only[Prod.mk.injEq] at he;exact ⟨p,hp,he.1.symm,he.2.symm⟩
theorem UMap.look (h:UMap w m es) (hk:P.underlying k=some (.int .u8)) (ht:P.underlying T=some (.map k e)) {x:Int} {v:Value} (hx:(x,v)∈es):
 (Instr.lookup T (.map (some m)) (.int .u8 x) true).run P w= .ok (.tuple #[v, .bool true]) w:=by
 obtain ⟨arr,clock,hb,h1,h2,h3⟩:=h;have K:=int_keyed hk;have hkey:=keyOf_int_mk hk (h2 _ hx);rcases K.find w hkey arr.toList (fun y hy=>by obtain ⟨p,hp,e1,-⟩:=UMap.keys h1 hy;exact ⟨_,by rw[e1];exact keyOf_int_mk hk (h2 _ hp)⟩) with ⟨f1,f2⟩|⟨j,e0,f1,f2,f3⟩
 ·exfalso;have:(Value.int .u8 x,v)∈arr.toList.map (fun e=>(e.key,e.val)):=by rw[h1];exact List.mem_map.2 ⟨_,hx,rfl⟩
  obtain ⟨y,hy,he⟩:=List.mem_map.1 this;simp only[Prod.mk.injEq] at he;exact f2 y hy he.1
 ·obtain ⟨p,hp,e1,e2⟩:=UMap.keys h1 (List.mem_of_getElem? f2);have hpx:p.1=x:=by rw[f3] at e1;simpa using e1.symm
  have hv:p.2=v:=by
   have:∀(l:List (Int×Value)),(l.map Prod.fst).Nodup->p∈l->(x,v)∈l->p.2=v:=by
    intro l;induction l with
    |nil=>intro _ hp;cases hp
    |cons q l ih=>
     intro hn hp hx;rw[List.map_cons,List.nodup_cons] at hn;rcases List.mem_cons.1 hp with rfl|hp'<;>rcases List.mem_cons.1 hx with hx'|hx'
     ·rw[<- hx']
     ·exact absurd (List.mem_map.2 ⟨_,hx',hpx.symm⟩) hn.1
     ·exact absurd (List.mem_map.2 ⟨_,hp',by rw[<- hx'];exact hpx⟩) hn.1
     ·exact ih hn.2 hp' hx'
   exact this es h3 hp hx
  simp[Instr.lookup,run_underlying ht,MapKept.run_getObj_map hb,K.check w _ hkey,f1,Result.andThen,e2,hv]
theorem UMap.miss (h:UMap w m es) (hk:P.underlying k=some (.int .u8)) (ht:P.underlying T=some (.map k e)) {z:Value} (hz:(zeroValue e).run P w= .ok z w) {x:Int} (hw:(Lit.int .u8 x).wf=true) (hx:∀p∈es,p.1≠x):
 (Instr.lookup T (.map (some m)) (.int .u8 x) true).run P w= .ok (.tuple #[z, .bool false]) w:=by
 obtain ⟨arr,clock,hb,h1,h2,h3⟩:=h;have K:=int_keyed hk;have hkey:=keyOf_int_mk hk hw;rcases K.find w hkey arr.toList (fun y hy=>by obtain ⟨p,hp,e1,-⟩:=UMap.keys h1 hy;exact ⟨_,by rw[e1];exact keyOf_int_mk hk (h2 _ hp)⟩) with ⟨f1,f2⟩|⟨j,e0,f1,f2,f3⟩
 ·simp[Instr.lookup,run_underlying ht,MapKept.run_getObj_map hb,K.check w _ hkey,f1,hz,Result.andThen]
 ·exfalso;obtain ⟨p,hp,e1,e2⟩:=UMap.keys h1 (List.mem_of_getElem? f2);rw[f3] at e1;exact hx p hp (by simpa using e1.symm)
theorem UMap.put (h:UMap w m es) (hk:P.underlying k=some (.int .u8)) (ht:P.underlying T=some (.map k e)) {x:Int} (v:Value) (hw:(Lit.int .u8 x).wf=true) (hx:∀p∈es,p.1≠x):
 ∃w',(Instr.mapUpdate T (.map (some m)) (.int .u8 x) v).run P w= .ok () w'/\UMap w' m (es++[(x,v)])/\w.grownBy w' (some m):=by
 obtain ⟨arr,clock,hb,h1,h2,h3⟩:=h;have K:=int_keyed hk;have hkey:=keyOf_int_mk hk hw;have hg:∀o:Obj,w.grownBy (ChangeMaps.setBlock w m o) (some m):=fun o=>⟨rfl,rfl,rfl,by simp[ChangeMaps.setBlock],fun i _ hi=>ChangeMaps.heap_setBlock_other hb o (fun e=>hi (by rw[e]))⟩
 rcases K.find w hkey arr.toList (fun y hy=>by obtain ⟨p,hp,e1,-⟩:=UMap.keys h1 hy;exact ⟨_,by rw[e1];exact keyOf_int_mk hk (h2 _ hp)⟩) with ⟨f1,f2⟩|⟨j,e0,f1,f2,f3⟩
 ·refine ⟨ChangeMaps.setBlock w m (.map (arr.push ⟨.int .u8 x,v,clock⟩) (clock+1)),?_,⟨_,_,ChangeMaps.heap_setBlock_same hb _,?_,?_,?_⟩,hg _⟩
  ·simp[Instr.mapUpdate,run_underlying ht,MapKept.run_getObj_map hb,K.check w false hkey,f1,MapKept.run_setObj_map _ hb,Result.andThen,ChangeMaps.setBlock]
  ·rw[Array.toList_push,List.map_append,List.map_append,h1];rfl
  ·intro p hp;rcases List.mem_append.1 hp with q|q
   ·exact h2 p q
   ·rw[List.mem_singleton.1 q];exact hw
  ·rw[List.map_append,List.nodup_append];refine ⟨h3,by simp,?_⟩;intro a ha b hb2;obtain ⟨p,hp,rfl⟩:=List.mem_map.1 ha;simp at hb2;rw[hb2];exact hx p hp
 ·exfalso;obtain ⟨p,hp,e1,e2⟩:=UMap.keys h1 (List.mem_of_getElem? f2);rw[f3] at e1;exact hx p hp (by simpa using e1.symm)
theorem wpList_put {ops:Array Oper} {rest:List Oper} {o:Oper} {a:Act} {Q:Exit->Act->World->Prop} (hg:o.guard=none) (mo x v:Operand) (hop:o.op=Op.insert T mo x v)
 (hk:P.underlying k=some (.int .u8)) (ht:P.underlying T=some (.map k e)) (hm:a.eval mo= .map (some m)) (h:UMap w m es) (key:Int) (hx:a.eval x= .int .u8 key) (val:Value) (hv:a.eval v=val) (hw:(Lit.int .u8 key).wf=true) (hn:∀p∈es,p.1≠key)
 (hK:∀w',UMap w' m (es++[(key,val)])->w.grownBy w' (some m)->wpList P ops Q rest (a.put o.dst undef) w'):wpList P ops Q (o::rest) a w:=by
 refine wpList_plain hg fun K' hK'=>?_
 obtain ⟨w',hrun,r1,r2⟩:=h.put hk ht val hw hn;unfold Oper.wp;simp[execOp,hop,hm,hx,hv,hrun,Result.andThen];exact hK' _ _ (hK w' r1 r2)
end
open Go.RowKit
theorem xor1_any (a b:Int) (w:World):
 Calls Tryz.prog 134 #[.int .u64 a, .int .u64 b] w fun e w'=>e= .returned (.int .u64 (bits BinOp.xor IntKind.u64 a b))/\w'=w:=by
 go_enter Tryz.func134,Tryz.ntmps134;go_wp2;go_ret;exact ⟨rfl,rfl⟩
theorem both_xor (a b c d:Int) (w:World):
 Calls Tryz.prog 132 #[.agg #[.int .u64 a, .int .u64 b], .agg #[.int .u64 c, .int .u64 d], .func (Fn.func 134) #[] #[]] w fun e w'=>e= .returned (.agg #[.int .u64 (bits BinOp.xor IntKind.u64 a c), .int .u64 (bits BinOp.xor IntKind.u64 b d)])/\Below w.heap.size w w':=by
 go_enter Tryz.func132,Tryz.ntmps132;go_wp2;refine wp_region_still_tail 13 (by kernel_rfl) (by kernel_rfl) ?_;simp only[List.take_succ_cons,List.take_zero,List.drop_succ_cons,List.drop_zero];change wpStill _ _ (World.drew _) _ _ _
 repeat (first|still_step|still_call (xor1_any _ _ _))
 refine wpStill_nil ?_;change wpList _ _ _ _ _ (World.drew _);go_wp2;exact bodyPost_ret (v:= .agg #[.int .u64 (bits BinOp.xor IntKind.u64 a c), .int .u64 (bits BinOp.xor IntKind.u64 b d)]) (by simp[results,Tryz.results132,go_sem]) rfl ⟨rfl,(by repeat (first|exact Below.refl _ _|assumption|refine Below.drew ?_|refine blA ?_|refine blS ?_|refine blT ?_ (by assumption)))⟩
theorem xor_any (a b c d:Int) (w:World):
 Calls Tryz.prog 111 #[.agg #[.int .u64 a, .int .u64 b], .agg #[.int .u64 c, .int .u64 d]] w fun e w'=>e= .returned (.agg #[.int .u64 (bits BinOp.xor IntKind.u64 a c), .int .u64 (bits BinOp.xor IntKind.u64 b d)])/\Below w.heap.size w w':=by
 go_enter Tryz.func111,Tryz.ntmps111;go_wp2_with (go_at_call 132;refine (both_xor _ _ _ _ _).mono ?_;rintro e w1 ⟨rfl,hb⟩;obtain ⟨hc,hf⟩:=bcell hb;have hz:=hb.size;simp at hz);exact bodyPost_ret (v:= .agg #[.int .u64 (bits BinOp.xor IntKind.u64 a c), .int .u64 (bits BinOp.xor IntKind.u64 b d)]) (by simp[results,Tryz.results111,go_sem,hc,hf,hz]) rfl ⟨rfl,(by repeat (first|exact Below.refl _ _|assumption|refine Below.drew ?_|refine blA ?_|refine blS ?_|refine blT ?_ (by assumption)))⟩
theorem numXor_any (a b:Nat) (w:World) (ha:a<B*B) (hb:b<B*B):Calls Tryz.prog 111 #[numV a,numV b] w (RetNum w (a ^^^ b)):=
 (xor_any _ _ _ _ w).mono fun e w' ⟨h1,h2⟩=>⟨by rw[h1,xor_num a b ha hb],h2⟩
theorem numNot_any (n:Nat) (k:Int) (w:World) (hn:n<B*B):Calls Tryz.prog 94 #[numV n, .int .i64 k] w (RetNum w ((n%2 ^ sh k) ^^^ (2 ^ sh k-1))):=by
 have hlt:n%2 ^ sh k<B*B:=Nat.lt_of_le_of_lt (Nat.mod_le _ _) hn;have HC:Hid (∀ W,Calls Tryz.prog 69 #[numV n, .int .i64 k] W (RetNum W (n%2 ^ sh k))):=fun W=>numCut_any n k W hn
 have HM:Hid (∀ W,Calls Tryz.prog 118 #[.int .i64 k] W (RetNum W (2 ^ sh k-1))):=fun W=>numMask_any k W
 have HX:Hid (∀ W,Calls Tryz.prog 111 #[numV (n%2 ^ sh k),numV (2 ^ sh k-1)] W (RetNum W ((n%2 ^ sh k) ^^^ (2 ^ sh k-1)))):=fun W=>numXor_any _ _ W hlt (mask_lt k)
 generalize n%2 ^ sh k=m at*;generalize 2 ^ sh k-1=q at*;generalize m ^^^ q=r at*;obtain ⟨y,z,he,-,-⟩:=numV_parts n;obtain ⟨y1,z1,he1,-,-⟩:=numV_parts m;obtain ⟨y2,z2,he2,-,-⟩:=numV_parts q;obtain ⟨y3,z3,he3,-,-⟩:=numV_parts r;have HR:=hD he3;unfold RetNum at HC HM HX;rw[he,he1] at HC;rw[he2] at HM;rw[he1,he2,he3] at HX;rw[he];clear he he1 he2 he3 hn hlt;go_enter Tryz.func94,Tryz.ntmps94;go_wp2_with (first
  |(go_at_call 69;refine (HC.out _).mono ?_;rintro e w1 ⟨rfl,hb1⟩;obtain ⟨hc1,hf1⟩:=bcell hb1;have hz1:=hb1.size;simp at hz1;have L1:w.heap.size+1<w1.heap.size:=by omega)
  |(go_at_call 118;refine (HM.out _).mono ?_;rintro e w2 ⟨rfl,hb2⟩;obtain ⟨hc2,hf2⟩:=bcell hb2;have hz2:=hb2.size;have L2:w.heap.size+1<w2.heap.size:=by omega)
  |(go_at_call 111;refine (HX.out _).mono ?_;rintro e w3 ⟨rfl,hb3⟩;obtain ⟨hc3,hf3⟩:=bcell hb3;have hz3:=hb3.size;have L3:w.heap.size+1<w3.heap.size:=by omega))
 exact bodyPost_ret (v:= .agg #[.int .u64 (y3:Int), .int .u64 (z3:Int)]) (by simp[results,Tryz.results94,go_sem,hc1,hf1,hc2,hf2,hc3,hf3,L1,L2,L3]) rfl ⟨by rw[HR.out],(by repeat (first|exact Below.refl _ _|assumption|refine Below.drew ?_|refine blA ?_|refine blS ?_|refine blT ?_ (by assumption)))⟩
theorem add64_call (x y c:Nat) (hc:c<=1) (w:World):(callFunc 131 #[.int .u64 x, .int .u64 y, .int .u64 c]).run Tryz.prog w=
 .ok (.value (.tuple #[.int .u64 (((x+y+c)%B:Nat):Int), .int .u64 (((x+y+c)/B:Nat):Int)])) w:=by
 rw[run_callFunc_extern (show Tryz.prog.funcs[131]?=some Tryz.f131 by kernel_rfl) (by kernel_rfl) (by kernel_rfl) (by kernel_rfl) (e:=add64Entry) (by kernel_rfl),run_add64 x y c (by omega) (by omega) (by omega) (by omega)];simp only[Result.andThen];unfold B;congr 5<;>omega
def sub64E:Array Value->Sem Value:=fun args=>do
 let (x,y,b) <-Extern.MathBitsCarry.three "Sub64" args
 pure (Extern.MathBitsCarry.pair ((x+Extern.MathBitsCarry.m64-y-b)%Extern.MathBitsCarry.m64) (if x<y+b then 1 else 0))
theorem run_sub64E (x y b:Nat) (hb:b<=1) (w:World):
 (sub64E #[.int .u64 x, .int .u64 y, .int .u64 b]).run Tryz.prog w=
  .ok (.tuple #[.int .u64 (((x+18446744073709551616-y-b)%18446744073709551616:Nat):Int), .int .u64 ((if x<y+b then 1 else 0:Nat):Int)]) w:=by
 have:b=0\/b=1:=by omega
 rcases this with rfl|rfl<;>rfl
theorem sub64_call (x y c:Nat) (hc:c<=1) (w:World):(callFunc 129 #[.int .u64 x, .int .u64 y, .int .u64 c]).run Tryz.prog w=
 .ok (.value (.tuple #[.int .u64 (((x+B-y-c)%B:Nat):Int), .int .u64 ((if x<y+c then 1 else 0:Nat):Int)])) w:=by
 rw[run_callFunc_extern (show Tryz.prog.funcs[129]?=some Tryz.f129 by kernel_rfl) (by kernel_rfl) (by kernel_rfl) (by kernel_rfl) (e:=sub64E) (by kernel_rfl),run_sub64E x y c hc];rfl
theorem add_parts {a b lo c hi:Nat} (ha:a<B*B) (hb:b<B*B) (hlo:lo=(a%B+b%B+0)%B) (hc:c=(a%B+b%B+0)/B) (hhi:hi=(a/B+b/B+c)%B):hi*B+lo=(a+b)%(B*B)/\lo<B/\c<=1:=by
 unfold B at*;omega
theorem sub_parts {a b lo c hi:Nat} (ha:a<B*B) (hb:b<B*B) (hlo:lo=(a%B+B-b%B-0)%B) (hc:c=if a%B<b%B+0 then 1 else 0) (hhi:hi=(a/B+B-b/B-c)%B):hi*B+lo=(a+(B*B-b))%(B*B)/\lo<B/\c<=1:=by
 unfold B at*;split at hc<;>omega
open Go.RowKit
theorem numAdd_any (a b:Nat) (k:Int) (w:World) (ha:a<B*B) (hb:b<B*B):Calls Tryz.prog 106 #[numV a,numV b, .int .i64 k] w (RetNum w ((a+b)%(B*B)%2 ^ sh k)):=by
 have hlt:(a+b)%(B*B)<B*B:=Nat.mod_lt _ (by unfold B;omega);have HC:Hid (∀ W,Calls Tryz.prog 69 #[numV ((a+b)%(B*B)), .int .i64 k] W (RetNum W ((a+b)%(B*B)%2 ^ sh k))):=fun W=>numCut_any _ k W hlt
 obtain ⟨lo,hlo⟩:∃lo,lo=(a%B+b%B+0)%B:=⟨_,rfl⟩;obtain ⟨c,hc⟩:∃c,c=(a%B+b%B+0)/B:=⟨_,rfl⟩;obtain ⟨hi,hhi⟩:∃hi,hi=(a/B+b/B+c)%B:=⟨_,rfl⟩;obtain ⟨c2,hc2⟩:∃c2,c2=(a/B+b/B+c)/B:=⟨_,rfl⟩;obtain ⟨e1,e2,e3⟩:=add_parts ha hb hlo hc hhi;have h1:∀W,(callFunc 131 #[.int .u64 (a%B:Nat), .int .u64 (b%B:Nat), .int .u64 0]).run Tryz.prog W= .ok (.value (.tuple #[.int .u64 (lo:Int), .int .u64 (c:Int)])) W:=fun W=>by
  rw[hlo,hc];exact add64_call _ _ 0 (by omega) W
 have h2:∀W,(callFunc 131 #[.int .u64 (a/B:Nat), .int .u64 (b/B:Nat), .int .u64 (c:Nat)]).run Tryz.prog W= .ok (.value (.tuple #[.int .u64 (hi:Int), .int .u64 (c2:Int)])) W:=fun W=>by
  rw[hhi,hc2];exact add64_call _ _ c e3 W
 have hv:=numV_mk hi lo e2;rw[e1] at hv;generalize (a+b)%(B*B)%2 ^ sh k=r at*;generalize (a+b)%(B*B)=m at*;obtain ⟨y3,z3,he3,-,-⟩:=numV_parts r;have HR:=hD he3;unfold RetNum at HC;rw[<- hv,he3] at HC;obtain ⟨ah,al,hea,qa,qb⟩:=numV_parts a;obtain ⟨bh,bl,heb,qc,qd⟩:=numV_parts b;rw[<- qb, <-qd] at h1;rw[<- qa, <-qc] at h2;rw[hea,heb];clear hlt hlo hc hhi hc2 e1 e2 e3 hv he3 hea heb qa qb qc qd ha hb;go_enter Tryz.func106,Tryz.ntmps106;go_wp2_with (first
  |simp only[h1]
  |simp only[h2]
  |(go_at_call 69;refine (HC.out _).mono ?_;rintro e w1 ⟨rfl,hb1⟩;obtain ⟨hc1,hf1⟩:=bcell hb1;have hz1:=hb1.size;simp at hz1;have L1:w.heap.size+1<w1.heap.size:=by omega))
 exact bodyPost_ret (v:= .agg #[.int .u64 (y3:Int), .int .u64 (z3:Int)]) (by simp[results,Tryz.results106,go_sem,hc1,hf1,L1]) rfl ⟨by rw[HR.out],(by repeat (first|exact Below.refl _ _|assumption|refine Below.drew ?_|refine blA ?_|refine blS ?_|refine blT ?_ (by assumption)))⟩
theorem numSub_any (a b:Nat) (k:Int) (w:World) (ha:a<B*B) (hb:b<B*B):Calls Tryz.prog 96 #[numV a,numV b, .int .i64 k] w (RetNum w ((a+(B*B-b))%(B*B)%2 ^ sh k)):=by
 have hlt:(a+(B*B-b))%(B*B)<B*B:=Nat.mod_lt _ (by unfold B;omega);have HC:Hid (∀ W,Calls Tryz.prog 69 #[numV ((a+(B*B-b))%(B*B)), .int .i64 k] W (RetNum W ((a+(B*B-b))%(B*B)%2 ^ sh k))):=fun W=>numCut_any _ k W hlt
 obtain ⟨lo,hlo⟩:∃lo,lo=(a%B+B-b%B-0)%B:=⟨_,rfl⟩;obtain ⟨c,hc⟩:∃c,c=if a%B<b%B+0 then 1 else 0:=⟨_,rfl⟩
 obtain ⟨hi,hhi⟩:∃hi,hi=(a/B+B-b/B-c)%B:=⟨_,rfl⟩;obtain ⟨c2,hc2⟩:∃c2,c2=if a/B<b/B+c then 1 else 0:=⟨_,rfl⟩
 obtain ⟨e1,e2,e3⟩:=sub_parts ha hb hlo hc hhi;have h1:∀W,(callFunc 129 #[.int .u64 (a%B:Nat), .int .u64 (b%B:Nat), .int .u64 0]).run Tryz.prog W= .ok (.value (.tuple #[.int .u64 (lo:Int), .int .u64 (c:Int)])) W:=fun W=>by
  rw[hlo,hc];exact sub64_call _ _ 0 (by omega) W
 have h2:∀W,(callFunc 129 #[.int .u64 (a/B:Nat), .int .u64 (b/B:Nat), .int .u64 (c:Nat)]).run Tryz.prog W= .ok (.value (.tuple #[.int .u64 (hi:Int), .int .u64 (c2:Int)])) W:=fun W=>by
  rw[hhi,hc2];exact sub64_call _ _ c e3 W
 have hv:=numV_mk hi lo e2;rw[e1] at hv;generalize (a+(B*B-b))%(B*B)%2 ^ sh k=r at*;generalize (a+(B*B-b))%(B*B)=m at*;obtain ⟨y3,z3,he3,-,-⟩:=numV_parts r;have HR:=hD he3;unfold RetNum at HC;rw[<- hv,he3] at HC;obtain ⟨ah,al,hea,qa,qb⟩:=numV_parts a;obtain ⟨bh,bl,heb,qc,qd⟩:=numV_parts b;rw[<- qb, <-qd] at h1;rw[<- qa, <-qc] at h2;rw[hea,heb];clear hlt hlo hc hhi hc2 e1 e2 e3 hv he3 hea heb qa qb qc qd ha hb;go_enter Tryz.func96,Tryz.ntmps96;go_wp2_with (first
  |simp only[h1]
  |simp only[h2]
  |(go_at_call 69;refine (HC.out _).mono ?_;rintro e w1 ⟨rfl,hb1⟩;obtain ⟨hc1,hf1⟩:=bcell hb1;have hz1:=hb1.size;simp at hz1;have L1:w.heap.size+1<w1.heap.size:=by omega))
 exact bodyPost_ret (v:= .agg #[.int .u64 (y3:Int), .int .u64 (z3:Int)]) (by simp[results,Tryz.results96,go_sem,hc1,hf1,L1]) rfl ⟨by rw[HR.out],(by repeat (first|exact Below.refl _ _|assumption|refine Below.drew ?_|refine blA ?_|refine blS ?_|refine blT ?_ (by assumption)))⟩
theorem numSlice_any (n:Nat) (hi lo:Int) (w:World) (hn:n<B*B) (h0:0<=lo) (h1:lo<=hi) (h2:hi<128):Calls Tryz.prog 98 #[numV n, .int .i64 hi, .int .i64 lo] w (RetNum w (n/2 ^ sh lo%2 ^ sh (hi-lo+1))):=by
 have hlt:n/2 ^ sh lo<B*B:=Nat.lt_of_le_of_lt (Nat.div_le_self _ _) hn;have HS:Hid (∀ W,Calls Tryz.prog 102 #[numV n, .int .i64 lo] W (RetNum W (n/2 ^ sh lo))):=fun W=>numShr_any n lo W hn
 have HC:Hid (∀ W,Calls Tryz.prog 69 #[numV (n/2 ^ sh lo), .int .i64 (hi-lo+1)] W (RetNum W (n/2 ^ sh lo%2 ^ sh (hi-lo+1)))):=fun W=>numCut_any _ _ W hlt
 generalize n/2 ^ sh lo%2 ^ sh (hi-lo+1)=r at*;generalize n/2 ^ sh lo=m at*;obtain ⟨y,z,he,-,-⟩:=numV_parts n;obtain ⟨y1,z1,he1,-,-⟩:=numV_parts m;obtain ⟨y3,z3,he3,-,-⟩:=numV_parts r;have HR:=hD he3;unfold RetNum at HC HS;rw[he,he1] at HS;rw[he1,he3] at HC;rw[he];clear he he1 he3 hn hlt;go_enter Tryz.func98,Tryz.ntmps98;go_wp2_with (first
  |(go_at_call 102;refine (HS.out _).mono ?_;rintro e w1 ⟨rfl,hb1⟩;obtain ⟨hc1,hf1⟩:=bcell hb1;have hz1:=hb1.size;simp at hz1;have L1:w.heap.size+1<w1.heap.size:=by omega)
  |(go_at_call 69;refine (HC.out _).mono ?_;rintro e w2 ⟨rfl,hb2⟩;obtain ⟨hc2,hf2⟩:=bcell hb2;have hz2:=hb2.size;have L2:w.heap.size+1<w2.heap.size:=by omega))
 all_goals exact bodyPost_ret (v:= .agg #[.int .u64 (y3:Int), .int .u64 (z3:Int)]) (by simp[results,Tryz.results98,go_sem,hc1,hf1,hc2,hf2,L1,L2]) rfl ⟨by rw[HR.out],(by repeat (first|exact Below.refl _ _|assumption|refine Below.drew ?_|refine blA ?_|refine blS ?_|refine blT ?_ (by assumption)))⟩
open Go.RowKit
theorem numCat_any (a b:Nat) (k:Int) (w:World) (ha:a<B*B) (hb:b<B*B):Calls Tryz.prog 104 #[numV a,numV b, .int .i64 k] w (RetNum w ((a*2 ^ sh k%(B*B)%2 ^ sh 128) ||| (b%2 ^ sh k))):=by
 have hl1:a*2 ^ sh k%(B*B)%2 ^ sh 128<B*B:=Nat.lt_of_le_of_lt (Nat.mod_le _ _) (Nat.mod_lt _ (by unfold B;omega));have hl2:b%2 ^ sh k<B*B:=Nat.lt_of_le_of_lt (Nat.mod_le _ _) hb;have HS:Hid (∀ W,Calls Tryz.prog 100 #[numV a, .int .i64 k, .int .i64 128] W (RetNum W (a*2 ^ sh k%(B*B)%2 ^ sh 128))):=fun W=>numShl_any a k 128 W ha
 have HC:Hid (∀ W,Calls Tryz.prog 69 #[numV b, .int .i64 k] W (RetNum W (b%2 ^ sh k))):=fun W=>numCut_any _ _ W hb
 have HO:Hid (∀ W,Calls Tryz.prog 113 #[numV (a*2 ^ sh k%(B*B)%2 ^ sh 128),numV (b%2 ^ sh k)] W (RetNum W ((a*2 ^ sh k%(B*B)%2 ^ sh 128) ||| (b%2 ^ sh k)))):=fun W=>numOr_any _ _ W hl1 hl2
 generalize a*2 ^ sh k%(B*B)%2 ^ sh 128=m at*;generalize b%2 ^ sh k=q at*;generalize m ||| q=r at*
 obtain ⟨y,z,he,-,-⟩:=numV_parts a;obtain ⟨y0,z0,he0,-,-⟩:=numV_parts b;obtain ⟨y1,z1,he1,-,-⟩:=numV_parts m;obtain ⟨y2,z2,he2,-,-⟩:=numV_parts q;obtain ⟨y3,z3,he3,-,-⟩:=numV_parts r;have HR:=hD he3;unfold RetNum at HC HS HO;rw[he,he1] at HS;rw[he0,he2] at HC;rw[he1,he2,he3] at HO;rw[he,he0];clear he he0 he1 he2 he3 ha hb hl1 hl2;go_enter Tryz.func104,Tryz.ntmps104;go_wp2_with fail;obtain ⟨W0,hW0⟩:∃W0,W0=((w.alloc (.cells #[.int .u64 (y:Int), .int .u64 (z:Int)] 60)).alloc (.cells #[.int .u64 (y0:Int), .int .u64 (z0:Int)] 60)).alloc (.cells #[.int .u64 0, .int .u64 0] 60):=⟨_,rfl⟩;have HS0:Hid ((fun Wk=>Below (w.heap.size) (w) Wk/\Wk.cell? ⟨w.heap.size,0,none⟩=some (.int .u64 (y:Int))/\Wk.cell? ⟨w.heap.size,1,none⟩=some (.int .u64 (z:Int))/\Wk.cell? ⟨w.heap.size+1,0,none⟩=some (.int .u64 (y0:Int))/\Wk.cell? ⟨w.heap.size+1,1,none⟩=some (.int .u64 (z0:Int))/\(∃ x,Wk.cell? ⟨w.heap.size+1+1,0,none⟩=some x)/\(∃ x,Wk.cell? ⟨w.heap.size+1+1,1,none⟩=some x)/\Wk.frozen? ⟨w.heap.size+1+1,0,none⟩=false/\Wk.frozen? ⟨w.heap.size+1+1,1,none⟩=false) W0.drew):=by
  show _/\_;rw[hW0];exact ⟨below_drewN (by repeat (first|exact Below.refl _ _|assumption|refine Below.drew ?_|refine blA ?_|refine blS ?_|refine blT ?_ (by assumption))) 1,by simp[go_sem],by simp[go_sem],by simp[go_sem],by simp[go_sem],⟨.int .u64 0,by simp[go_sem]⟩,⟨.int .u64 0,by simp[go_sem]⟩,by simp[go_sem],by simp[go_sem]⟩
 rw[<- hW0];clear hW0;have hs0:=HS0.out;obtain ⟨-,c0,c1,c2,c3,⟨x4,c4⟩,⟨x5,c5⟩,f4,f5⟩:=hs0;rw[World.cell?_drew] at c0 c1 c2 c3 c4 c5;rw[World.frozen?_drew] at f4 f5;go_region_held3 (fun Wk=>Below (w.heap.size) (w) Wk/\Wk.cell? ⟨w.heap.size,0,none⟩=some (.int .u64 (y:Int))/\Wk.cell? ⟨w.heap.size,1,none⟩=some (.int .u64 (z:Int))/\Wk.cell? ⟨w.heap.size+1,0,none⟩=some (.int .u64 (y0:Int))/\Wk.cell? ⟨w.heap.size+1,1,none⟩=some (.int .u64 (z0:Int))/\(∃ x,Wk.cell? ⟨w.heap.size+1+1,0,none⟩=some x)/\(∃ x,Wk.cell? ⟨w.heap.size+1+1,1,none⟩=some x)/\Wk.frozen? ⟨w.heap.size+1+1,0,none⟩=false/\Wk.frozen? ⟨w.heap.size+1+1,1,none⟩=false)
  (first|exact HS0.out|exact held_4_2 hb1 (by assumption)|exact heldset_4_2 _ _ (by omega) (by simp<;>omega) (by assumption))
  (first
  |(go_at_call 100;refine (HS.out _).mono ?_;rintro e w1 ⟨rfl,hb1⟩)
  |(go_at_call 69;refine (HC.out _).mono ?_;rintro e w1 ⟨rfl,hb1⟩)
  |(go_at_call 113;refine (HO.out _).mono ?_;rintro e w1 ⟨rfl,hb1⟩;obtain ⟨-,-,-,-,-,⟨x6,g4⟩,⟨x7,g5⟩,g6,g7⟩:=held_4_2 hb1 (by assumption)))
 rename_i hS;have HBF:=hD hS.1;clear hS;have y5:(w1.setCell ⟨w.heap.size+1+1,0,none⟩ (.int .u64 (y3:Int))).cell? ⟨w.heap.size+1+1,1,none⟩=some x7:=by rw[World.cell?_setCell_other _ _ _ _ (by simp)];exact g5
 have y0':((w1.setCell ⟨w.heap.size+1+1,0,none⟩ (.int .u64 (y3:Int))).setCell ⟨w.heap.size+1+1,1,none⟩ (.int .u64 (z3:Int))).cell? ⟨w.heap.size+1+1,0,none⟩=some (.int .u64 (y3:Int)):=by
  rw[World.cell?_setCell_other _ _ _ _ (by simp)];exact World.cell?_setCell_same _ _ _ g4
 have y1':((w1.setCell ⟨w.heap.size+1+1,0,none⟩ (.int .u64 (y3:Int))).setCell ⟨w.heap.size+1+1,1,none⟩ (.int .u64 (z3:Int))).cell? ⟨w.heap.size+1+1,1,none⟩=some (.int .u64 (z3:Int)):=World.cell?_setCell_same _ _ _ y5;clear y5 g4 g5 g6 g7 c0 c1 c2 c3 c4 c5 f4 f5;generalize (w1.setCell ⟨w.heap.size+1+1,0,none⟩ (.int .u64 (y3:Int))).setCell ⟨w.heap.size+1+1,1,none⟩ (.int .u64 (z3:Int))=WF at*;go_wp2_with fail;exact bodyPost_ret (v:= .agg #[.int .u64 (y3:Int), .int .u64 (z3:Int)]) (by simp[results,Tryz.results104,go_sem,y0',y1']) rfl ⟨by rw[HR.out],HBF.out⟩
theorem isNaN_any (x:Int) (w:World):Calls Tryz.prog 140 #[.int .u64 x] w fun e w'=>e= .returned (.bool false)/\w'=w:=by
 go_enter Tryz.func140,Tryz.ntmps140;go_wp2;go_ret;exact ⟨rfl,rfl⟩
def cmpI (a b:Nat):Int:=if a<b then -1 else if b<a then 1 else 0
theorem compare_any (x y:Nat) (w:World):Calls Tryz.prog 137 #[.int .u64 (x:Int), .int .u64 (y:Int)] w fun e w'=>e= .returned (.int .i64 (cmpI x y))/\w'=w:=by
 have h1:x<y->Hid (cmpI x y= -1):=fun h=>by show _=_;unfold cmpI;rw[if_pos h]
 have h2:y<x->Hid (cmpI x y=1):=fun h=>by show _=_;unfold cmpI;rw[if_neg (by omega),if_pos h]
 have h3:x=y->Hid (cmpI x y=0):=fun h=>by show _=_;unfold cmpI;rw[if_neg (by omega),if_neg (by omega)]
 have H:=hD (And.intro h1 (And.intro h2 h3));clear h1 h2 h3;go_enter Tryz.func137,Tryz.ntmps137;go_wp2_with (go_at_call 140;refine (isNaN_any _ _).mono ?_;rintro e w1 ⟨rfl,rfl⟩)
 all_goals go_ret
 ·exact ⟨by rw[(H.out.1 (by omega)).out];rfl,rfl⟩
 ·exact ⟨by rw[(H.out.2.1 (by omega)).out];rfl,rfl⟩
 ·exact ⟨by rw[(H.out.2.2 (by omega)).out];rfl,rfl⟩
theorem or2_any (g t:Nat) (a b:Int) (w:World) (h0:w.heap[g]?=some (.cells #[.int .i64 a, .int .i64 b] t (0,0))):Calls Tryz.prog 136 #[.slice (some ⟨g,0,none⟩) 2 2] w fun e w'=>e= .returned (.int .i64 (if a≠0 then a else b))/\w'=w:=by
 have c0:w.cell? ⟨g,0,none⟩=some (.int .i64 a):=by simp[World.cell?,h0]
 have c1:w.cell? ⟨g,1,none⟩=some (.int .i64 b):=by simp[World.cell?,h0]
 clear h0;have V1:a≠0->Hid ((if a≠0 then a else b)=a):=fun h=>if_pos h
 have V2:a=0->Hid ((if a≠0 then a else b)=b):=fun h=>if_neg (by simp[h])
 have HV:=hD (And.intro V1 V2);clear V1 V2;generalize (if a≠0 then a else b)=r at*;go_enter Tryz.func136,Tryz.ntmps136;go_wp2;go_loop [8] (fun i=>∃k:Nat,k<=2/\i= .int .i64 k/\(0<k->a=0)/\(1<k->b=0)) (fun i=>2-(intOf i).toNat)
 case atStart=>exact ⟨0,by omega,rfl,by omega,by omega⟩
 case round=>
  obtain ⟨k,hk,rfl,hz0,hz1⟩:=hrel;have hcase:k=0\/k=1\/k=2:=by omega
  rcases hcase with rfl|rfl|rfl
  ·by_cases ha:a=0
   ·subst ha;go_wp2;go_round
    case rel=>exact ⟨1,by omega,rfl,by simp,by omega⟩
    case measure=>simp[intOf]
   ·have hd:decide (a=0)=false:=decide_eq_false ha;have hd2:(a !=0)=true:=by simpa using ha
    go_wp2;go_ret;exact ⟨by rw[(HV.out.1 ha).out];rfl,rfl⟩
  ·have ha:=hz0 (by omega);by_cases hb:b=0
   ·subst hb;go_wp2;go_round
    case rel=>exact ⟨2,by omega,rfl,fun _=>ha,by simp⟩
    case measure=>simp[intOf]
   ·have hd:decide (b=0)=false:=decide_eq_false hb;have hd2:(b !=0)=true:=by simpa using hb
    go_wp2;go_ret;exact ⟨by rw[(HV.out.2 ha).out];rfl,rfl⟩
  ·have ha:=hz0 (by omega);have hb:=hz1 (by omega);go_wp2;go_ret;exact ⟨by rw[(HV.out.2 ha).out,hb];rfl,rfl⟩
theorem cmp_parts {a b:Nat} (ha:a<B*B) (hb:b<B*B):(if cmpI (a/B) (b/B)≠0 then cmpI (a/B) (b/B) else cmpI (a%B) (b%B))=cmpI a b:=by
 unfold cmpI B at*
 repeat split
 all_goals first|rfl|omega|simp_all
theorem numCmp_any (a b:Nat) (w:World) (ha:a<B*B) (hb:b<B*B):Calls Tryz.prog 116 #[numV a,numV b] w fun e w'=>e= .returned (.int .i64 (cmpI a b))/\Below w.heap.size w w':=by
 have hv:=cmp_parts ha hb;have H1:∀W,Calls Tryz.prog 137 #[.int .u64 (a/B:Nat), .int .u64 (b/B:Nat)] W fun e w'=>e= .returned (.int .i64 (cmpI (a/B) (b/B)))/\w'=W:=fun W=>compare_any _ _ W
 have H2:∀W,Calls Tryz.prog 137 #[.int .u64 (a%B:Nat), .int .u64 (b%B:Nat)] W fun e w'=>e= .returned (.int .i64 (cmpI (a%B) (b%B)))/\w'=W:=fun W=>compare_any _ _ W
 have H3:∀(g:Nat) W,W.heap[g]?=some (.cells #[.int .i64 (cmpI (a/B) (b/B)), .int .i64 (cmpI (a%B) (b%B))] 3 (0,0))->Calls Tryz.prog 136 #[.slice (some ⟨g,0,none⟩) 2 2] W fun e w'=>e= .returned (.int .i64 (cmpI a b))/\w'=W:=fun g W h=>by rw[<- hv];exact or2_any g _ _ _ W h
 obtain ⟨ah,al,hea,qa,qb⟩:=numV_parts a;obtain ⟨bh,bl,heb,qc,qd⟩:=numV_parts b;rw[<- qa, <-qc] at H1 H3;rw[<- qb, <-qd] at H2 H3;rw[hea,heb];generalize cmpI ah bh=x at*;generalize cmpI al bl=y at*;generalize cmpI a b=z at*;have HH1:=hD H1;have HH2:=hD H2;have HH3:=hD H3;clear hv H1 H2 H3 qa qb qc qd hea heb ha hb;go_enter Tryz.func116,Tryz.ntmps116;go_wp2_with fail;obtain ⟨W0,hW0⟩:∃W0,W0=(w.alloc (.cells #[.int .u64 (ah:Int), .int .u64 (al:Int)] 60)).alloc (.cells #[.int .u64 (bh:Int), .int .u64 (bl:Int)] 60):=⟨_,rfl⟩;have HS0:Hid ((fun Wk=>Below (w.heap.size) (w) Wk/\Wk.cell? ⟨w.heap.size,0,none⟩=some (.int .u64 (ah:Int))/\Wk.cell? ⟨w.heap.size,1,none⟩=some (.int .u64 (al:Int))/\Wk.cell? ⟨w.heap.size+1,0,none⟩=some (.int .u64 (bh:Int))/\Wk.cell? ⟨w.heap.size+1,1,none⟩=some (.int .u64 (bl:Int))) W0.drew):=by
  show _/\_;rw[hW0];exact ⟨below_drewN (by repeat (first|exact Below.refl _ _|assumption|refine Below.drew ?_|refine blA ?_|refine blS ?_|refine blT ?_ (by assumption))) 1,by simp[go_sem],by simp[go_sem],by simp[go_sem],by simp[go_sem]⟩
 rw[<- hW0];clear hW0;have hs0:=HS0.out;obtain ⟨-,c0,c1,c2,c3⟩:=hs0;rw[World.cell?_drew] at c0 c1 c2 c3;have hal:∀(W:World) (o:Obj),Below W.heap.size W (W.alloc o):=fun W o=>(Below.refl _ _).alloc (Nat.le_refl _) _
 have HAL:=hD hal;clear hal;go_region_held3 (fun Wk=>Below (w.heap.size) (w) Wk/\Wk.cell? ⟨w.heap.size,0,none⟩=some (.int .u64 (ah:Int))/\Wk.cell? ⟨w.heap.size,1,none⟩=some (.int .u64 (al:Int))/\Wk.cell? ⟨w.heap.size+1,0,none⟩=some (.int .u64 (bh:Int))/\Wk.cell? ⟨w.heap.size+1,1,none⟩=some (.int .u64 (bl:Int)))
  (first|exact HS0.out|assumption|exact held_4_0 (HAL.out _ _) (by assumption))
  (first
  |(go_at_call 137;(with_reducible refine (HH1.out _).mono ?_);rintro e w1 ⟨rfl,rfl⟩)
  |(go_at_call 137;(with_reducible refine (HH2.out _).mono ?_);rintro e w1 ⟨rfl,rfl⟩)
  |(go_at_call 136;refine (HH3.out W0.heap.size _ ?_).mono ?_;exact heap_new W0 _;rintro e w2 ⟨rfl,rfl⟩))
 rename_i hS;have HBF:=hD hS.1;clear hS c0 c1 c2 c3;go_wp2_with fail;go_ret;exact ⟨rfl,HBF.out⟩
open Go.RowKit Go.Maps
theorem run_mkFunc (P:Program) (fn:Fn) (first cap:Array Value) (w:World):(Instr.makeFunc fn first cap).run P w= .ok (.func fn first cap) w:=rfl
def fnV (f g:Nat):Value:= .func (Fn.func f) #[] #[.pointer (some ⟨g,0,none⟩)]
def fn0 (f:Nat):Value:= .func (Fn.func f) #[] #[]
def aloneM (g:Nat):List (Int×Value):=[(7,fnV 93 g),(8,fnV 95 g),(9,fnV 97 g),(13,fnV 99 g),(14,fnV 101 g)]
def bothM (g:Nat):List (Int×Value):=[(10,fn0 103),(11,fnV 105 g),(12,fnV 107 g),(15,fn0 108),(16,fn0 110),(17,fn0 112),(18,fn0 114),(19,fn0 115),(20,fn0 117)]
theorem alone_any (c0 c1 c2 c3 c4 c5:Int) (w:World):
 Calls Tryz.prog 67 #[.agg #[.int .u8 c0, .int .i64 c1, .int .i64 c2, .int .i64 c3, .int .u64 c4, .int .u64 c5]] w fun e w'=>∃m,e= .returned (.map (some m))/\UMap w' m (aloneM w.heap.size)/\w'.heap[w.heap.size]?=some (.cells #[.int .u8 c0, .int .i64 c1, .int .i64 c2, .int .i64 c3, .int .u64 c4, .int .u64 c5] 65 (0,0))/\Below w.heap.size w w':=by
 have hmm:=@run_makeMap Tryz.prog;have hmf:=run_mkFunc Tryz.prog;have HM:∀W,UMap (World.alloc W (.map #[] 0)) W.heap.size []:=fun W=>UMap.empty _ _ (heap_new W _)
 have h0:=HM (w.alloc (.cells #[.int .u8 c0, .int .i64 c1, .int .i64 c2, .int .i64 c3, .int .u64 c4, .int .u64 c5] 65));rw[World.size_alloc] at h0;have HB:Hid (Below (w.heap.size+1) (w.alloc (.cells #[.int .u8 c0, .int .i64 c1, .int .i64 c2, .int .i64 c3, .int .u64 c4, .int .u64 c5] 65)) ((w.alloc (.cells #[.int .u8 c0, .int .i64 c1, .int .i64 c2, .int .i64 c3, .int .u64 c4, .int .u64 c5] 65)).alloc (.map #[] 0))):=(Below.refl _ _).alloc (by simp) _;have hB:=HB.out;clear HM;go_enter Tryz.func67,Tryz.ntmps67;go_wp2_with (refine wpList_put (k:=5) (e:=134) (by rfl) _ _ _ (by rfl) Tryz.underlying5 Tryz.underlying136 (by rfl) h0 _ (by rfl) _ (by rfl) (by decide) (by simp) ?_;clear h0;intro w1 h0 hg1;replace hB:=hB.grown hg1 (Nat.le_trans (by simp) hB.size) (fun k e=>by cases e;simp);clear hg1);go_ret;exact ⟨_,rfl,h0,by rw[hB.block _ (by omega)];exact heap_new w _,Below.trans ((Below.refl _ _).alloc (Nat.le_refl _) _) (hB.mono (by omega))⟩
theorem both_any (c0 c1 c2 c3 c4 c5:Int) (w:World):
 Calls Tryz.prog 68 #[.agg #[.int .u8 c0, .int .i64 c1, .int .i64 c2, .int .i64 c3, .int .u64 c4, .int .u64 c5]] w fun e w'=>∃m,e= .returned (.map (some m))/\UMap w' m (bothM w.heap.size)/\w'.heap[w.heap.size]?=some (.cells #[.int .u8 c0, .int .i64 c1, .int .i64 c2, .int .i64 c3, .int .u64 c4, .int .u64 c5] 65 (0,0))/\Below w.heap.size w w':=by
 have hmm:=@run_makeMap Tryz.prog;have hmf:=run_mkFunc Tryz.prog;have HM:∀W,UMap (World.alloc W (.map #[] 0)) W.heap.size []:=fun W=>UMap.empty _ _ (heap_new W _)
 have h0:=HM (w.alloc (.cells #[.int .u8 c0, .int .i64 c1, .int .i64 c2, .int .i64 c3, .int .u64 c4, .int .u64 c5] 65));rw[World.size_alloc] at h0;have HB:Hid (Below (w.heap.size+1) (w.alloc (.cells #[.int .u8 c0, .int .i64 c1, .int .i64 c2, .int .i64 c3, .int .u64 c4, .int .u64 c5] 65)) ((w.alloc (.cells #[.int .u8 c0, .int .i64 c1, .int .i64 c2, .int .i64 c3, .int .u64 c4, .int .u64 c5] 65)).alloc (.map #[] 0))):=(Below.refl _ _).alloc (by simp) _;have hB:=HB.out;clear HM;go_enter Tryz.func68,Tryz.ntmps68;go_wp2_with (refine wpList_put (k:=5) (e:=138) (by rfl) _ _ _ (by rfl) Tryz.underlying5 Tryz.underlying140 (by rfl) h0 _ (by rfl) _ (by rfl) (by decide) (by simp) ?_;clear h0;intro w1 h0 hg1;replace hB:=hB.grown hg1 (Nat.le_trans (by simp) hB.size) (fun k e=>by cases e;simp);clear hg1);go_ret;exact ⟨_,rfl,h0,by rw[hB.block _ (by omega)];exact heap_new w _,Below.trans ((Below.refl _ _).alloc (Nat.le_refl _) _) (hB.mono (by omega))⟩
end Go.Proofs.YtjfhfaodbjecdaaGreat
