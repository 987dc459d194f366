/-
  Lemmas, joined: Known21R, Known21B, UConv, LawF.
-/
import Derived.Test.YtjfhfaodbjecdaaGreatJC37
import Derived.Test.YtjfhfaodbjecdaaGreatJC29
import Derived.Test.YtjfhfaodbjecdaaGreatJC01
import Derived.Laws.BytesArg
import Derived.Test.YtjfhfaodbjecdaaGreatJC26
import Derived.Test.YtjfhfaodbjecdaaGreatJC25
set_option maxHeartbeats 12800000
set_option maxRecDepth 100000
namespace Go.Proofs.YtjfhfaodbjecdaaGreat
open Go.RowKit Go.Maps
def TSl (n:Nat) (cs:Array Value) (t:TypeId):Tw:=fun B W _ v=>∃g,v= .slice (some ⟨g,0,none⟩) n n/\B g/\W.heap[g]?=some (.cells cs t (0,0))
theorem TSl.stab {n:Nat} {cs:Array Value} {t:TypeId} {B D:Nat->Prop} {w w':World} {ls:List Value} {v:Value} (h:TSl n cs t B w ls v) (hk:∀k,B k\/D k->w'.heap[k]?=w.heap[k]?):TSl n cs t B w' ls v:=by
 obtain ⟨g,rfl,h1,h2⟩:=h;exact ⟨g,rfl,h1,(hk _ (.inl h1)).trans h2⟩
def TTwo (t:TypeId):Tw:=fun B W _ v=>∃g,v= .pointer (some ⟨g,0,none⟩)/\B g/\∃x y,W.heap[g]?=some (.cells #[x,y] t (0,0))
theorem TTwo.stab {t:TypeId} {B D:Nat->Prop} {w w':World} {ls:List Value} {v:Value} (h:TTwo t B w ls v) (hk:∀k,B k\/D k->w'.heap[k]?=w.heap[k]?):TTwo t B w' ls v:=by
 obtain ⟨g,rfl,h1,x,y,h2⟩:=h;exact ⟨g,rfl,h1,x,y,(hk _ (.inl h1)).trans h2⟩
def TAnyW:Tw:=fun _ _ _ _=>True
theorem RWg.boxTwo {S:Rw} {L:Array Bool} {l:List Value} {w:World} {B:Nat->Nat->Prop} {t g:Nat} {ty:TypeId} {js:List Nat} (h:RWg S L l w B) (hd:did L t=true) (hk:S.kd[t]?=some (js,TTwo ty)) (e:nth l t= .pointer (some ⟨g,0,none⟩)):∀j,did L j=true->j≠t->¬B j g:=fun j hj hne hb=>by
 obtain ⟨-,g',e',h1,-⟩:=h.ok t _ _ hd hk;rw[e] at e';have eg:g=g':=by simpa using e'
 subst eg;exact hne (h.apart j t g hj hd hb h1)
def LaidTwo (s t n0:Nat) (x y:Value) (ty:TypeId) (L:Array Bool) (l:List Value) (w:World):Prop:=did L s=true->did L t=true/\∃g,nth l t= .pointer (some ⟨g,0,none⟩)/\n0<=g/\w.heap[g]?=some (.cells #[x,y] ty (0,0))
theorem LaidTwo.start {s t n0 n:Nat} {x y:Value} {ty:TypeId} {l:List Value} {w:World}:LaidTwo s t n0 x y ty (Array.replicate n false) l w:=fun hd=>by rw[did_none] at hd;cases hd
theorem LaidTwo.quiet {s t n0 i:Nat} {x y v:Value} {ty:TypeId} {L:Array Bool} {l:List Value} {w w':World} (h:LaidTwo s t n0 x y ty L l w) (hn:did L i=false) (hs:i≠s) (hb:Below w.heap.size w w'):LaidTwo s t n0 x y ty (L.setIfInBounds i true) (l.set i v) w':=fun hd=>by
 rw[did_other (fun e=>hs e.symm)] at hd;obtain ⟨h1,g,e1,h2,h3⟩:=h hd;have it:i≠t:=fun e=>by rw[e,h1] at hn;cases hn
 exact ⟨by rw[did_other (fun e=>it e.symm)];exact h1,g,by rw[nth_other it];exact e1,h2,(hb.block _ (lt_of_block h3)).trans h3⟩
def kR (gx g2 kc a b r:Nat) (w0:World):Rw where
 n0:=w0.heap.size
 dep:=fun _=>False
 kd:=[isVw (.agg #[.slice none 0 0, .slice none 0 0, .slice none 0 0, .slice none 0 0, .slice none 0 0, .slice none 0 0, .slice none 0 0, .slice none 0 0, .slice none 0 0, .slice none 0 0, .slice none 0 0, .slice none 0 0]),isVw (.pointer (some ⟨gx,0,none⟩)),isVw (.func (Fn.func kc) #[] #[]),isVw (.agg #[.int .u8 1, .int .i64 4, .int .i64 0, .int .i64 0, .int .u64 0, .int .u64 a]),isVw (.func (Fn.func kc) #[] #[]),isVw (.agg #[.int .u8 1, .int .i64 4, .int .i64 0, .int .i64 0, .int .u64 0, .int .u64 b]),isVw (.agg #[.int .u8 12, .int .i64 4, .int .i64 0, .int .i64 0, .int .u64 0, .int .u64 0]),
  ([],TSl 3 #[.int .u8 1, .int .i64 4, .int .i64 0, .int .i64 0, .int .u64 0, .int .u64 a, .int .u8 1, .int .i64 4, .int .i64 0, .int .i64 0, .int .u64 0, .int .u64 b, .int .u8 12, .int .i64 4, .int .i64 0, .int .i64 0, .int .u64 0, .int .u64 0] 65),isVw (.agg #[.int .u64 0, .int .u64 r]),([],TTwo 60),([9],TAnyW)]
 G:=fun L l w=>Below w0.heap.size w0 w/\LaidTwo 10 9 w0.heap.size (.int .u64 0) (.int .u64 r) 60 L l w
theorem kR_fine {gx g2 kc a b r:Nat} {w0:World}:(kR gx g2 kc a b r w0).Fine where
 old:=fun _ h=>h.elim
 stab:=fun i js P hk B w w' ls v hp _ hw hs=>by
  match i,hk with
  |0,hk=>cases hk;exact hp
  |1,hk=>cases hk;exact hp
  |2,hk=>cases hk;exact hp
  |3,hk=>cases hk;exact hp
  |4,hk=>cases hk;exact hp
  |5,hk=>cases hk;exact hp
  |6,hk=>cases hk;exact hp
  |7,hk=>cases hk;exact TSl.stab hp hw
  |8,hk=>cases hk;exact hp
  |9,hk=>cases hk;exact TTwo.stab hp hw
  |10,hk=>cases hk;trivial
  |i+11,hk=>simp[kR] at hk
theorem two_after {w:World} {g g':Nat} {x y u v:Value} {t:TypeId} (h:w.heap[g']?=some (.cells #[x,y] t (0,0))):∃a b,((w.setCell ⟨g,0,none⟩ u).setCell ⟨g,1,none⟩ v).heap[g']?=some (.cells #[a,b] t (0,0)):=by
 by_cases e:g'=g
 ·subst e;exact ⟨_,_,set_lo _ (set_hi _ h)⟩
 ·exact ⟨_,_,by rw[setCell_heap e,setCell_heap e];exact h⟩
theorem kreg4 (gx g2:Nat) (WB:World)
 (HF:Hid (Rw.Fine (kR gx g2 18 5 3 2 WB))) (HG0:Hid (∀ l:List Value,(kR gx g2 18 5 3 2 WB).G (Array.replicate 11 false) l WB.drew)) (Hn0:(kR gx g2 18 5 3 2 WB).n0<=WB.heap.size)
 (HK5:Hid (∀ W,Calls Tryz.prog 18 #[.int .u64 5] W fun e w'=>e= .returned (.agg #[.int .u8 1, .int .i64 4, .int .i64 0, .int .i64 0, .int .u64 0, .int .u64 5])/\Below W.heap.size W w'))
 (HK3:Hid (∀ W,Calls Tryz.prog 18 #[.int .u64 3] W fun e w'=>e= .returned (.agg #[.int .u8 1, .int .i64 4, .int .i64 0, .int .i64 0, .int .u64 0, .int .u64 3])/\Below W.heap.size W w'))
 (HC:Hid (∀ W,Below WB.heap.size WB W->W.cell? ⟨g2,0,none⟩=some (.int .u8 12)/\W.cell? ⟨g2,1,none⟩=some (.int .i64 4)/\W.cell? ⟨g2,2,none⟩=some (.int .i64 0)/\W.cell? ⟨g2,3,none⟩=some (.int .i64 0)/\W.cell? ⟨g2,4,none⟩=some (.int .u64 0)/\W.cell? ⟨g2,5,none⟩=some (.int .u64 0)))
 (HV:Hid (∀ W gc,W.heap[gc]?=some (.cells #[.int .u8 1, .int .i64 4, .int .i64 0, .int .i64 0, .int .u64 0, .int .u64 5, .int .u8 1, .int .i64 4, .int .i64 0, .int .i64 0, .int .u64 0, .int .u64 3, .int .u8 12, .int .i64 4, .int .i64 0, .int .i64 0, .int .u64 0, .int .u64 0] 65 (0,0))->Calls Tryz.prog 20 #[.agg #[.slice none 0 0, .slice none 0 0, .slice none 0 0, .slice none 0 0, .slice none 0 0, .slice none 0 0, .slice none 0 0, .slice none 0 0, .slice none 0 0, .slice none 0 0, .slice none 0 0, .slice none 0 0], .pointer (some ⟨gx,0,none⟩), .slice (some ⟨gc,0,none⟩) 3 3, .slice none 0 0] W fun e w'=>e= .returned (.agg #[.int .u64 0, .int .u64 2])/\Below W.heap.size W w'))
 (HGQ:Hid (∀ (i:Nat) (v:Value) (L:Array Bool) (l:List Value) (w w':World),did L i=false->i<L.size->i<l.length->Below w.heap.size w w'->(kR gx g2 18 5 3 2 WB).G L l w->i≠10->(kR gx g2 18 5 3 2 WB).G (L.setIfInBounds i true) (l.set i v) w'))
 (c0 c4 c5 c6 c7 c8 c9 c10 c11 c12 c13 c14 c15 c16 c17 c18 c19 c20 c21 c22 c23 c24 c25 c26 c27 c28 c29 c30 c31 c32 c33 c34:Value) (Q:Exit->Act->World->Prop)
 (hexit:∀(u0 u1 u2 u3 u4 u5 u6 u7 u8 u9:Value) (L:Array Bool) (w':World),(∀ i,i<11->did L i=true)->RW (kR gx g2 18 5 3 2 WB) L [u0,u1,u2,u3,u4,u5,u6,u7,u8,u9,undef] w'->Q .normal ⟨#[c0, .func (Fn.func 18) #[] #[], .pointer (some ⟨g2,0,none⟩), .pointer (some ⟨gx,0,none⟩),u9,c5,c6,c7,c8,u0,u1,u2,u3,u4,u5,u6,u7,u8,c18,c19,c20,c21,c22,c23,c24,c25,c26,c27,c28,c29,c30,c31,c32,c33,c34],[]⟩ w'):
 Code.wp Tryz.prog ((Tryz.f6.body.bind (findRegion 4)).getD .skip) Q ⟨#[c0, .func (Fn.func 18) #[] #[], .pointer (some ⟨g2,0,none⟩), .pointer (some ⟨gx,0,none⟩),c4,c5,c6,c7,c8,c9,c10,c11,c12,c13,c14,c15,c16,c17,c18,c19,c20,c21,c22,c23,c24,c25,c26,c27,c28,c29,c30,c31,c32,c33,c34],[]⟩ WB:=by
 dsimp only at hexit⊢;conv=>arg 2;whnf
 have HEX:=hD hexit;clear hexit;have hF:=HF.out;refine wp_region_inv2 (by kernel_rfl) (fun L a' w'=>∃u0 u1 u2 u3 u4 u5 u6 u7 u8 u9:Value,a'=⟨#[c0, .func (Fn.func 18) #[] #[], .pointer (some ⟨g2,0,none⟩), .pointer (some ⟨gx,0,none⟩),u9,c5,c6,c7,c8,u0,u1,u2,u3,u4,u5,u6,u7,u8,c18,c19,c20,c21,c22,c23,c24,c25,c26,c27,c28,c29,c30,c31,c32,c33,c34],[]⟩/\L.size=11/\RW (kR gx g2 18 5 3 2 WB) L [u0,u1,u2,u3,u4,u5,u6,u7,u8,u9,undef] w') ?_ ?_ ?_ ?_
 ·exact ⟨_,_,_,_,_,_,_,_,_,_,rfl,by simp,RW.init (fun i=>did_none _ _) Hn0 (HG0.out _)⟩
 ·rintro L a' w' i hL hi hnd hdep ⟨u0,u1,u2,u3,u4,u5,u6,u7,u8,u9,rfl,hLn,hI⟩;dsimp only;have hsz:∀i,(L.setIfInBounds i true).size=11:=fun i=>by simpa using hLn
  have hL11:L.size=11:=hL;have HI:=hD hI;clear hI
  match i,hi with
  |0,_=>
   have HN:=hD hnd;have HJ:Hid (∀ j∈([]:List Nat),did L j=true):=fun j hj=>by cases hj
   clear hdep hnd;refine wpOp_step rfl (fun K' hK=>?_);go_simp;exact hK _ _ ⟨_,_,_,_,_,_,_,_,_,_,rfl,hsz _,HI.out.val 0 _ hF HN.out (by omega) (by show 0<11;omega) rfl (Below.refl _ _) (fun hg=>HGQ.out 0 _ _ _ _ _ HN.out (by omega) (by show 0<11;omega) (Below.refl _ _) hg (by decide))⟩
  |1,_=>
   have HN:=hD hnd;have HJ:Hid (∀ j∈([]:List Nat),did L j=true):=fun j hj=>by cases hj
   clear hdep hnd;refine wpOp_step rfl (fun K' hK=>?_);go_simp;exact hK _ _ ⟨_,_,_,_,_,_,_,_,_,_,rfl,hsz _,HI.out.val 1 _ hF HN.out (by omega) (by show 1<11;omega) rfl (Below.refl _ _) (fun hg=>HGQ.out 1 _ _ _ _ _ HN.out (by omega) (by show 1<11;omega) (Below.refl _ _) hg (by decide))⟩
  |2,_=>
   have HN:=hD hnd;have HJ:Hid (∀ j∈([]:List Nat),did L j=true):=fun j hj=>by cases hj
   clear hdep hnd;refine wpOp_step rfl (fun K' hK=>?_);go_simp;exact hK _ _ ⟨_,_,_,_,_,_,_,_,_,_,rfl,hsz _,HI.out.val 2 _ hF HN.out (by omega) (by show 2<11;omega) rfl (Below.refl _ _) (fun hg=>HGQ.out 2 _ _ _ _ _ HN.out (by omega) (by show 2<11;omega) (Below.refl _ _) hg (by decide))⟩
  |3,_=>
   have HN:=hD hnd;have q2:=(HI.out.got 2 (hdep _ rfl ⟨2, .data⟩ (by simp) (by kernel_rfl)) rfl).symm;subst q2;have HJ:Hid (∀ j∈([]:List Nat),did L j=true):=fun j hj=>by cases hj
   clear hdep hnd;refine wpOp_step rfl (fun K' hK=>?_);go_simp;refine (HK5.out _).mono ?_;rintro e w1 ⟨rfl,hbK⟩;exact hK _ _ ⟨_,_,_,_,_,_,_,_,_,_,rfl,hsz _,HI.out.quiet 3 _ hF HN.out (by omega) (by show 3<11;omega) rfl HJ.out hbK (fun hg=>HGQ.out 3 _ _ _ _ _ HN.out (by omega) (by show 3<11;omega) hbK hg (by decide)) rfl⟩
  |4,_=>
   have HN:=hD hnd;have HJ:Hid (∀ j∈([]:List Nat),did L j=true):=fun j hj=>by cases hj
   clear hdep hnd;refine wpOp_step rfl (fun K' hK=>?_);go_simp;exact hK _ _ ⟨_,_,_,_,_,_,_,_,_,_,rfl,hsz _,HI.out.val 4 _ hF HN.out (by omega) (by show 4<11;omega) rfl (Below.refl _ _) (fun hg=>HGQ.out 4 _ _ _ _ _ HN.out (by omega) (by show 4<11;omega) (Below.refl _ _) hg (by decide))⟩
  |5,_=>
   have HN:=hD hnd;have q4:=(HI.out.got 4 (hdep _ rfl ⟨4, .data⟩ (by simp) (by kernel_rfl)) rfl).symm;subst q4;have HJ:Hid (∀ j∈([]:List Nat),did L j=true):=fun j hj=>by cases hj
   clear hdep hnd;refine wpOp_step rfl (fun K' hK=>?_);go_simp;refine (HK3.out _).mono ?_;rintro e w1 ⟨rfl,hbK⟩;exact hK _ _ ⟨_,_,_,_,_,_,_,_,_,_,rfl,hsz _,HI.out.quiet 5 _ hF HN.out (by omega) (by show 5<11;omega) rfl HJ.out hbK (fun hg=>HGQ.out 5 _ _ _ _ _ HN.out (by omega) (by show 5<11;omega) hbK hg (by decide)) rfl⟩
  |6,_=>
   have HN:=hD hnd;have HJ:Hid (∀ j∈([]:List Nat),did L j=true):=fun j hj=>by cases hj
   obtain ⟨z0,z1,z2,z3,z4,z5⟩:=HC.out _ HI.out.glob.1;clear hdep hnd;refine wpOp_step rfl (fun K' hK=>?_);go_simp;exact hK _ _ ⟨_,_,_,_,_,_,_,_,_,_,rfl,hsz _,HI.out.val 6 _ hF HN.out (by omega) (by show 6<11;omega) rfl (Below.refl _ _) (fun hg=>HGQ.out 6 _ _ _ _ _ HN.out (by omega) (by show 6<11;omega) (Below.refl _ _) hg (by decide))⟩
  |7,_=>
   have HN:=hD hnd;have q6:=(HI.out.got 6 (hdep _ rfl ⟨6, .data⟩ (by simp) (by kernel_rfl)) rfl).symm;subst q6;have HJ:Hid (∀ j∈([]:List Nat),did L j=true):=fun j hj=>by cases hj
   have q3:=(HI.out.got 3 (hdep _ rfl ⟨3, .data⟩ (by simp) (by kernel_rfl)) rfl).symm;subst q3;have q5:=(HI.out.got 5 (hdep _ rfl ⟨5, .data⟩ (by simp) (by kernel_rfl)) rfl).symm;subst q5;clear hdep hnd;refine wpOp_step rfl (fun K' hK=>?_);go_simp;have hbK:Below w'.heap.size w' (w'.alloc (.cells #[.int .u8 1, .int .i64 4, .int .i64 0, .int .i64 0, .int .u64 0, .int .u64 5, .int .u8 1, .int .i64 4, .int .i64 0, .int .i64 0, .int .u64 0, .int .u64 3, .int .u8 12, .int .i64 4, .int .i64 0, .int .i64 0, .int .u64 0, .int .u64 0] 65)):=(Below.refl _ _).alloc (Nat.le_refl _) _;exact hK _ _ ⟨_,_,_,_,_,_,_,_,_,_,rfl,hsz _,HI.out.quiet 7 _ hF HN.out (by omega) (by show 7<11;omega) rfl HJ.out hbK (fun hg=>HGQ.out 7 _ _ _ _ _ HN.out (by omega) (by show 7<11;omega) hbK hg (by decide)) ⟨w'.heap.size,rfl,⟨Nat.le_refl _,by simp⟩,heap_new w' _⟩⟩
  |8,_=>
   have HN:=hD hnd;have q0:=(HI.out.got 0 (hdep _ rfl ⟨0, .data⟩ (by simp) (by kernel_rfl)) rfl).symm;subst q0;have q1:=(HI.out.got 1 (hdep _ rfl ⟨1, .data⟩ (by simp) (by kernel_rfl)) rfl).symm;subst q1;have HJ:Hid (∀ j∈([]:List Nat),did L j=true):=fun j hj=>by cases hj
   obtain ⟨B7,-,g7,e7,-,h7⟩:=HI.out.made 7 (hdep _ rfl ⟨7, .data⟩ (by simp) (by kernel_rfl)) rfl;have e7:u7= .slice (some ⟨g7,0,none⟩) 3 3:=e7;subst e7;have H7:=hD h7;clear h7;clear hdep hnd;refine wpOp_step rfl (fun K' hK=>?_);go_simp;refine (HV.out _ _ H7.out).mono ?_;rintro e w1 ⟨rfl,hbK⟩;exact hK _ _ ⟨_,_,_,_,_,_,_,_,_,_,rfl,hsz _,HI.out.quiet 8 _ hF HN.out (by omega) (by show 8<11;omega) rfl HJ.out hbK (fun hg=>HGQ.out 8 _ _ _ _ _ HN.out (by omega) (by show 8<11;omega) hbK hg (by decide)) rfl⟩
  |9,_=>
   have HN:=hD hnd;have HJ:Hid (∀ j∈([]:List Nat),did L j=true):=fun j hj=>by cases hj
   clear hdep hnd;refine wpOp_step rfl (fun K' hK=>?_);go_simp;have hbK:Below w'.heap.size w' (w'.alloc (.cells #[.int .u64 0, .int .u64 0] 60)):=(Below.refl _ _).alloc (Nat.le_refl _) _;exact hK _ _ ⟨_,_,_,_,_,_,_,_,_,_,rfl,hsz _,HI.out.quiet 9 _ hF HN.out (by omega) (by show 9<11;omega) rfl HJ.out hbK (fun hg=>HGQ.out 9 _ _ _ _ _ HN.out (by omega) (by show 9<11;omega) hbK hg (by decide)) ⟨w'.heap.size,rfl,⟨Nat.le_refl _,by simp⟩,_,_,heap_new w' _⟩⟩
  |10,_=>
   have HN:=hD hnd;have d9:=hdep _ rfl ⟨9, .data⟩ (by simp) (by kernel_rfl);have HJ:Hid (∀ j∈([9]:List Nat),did L j=true):=by
    intro j hj;simp only[List.mem_cons,List.not_mem_nil,or_false] at hj;subst hj;assumption
   have q8:=(HI.out.got 8 (hdep _ rfl ⟨8, .data⟩ (by simp) (by kernel_rfl)) rfl).symm;subst q8;obtain ⟨B9,hb9,g,e9,hg9,ex,ey,h9⟩:=HI.out.made 9 d9 rfl;have e9:u9= .pointer (some ⟨g,0,none⟩):=e9;subst e9;have HGE:Hid (WB.heap.size<=g):=(hb9 g hg9).1;have H9:=hD h9;have HD9:=hD d9;have z0:w'.cell? ⟨g,0,none⟩=some ex:=by simp[World.cell?,h9]
   have z1:w'.cell? ⟨g,1,none⟩=some ey:=by simp[World.cell?,h9]
   have z2:w'.frozen? ⟨g,0,none⟩=false:=by simp[World.frozen?,h9]
   have z3:w'.frozen? ⟨g,1,none⟩=false:=by simp[World.frozen?,h9]
   clear h9 hb9 hg9;clear hdep hnd d9;refine wpOp_step rfl (fun K' hK=>?_);go_simp;exact hK _ _ ⟨_,_,_,_,_,_,_,_,_,_,rfl,hsz _,(HI.out.put 10 9 g undef (js:=[9]) (P:=TAnyW) (w':=(w'.setCell ⟨g,0,none⟩ (.int .u64 0)).setCell ⟨g,1,none⟩ (.int .u64 2)) hF HN.out (by omega) (by show 10<11;omega) rfl HJ.out (fun k hk=>by rw[setCell_heap hk,setCell_heap hk]) (by simp) (fun B hB=>⟨hB.boxTwo HD9.out rfl rfl,fun h=>h⟩) (fun js' P' hk B ls x hp=>by cases hk;obtain ⟨g',rfl,q1,x',y',q2⟩:=hp;exact ⟨g',rfl,q1,two_after q2⟩) (fun hg=>⟨(hg.1.setCell HGE.out _).setCell HGE.out _,fun _=>⟨by rw[did_other (by omega)];exact HD9.out,g,rfl,HGE.out,set_lo _ (set_hi _ H9.out)⟩⟩) trivial)⟩
  |i+11,hi=>exact absurd hi (by show ¬(i+11<11);omega)
 ·intro i o ho e he hb
  match i,ho with
  |0,ho=>cases ho;simp at he
  |1,ho=>cases ho;simp at he
  |2,ho=>cases ho;simp at he
  |3,ho=>cases ho;simp at he;subst he;first|(simp;done)|(exact absurd hb (by decide))
  |4,ho=>cases ho;simp at he
  |5,ho=>cases ho;simp at he;rcases he with rfl|rfl<;>first|(simp;done)|(exact absurd hb (by decide))
  |6,ho=>cases ho;simp at he
  |7,ho=>cases ho;simp at he;rcases he with rfl|rfl|rfl<;>first|(simp;done)|(exact absurd hb (by decide))
  |8,ho=>cases ho;simp at he;rcases he with rfl|rfl|rfl|rfl<;>first|(simp;done)|(exact absurd hb (by decide))
  |9,ho=>cases ho;simp at he
  |10,ho=>cases ho;simp at he;rcases he with rfl|rfl|rfl|rfl|rfl|rfl|rfl|rfl|rfl|rfl|rfl|rfl|rfl<;>first|(simp;done)|(exact absurd hb (by decide))
  |i+11,ho=>simp at ho
 ·rintro L a' w' hall ⟨u0,u1,u2,u3,u4,u5,u6,u7,u8,u9,rfl,hLn,hI⟩;exact HEX.out u0 u1 u2 u3 u4 u5 u6 u7 u8 u9 L w' (fun i hi=>hall i hi) hI
theorem kreg5 (gx g2:Nat) (WB:World)
 (HF:Hid (Rw.Fine (kR gx g2 18 3 5 14 WB))) (HG0:Hid (∀ l:List Value,(kR gx g2 18 3 5 14 WB).G (Array.replicate 11 false) l WB.drew)) (Hn0:(kR gx g2 18 3 5 14 WB).n0<=WB.heap.size)
 (HK3:Hid (∀ W,Calls Tryz.prog 18 #[.int .u64 3] W fun e w'=>e= .returned (.agg #[.int .u8 1, .int .i64 4, .int .i64 0, .int .i64 0, .int .u64 0, .int .u64 3])/\Below W.heap.size W w'))
 (HK5:Hid (∀ W,Calls Tryz.prog 18 #[.int .u64 5] W fun e w'=>e= .returned (.agg #[.int .u8 1, .int .i64 4, .int .i64 0, .int .i64 0, .int .u64 0, .int .u64 5])/\Below W.heap.size W w'))
 (HC:Hid (∀ W,Below WB.heap.size WB W->W.cell? ⟨g2,0,none⟩=some (.int .u8 12)/\W.cell? ⟨g2,1,none⟩=some (.int .i64 4)/\W.cell? ⟨g2,2,none⟩=some (.int .i64 0)/\W.cell? ⟨g2,3,none⟩=some (.int .i64 0)/\W.cell? ⟨g2,4,none⟩=some (.int .u64 0)/\W.cell? ⟨g2,5,none⟩=some (.int .u64 0)))
 (HV:Hid (∀ W gc,W.heap[gc]?=some (.cells #[.int .u8 1, .int .i64 4, .int .i64 0, .int .i64 0, .int .u64 0, .int .u64 3, .int .u8 1, .int .i64 4, .int .i64 0, .int .i64 0, .int .u64 0, .int .u64 5, .int .u8 12, .int .i64 4, .int .i64 0, .int .i64 0, .int .u64 0, .int .u64 0] 65 (0,0))->Calls Tryz.prog 20 #[.agg #[.slice none 0 0, .slice none 0 0, .slice none 0 0, .slice none 0 0, .slice none 0 0, .slice none 0 0, .slice none 0 0, .slice none 0 0, .slice none 0 0, .slice none 0 0, .slice none 0 0, .slice none 0 0], .pointer (some ⟨gx,0,none⟩), .slice (some ⟨gc,0,none⟩) 3 3, .slice none 0 0] W fun e w'=>e= .returned (.agg #[.int .u64 0, .int .u64 14])/\Below W.heap.size W w'))
 (HGQ:Hid (∀ (i:Nat) (v:Value) (L:Array Bool) (l:List Value) (w w':World),did L i=false->i<L.size->i<l.length->Below w.heap.size w w'->(kR gx g2 18 3 5 14 WB).G L l w->i≠10->(kR gx g2 18 3 5 14 WB).G (L.setIfInBounds i true) (l.set i v) w'))
 (c0 c4 c5 c6 c7 c8 c9 c10 c11 c12 c13 c14 c15 c16 c17 c18 c19 c20 c21 c22 c23 c24 c25 c26 c27 c28 c29 c30 c31 c32 c33 c34:Value) (Q:Exit->Act->World->Prop)
 (hexit:∀(u0 u1 u2 u3 u4 u5 u6 u7 u8 u9:Value) (L:Array Bool) (w':World),(∀ i,i<11->did L i=true)->RW (kR gx g2 18 3 5 14 WB) L [u0,u1,u2,u3,u4,u5,u6,u7,u8,u9,undef] w'->Q .normal ⟨#[c0, .func (Fn.func 18) #[] #[], .pointer (some ⟨g2,0,none⟩), .pointer (some ⟨gx,0,none⟩),c4,u9,c6,c7,c8,c9,c10,c11,c12,c13,c14,c15,c16,c17,u0,u1,u2,u3,u4,u5,u6,u7,u8,c27,c28,c29,c30,c31,c32,c33,c34],[]⟩ w'):
 Code.wp Tryz.prog ((Tryz.f6.body.bind (findRegion 5)).getD .skip) Q ⟨#[c0, .func (Fn.func 18) #[] #[], .pointer (some ⟨g2,0,none⟩), .pointer (some ⟨gx,0,none⟩),c4,c5,c6,c7,c8,c9,c10,c11,c12,c13,c14,c15,c16,c17,c18,c19,c20,c21,c22,c23,c24,c25,c26,c27,c28,c29,c30,c31,c32,c33,c34],[]⟩ WB:=by
 dsimp only at hexit⊢;conv=>arg 2;whnf
 have HEX:=hD hexit;clear hexit;have hF:=HF.out;refine wp_region_inv2 (by kernel_rfl) (fun L a' w'=>∃u0 u1 u2 u3 u4 u5 u6 u7 u8 u9:Value,a'=⟨#[c0, .func (Fn.func 18) #[] #[], .pointer (some ⟨g2,0,none⟩), .pointer (some ⟨gx,0,none⟩),c4,u9,c6,c7,c8,c9,c10,c11,c12,c13,c14,c15,c16,c17,u0,u1,u2,u3,u4,u5,u6,u7,u8,c27,c28,c29,c30,c31,c32,c33,c34],[]⟩/\L.size=11/\RW (kR gx g2 18 3 5 14 WB) L [u0,u1,u2,u3,u4,u5,u6,u7,u8,u9,undef] w') ?_ ?_ ?_ ?_
 ·exact ⟨_,_,_,_,_,_,_,_,_,_,rfl,by simp,RW.init (fun i=>did_none _ _) Hn0 (HG0.out _)⟩
 ·rintro L a' w' i hL hi hnd hdep ⟨u0,u1,u2,u3,u4,u5,u6,u7,u8,u9,rfl,hLn,hI⟩;dsimp only;have hsz:∀i,(L.setIfInBounds i true).size=11:=fun i=>by simpa using hLn
  have hL11:L.size=11:=hL;have HI:=hD hI;clear hI
  match i,hi with
  |0,_=>
   have HN:=hD hnd;have HJ:Hid (∀ j∈([]:List Nat),did L j=true):=fun j hj=>by cases hj
   clear hdep hnd;refine wpOp_step rfl (fun K' hK=>?_);go_simp;exact hK _ _ ⟨_,_,_,_,_,_,_,_,_,_,rfl,hsz _,HI.out.val 0 _ hF HN.out (by omega) (by show 0<11;omega) rfl (Below.refl _ _) (fun hg=>HGQ.out 0 _ _ _ _ _ HN.out (by omega) (by show 0<11;omega) (Below.refl _ _) hg (by decide))⟩
  |1,_=>
   have HN:=hD hnd;have HJ:Hid (∀ j∈([]:List Nat),did L j=true):=fun j hj=>by cases hj
   clear hdep hnd;refine wpOp_step rfl (fun K' hK=>?_);go_simp;exact hK _ _ ⟨_,_,_,_,_,_,_,_,_,_,rfl,hsz _,HI.out.val 1 _ hF HN.out (by omega) (by show 1<11;omega) rfl (Below.refl _ _) (fun hg=>HGQ.out 1 _ _ _ _ _ HN.out (by omega) (by show 1<11;omega) (Below.refl _ _) hg (by decide))⟩
  |2,_=>
   have HN:=hD hnd;have HJ:Hid (∀ j∈([]:List Nat),did L j=true):=fun j hj=>by cases hj
   clear hdep hnd;refine wpOp_step rfl (fun K' hK=>?_);go_simp;exact hK _ _ ⟨_,_,_,_,_,_,_,_,_,_,rfl,hsz _,HI.out.val 2 _ hF HN.out (by omega) (by show 2<11;omega) rfl (Below.refl _ _) (fun hg=>HGQ.out 2 _ _ _ _ _ HN.out (by omega) (by show 2<11;omega) (Below.refl _ _) hg (by decide))⟩
  |3,_=>
   have HN:=hD hnd;have q2:=(HI.out.got 2 (hdep _ rfl ⟨2, .data⟩ (by simp) (by kernel_rfl)) rfl).symm;subst q2;have HJ:Hid (∀ j∈([]:List Nat),did L j=true):=fun j hj=>by cases hj
   clear hdep hnd;refine wpOp_step rfl (fun K' hK=>?_);go_simp;refine (HK3.out _).mono ?_;rintro e w1 ⟨rfl,hbK⟩;exact hK _ _ ⟨_,_,_,_,_,_,_,_,_,_,rfl,hsz _,HI.out.quiet 3 _ hF HN.out (by omega) (by show 3<11;omega) rfl HJ.out hbK (fun hg=>HGQ.out 3 _ _ _ _ _ HN.out (by omega) (by show 3<11;omega) hbK hg (by decide)) rfl⟩
  |4,_=>
   have HN:=hD hnd;have HJ:Hid (∀ j∈([]:List Nat),did L j=true):=fun j hj=>by cases hj
   clear hdep hnd;refine wpOp_step rfl (fun K' hK=>?_);go_simp;exact hK _ _ ⟨_,_,_,_,_,_,_,_,_,_,rfl,hsz _,HI.out.val 4 _ hF HN.out (by omega) (by show 4<11;omega) rfl (Below.refl _ _) (fun hg=>HGQ.out 4 _ _ _ _ _ HN.out (by omega) (by show 4<11;omega) (Below.refl _ _) hg (by decide))⟩
  |5,_=>
   have HN:=hD hnd;have q4:=(HI.out.got 4 (hdep _ rfl ⟨4, .data⟩ (by simp) (by kernel_rfl)) rfl).symm;subst q4;have HJ:Hid (∀ j∈([]:List Nat),did L j=true):=fun j hj=>by cases hj
   clear hdep hnd;refine wpOp_step rfl (fun K' hK=>?_);go_simp;refine (HK5.out _).mono ?_;rintro e w1 ⟨rfl,hbK⟩;exact hK _ _ ⟨_,_,_,_,_,_,_,_,_,_,rfl,hsz _,HI.out.quiet 5 _ hF HN.out (by omega) (by show 5<11;omega) rfl HJ.out hbK (fun hg=>HGQ.out 5 _ _ _ _ _ HN.out (by omega) (by show 5<11;omega) hbK hg (by decide)) rfl⟩
  |6,_=>
   have HN:=hD hnd;have HJ:Hid (∀ j∈([]:List Nat),did L j=true):=fun j hj=>by cases hj
   obtain ⟨z0,z1,z2,z3,z4,z5⟩:=HC.out _ HI.out.glob.1;clear hdep hnd;refine wpOp_step rfl (fun K' hK=>?_);go_simp;exact hK _ _ ⟨_,_,_,_,_,_,_,_,_,_,rfl,hsz _,HI.out.val 6 _ hF HN.out (by omega) (by show 6<11;omega) rfl (Below.refl _ _) (fun hg=>HGQ.out 6 _ _ _ _ _ HN.out (by omega) (by show 6<11;omega) (Below.refl _ _) hg (by decide))⟩
  |7,_=>
   have HN:=hD hnd;have q6:=(HI.out.got 6 (hdep _ rfl ⟨6, .data⟩ (by simp) (by kernel_rfl)) rfl).symm;subst q6;have HJ:Hid (∀ j∈([]:List Nat),did L j=true):=fun j hj=>by cases hj
   have q3:=(HI.out.got 3 (hdep _ rfl ⟨3, .data⟩ (by simp) (by kernel_rfl)) rfl).symm;subst q3;have q5:=(HI.out.got 5 (hdep _ rfl ⟨5, .data⟩ (by simp) (by kernel_rfl)) rfl).symm;subst q5;clear hdep hnd;refine wpOp_step rfl (fun K' hK=>?_);go_simp;have hbK:Below w'.heap.size w' (w'.alloc (.cells #[.int .u8 1, .int .i64 4, .int .i64 0, .int .i64 0, .int .u64 0, .int .u64 3, .int .u8 1, .int .i64 4, .int .i64 0, .int .i64 0, .int .u64 0, .int .u64 5, .int .u8 12, .int .i64 4, .int .i64 0, .int .i64 0, .int .u64 0, .int .u64 0] 65)):=(Below.refl _ _).alloc (Nat.le_refl _) _;exact hK _ _ ⟨_,_,_,_,_,_,_,_,_,_,rfl,hsz _,HI.out.quiet 7 _ hF HN.out (by omega) (by show 7<11;omega) rfl HJ.out hbK (fun hg=>HGQ.out 7 _ _ _ _ _ HN.out (by omega) (by show 7<11;omega) hbK hg (by decide)) ⟨w'.heap.size,rfl,⟨Nat.le_refl _,by simp⟩,heap_new w' _⟩⟩
  |8,_=>
   have HN:=hD hnd;have q0:=(HI.out.got 0 (hdep _ rfl ⟨0, .data⟩ (by simp) (by kernel_rfl)) rfl).symm;subst q0;have q1:=(HI.out.got 1 (hdep _ rfl ⟨1, .data⟩ (by simp) (by kernel_rfl)) rfl).symm;subst q1;have HJ:Hid (∀ j∈([]:List Nat),did L j=true):=fun j hj=>by cases hj
   obtain ⟨B7,-,g7,e7,-,h7⟩:=HI.out.made 7 (hdep _ rfl ⟨7, .data⟩ (by simp) (by kernel_rfl)) rfl;have e7:u7= .slice (some ⟨g7,0,none⟩) 3 3:=e7;subst e7;have H7:=hD h7;clear h7;clear hdep hnd;refine wpOp_step rfl (fun K' hK=>?_);go_simp;refine (HV.out _ _ H7.out).mono ?_;rintro e w1 ⟨rfl,hbK⟩;exact hK _ _ ⟨_,_,_,_,_,_,_,_,_,_,rfl,hsz _,HI.out.quiet 8 _ hF HN.out (by omega) (by show 8<11;omega) rfl HJ.out hbK (fun hg=>HGQ.out 8 _ _ _ _ _ HN.out (by omega) (by show 8<11;omega) hbK hg (by decide)) rfl⟩
  |9,_=>
   have HN:=hD hnd;have HJ:Hid (∀ j∈([]:List Nat),did L j=true):=fun j hj=>by cases hj
   clear hdep hnd;refine wpOp_step rfl (fun K' hK=>?_);go_simp;have hbK:Below w'.heap.size w' (w'.alloc (.cells #[.int .u64 0, .int .u64 0] 60)):=(Below.refl _ _).alloc (Nat.le_refl _) _;exact hK _ _ ⟨_,_,_,_,_,_,_,_,_,_,rfl,hsz _,HI.out.quiet 9 _ hF HN.out (by omega) (by show 9<11;omega) rfl HJ.out hbK (fun hg=>HGQ.out 9 _ _ _ _ _ HN.out (by omega) (by show 9<11;omega) hbK hg (by decide)) ⟨w'.heap.size,rfl,⟨Nat.le_refl _,by simp⟩,_,_,heap_new w' _⟩⟩
  |10,_=>
   have HN:=hD hnd;have d9:=hdep _ rfl ⟨9, .data⟩ (by simp) (by kernel_rfl);have HJ:Hid (∀ j∈([9]:List Nat),did L j=true):=by
    intro j hj;simp only[List.mem_cons,List.not_mem_nil,or_false] at hj;subst hj;assumption
   have q8:=(HI.out.got 8 (hdep _ rfl ⟨8, .data⟩ (by simp) (by kernel_rfl)) rfl).symm;subst q8;obtain ⟨B9,hb9,g,e9,hg9,ex,ey,h9⟩:=HI.out.made 9 d9 rfl;have e9:u9= .pointer (some ⟨g,0,none⟩):=e9;subst e9;have HGE:Hid (WB.heap.size<=g):=(hb9 g hg9).1;have H9:=hD h9;have HD9:=hD d9;have z0:w'.cell? ⟨g,0,none⟩=some ex:=by simp[World.cell?,h9]
   have z1:w'.cell? ⟨g,1,none⟩=some ey:=by simp[World.cell?,h9]
   have z2:w'.frozen? ⟨g,0,none⟩=false:=by simp[World.frozen?,h9]
   have z3:w'.frozen? ⟨g,1,none⟩=false:=by simp[World.frozen?,h9]
   clear h9 hb9 hg9;clear hdep hnd d9;refine wpOp_step rfl (fun K' hK=>?_);go_simp;exact hK _ _ ⟨_,_,_,_,_,_,_,_,_,_,rfl,hsz _,(HI.out.put 10 9 g undef (js:=[9]) (P:=TAnyW) (w':=(w'.setCell ⟨g,0,none⟩ (.int .u64 0)).setCell ⟨g,1,none⟩ (.int .u64 14)) hF HN.out (by omega) (by show 10<11;omega) rfl HJ.out (fun k hk=>by rw[setCell_heap hk,setCell_heap hk]) (by simp) (fun B hB=>⟨hB.boxTwo HD9.out rfl rfl,fun h=>h⟩) (fun js' P' hk B ls x hp=>by cases hk;obtain ⟨g',rfl,q1,x',y',q2⟩:=hp;exact ⟨g',rfl,q1,two_after q2⟩) (fun hg=>⟨(hg.1.setCell HGE.out _).setCell HGE.out _,fun _=>⟨by rw[did_other (by omega)];exact HD9.out,g,rfl,HGE.out,set_lo _ (set_hi _ H9.out)⟩⟩) trivial)⟩
  |i+11,hi=>exact absurd hi (by show ¬(i+11<11);omega)
 ·intro i o ho e he hb
  match i,ho with
  |0,ho=>cases ho;simp at he
  |1,ho=>cases ho;simp at he
  |2,ho=>cases ho;simp at he
  |3,ho=>cases ho;simp at he;subst he;first|(simp;done)|(exact absurd hb (by decide))
  |4,ho=>cases ho;simp at he
  |5,ho=>cases ho;simp at he;rcases he with rfl|rfl<;>first|(simp;done)|(exact absurd hb (by decide))
  |6,ho=>cases ho;simp at he
  |7,ho=>cases ho;simp at he;rcases he with rfl|rfl|rfl<;>first|(simp;done)|(exact absurd hb (by decide))
  |8,ho=>cases ho;simp at he;rcases he with rfl|rfl|rfl|rfl<;>first|(simp;done)|(exact absurd hb (by decide))
  |9,ho=>cases ho;simp at he
  |10,ho=>cases ho;simp at he;rcases he with rfl|rfl|rfl|rfl|rfl|rfl|rfl|rfl|rfl|rfl|rfl|rfl|rfl<;>first|(simp;done)|(exact absurd hb (by decide))
  |i+11,ho=>simp at ho
 ·rintro L a' w' hall ⟨u0,u1,u2,u3,u4,u5,u6,u7,u8,u9,rfl,hLn,hI⟩;exact HEX.out u0 u1 u2 u3 u4 u5 u6 u7 u8 u9 L w' (fun i hi=>hall i hi) hI
open Go.RowKit Go.Maps
theorem eq_same (a b:Int) (W:World):(Go.binOp .eql 60 (.agg #[.int .u64 a, .int .u64 b]) (.agg #[.int .u64 a, .int .u64 b])).run Tryz.prog W= .ok (.bool true) W:=by simp[go_sem]
theorem kR_quiet {gx g2 kc a b r:Nat} {w0:World} (i:Nat) (v:Value) (L:Array Bool) (l:List Value) (w w':World) (hn:did L i=false) (_h1:i<L.size) (_h2:i<l.length) (hb:Below w.heap.size w w') (hg:(kR gx g2 kc a b r w0).G L l w) (hne:i≠10):(kR gx g2 kc a b r w0).G (L.setIfInBounds i true) (l.set i v) w':=
 ⟨hg.1.trans (hb.mono hg.1.size),hg.2.quiet hn hne hb⟩
theorem kcell (n:Nat) (hn:n<B) (W:World):Calls Tryz.prog 18 #[.int .u64 (n:Int)] W fun e w'=>e= .returned (.agg #[.int .u8 1, .int .i64 4, .int .i64 0, .int .i64 0, .int .u64 0, .int .u64 (n:Int)])/\Below W.heap.size W w':=by
 have h:=kc_any n W hn;unfold Nd.val nodeV at h;dsimp only at h
 rwa [Nat.div_eq_of_lt hn,Nat.mod_eq_of_lt hn] at h
theorem kvalue1 (gx:Nat) (W:World) (gc:Nat) (h:W.heap[gc]?=some (.cells #[.int .u8 1, .int .i64 4, .int .i64 0, .int .i64 0, .int .u64 0, .int .u64 5, .int .u8 1, .int .i64 4, .int .i64 0, .int .i64 0, .int .u64 0, .int .u64 3, .int .u8 12, .int .i64 4, .int .i64 0, .int .i64 0, .int .u64 0, .int .u64 0] 65 (0,0))):Calls Tryz.prog 20 #[prog0, .pointer (some ⟨gx,0,none⟩), .slice (some ⟨gc,0,none⟩) 3 3, .slice none 0 0] W fun e w'=>e= .returned (.agg #[.int .u64 0, .int .u64 2])/\Below W.heap.size W w':=
 value_of run_k1 gx gc 3 W 65 h
theorem kvalue2 (gx:Nat) (W:World) (gc:Nat) (h:W.heap[gc]?=some (.cells #[.int .u8 1, .int .i64 4, .int .i64 0, .int .i64 0, .int .u64 0, .int .u64 3, .int .u8 1, .int .i64 4, .int .i64 0, .int .i64 0, .int .u64 0, .int .u64 5, .int .u8 12, .int .i64 4, .int .i64 0, .int .i64 0, .int .u64 0, .int .u64 0] 65 (0,0))):Calls Tryz.prog 20 #[prog0, .pointer (some ⟨gx,0,none⟩), .slice (some ⟨gc,0,none⟩) 3 3, .slice none 0 0] W fun e w'=>e= .returned (.agg #[.int .u64 0, .int .u64 14])/\Below W.heap.size W w':=
 value_of run_k2 gx gc 3 W 65 h
theorem known21_true (w:World):Calls Tryz.prog 6 #[] w fun e w'=>e= .returned (.bool true)/\Below w.heap.size w w':=by
 have HK5:Hid (∀ W,Calls Tryz.prog 18 #[.int .u64 5] W fun e w'=>e= .returned (.agg #[.int .u8 1, .int .i64 4, .int .i64 0, .int .i64 0, .int .u64 0, .int .u64 5])/\Below W.heap.size W w'):=fun W=>kcell 5 (by unfold B;omega) W
 have HK3:Hid (∀ W,Calls Tryz.prog 18 #[.int .u64 3] W fun e w'=>e= .returned (.agg #[.int .u8 1, .int .i64 4, .int .i64 0, .int .i64 0, .int .u64 0, .int .u64 3])/\Below W.heap.size W w'):=fun W=>kcell 3 (by unfold B;omega) W
 have HO2:Hid (∀ W,Calls Tryz.prog 19 #[.int .u64 2] W fun e w'=>e= .returned (.agg #[.int .u64 0, .int .u64 2])/\Below W.heap.size W w'):=fun W=>refOf_any 2 (by unfold B;omega) W
 have HO14:Hid (∀ W,Calls Tryz.prog 19 #[.int .u64 14] W fun e w'=>e= .returned (.agg #[.int .u64 0, .int .u64 14])/\Below W.heap.size W w'):=fun W=>refOf_any 14 (by unfold B;omega) W
 have heq:=eq_same;have HEQ:=hD heq;clear heq;go_enter Tryz.func6,Tryz.ntmps6;go_wp2_with fail;obtain ⟨W0,hW0⟩:∃W0,W0=(w.alloc (.cells #[.int .u8 12, .int .i64 4, .int .i64 0, .int .i64 0, .int .u64 0, .int .u64 0] 65)).alloc (.cells #[.int .i64 0, .slice none 0 0, .slice none 0 0, .slice none 0 0, .slice none 0 0, .bool false, .bool false, .int .i64 0, .bool false] 40):=⟨_,rfl⟩;have HB0:Hid (Below w.heap.size w W0):=by show Below _ _ _;rw[hW0];exact (by repeat (first|exact Below.refl _ _|assumption|refine Below.drew ?_|refine blA ?_|refine blS ?_|refine blT ?_ (by assumption)))
 have h2:W0.heap[w.heap.size]?=some (.cells #[.int .u8 12, .int .i64 4, .int .i64 0, .int .i64 0, .int .u64 0, .int .u64 0] 65 (0,0)):=by rw[hW0];exact heap_new2 w _ _
 have hz0:W0.heap.size=w.heap.size+1+1:=by rw[hW0];simp
 have HC:Hid (∀ W,Below W0.heap.size W0 W->W.cell? ⟨w.heap.size,0,none⟩=some (.int .u8 12)/\W.cell? ⟨w.heap.size,1,none⟩=some (.int .i64 4)/\W.cell? ⟨w.heap.size,2,none⟩=some (.int .i64 0)/\W.cell? ⟨w.heap.size,3,none⟩=some (.int .i64 0)/\W.cell? ⟨w.heap.size,4,none⟩=some (.int .u64 0)/\W.cell? ⟨w.heap.size,5,none⟩=some (.int .u64 0)):=fun W hb=>by
  have h:=(hb.block _ (by omega)).trans h2;refine ⟨?_,?_,?_,?_,?_,?_⟩<;>simp[World.cell?,h]
 rw[<- hW0];clear hW0 h2;refine kreg4 (w.heap.size+1) w.heap.size W0 kR_fine (fun l=>⟨below_drewN (Below.refl _ _) 1,LaidTwo.start⟩) (Nat.le_refl _) HK5 HK3 HC (kvalue1 _) kR_quiet _ _ _ _ _ _ _ _ _ _ _ _ _ _ _ _ _ _ _ _ _ _ _ _ _ _ _ _ _ _ _ _ _ ?_;intro u0 u1 u2 u3 u4 u5 u6 u7 u8 u9 L w1 hall hI;obtain ⟨hb1,hL1⟩:=hI.glob;obtain ⟨-,g4,e9,hg4,h4⟩:=hL1 (hall 10 (by omega));have e9:u9= .pointer (some ⟨g4,0,none⟩):=e9;subst e9;have HB1:Hid (Below W0.heap.size W0 w1):=hb1;have H4:Hid (w1.heap[g4]?=some (.cells #[.int .u64 0, .int .u64 2] 60 (0,0))):=h4;have hz1:W0.heap.size<=w1.heap.size:=hb1.size;have hl4:g4<w1.heap.size:=lt_of_block h4;clear hI hL1 hb1 h4 hall;dsimp only;go_wp2_with fail;have HC1:Hid (∀ W,Below w1.heap.size w1 W->W.cell? ⟨w.heap.size,0,none⟩=some (.int .u8 12)/\W.cell? ⟨w.heap.size,1,none⟩=some (.int .i64 4)/\W.cell? ⟨w.heap.size,2,none⟩=some (.int .i64 0)/\W.cell? ⟨w.heap.size,3,none⟩=some (.int .i64 0)/\W.cell? ⟨w.heap.size,4,none⟩=some (.int .u64 0)/\W.cell? ⟨w.heap.size,5,none⟩=some (.int .u64 0)):=fun W hb=>HC.out W (HB1.out.trans (hb.mono hz1))
 refine kreg5 (w.heap.size+1) w.heap.size w1 kR_fine (fun l=>⟨below_drewN (Below.refl _ _) 1,LaidTwo.start⟩) (Nat.le_refl _) HK3 HK5 HC1 (kvalue2 _) kR_quiet _ _ _ _ _ _ _ _ _ _ _ _ _ _ _ _ _ _ _ _ _ _ _ _ _ _ _ _ _ _ _ _ _ ?_;intro v0 v1 v2 v3 v4 v5 v6 v7 v8 v9 L2 w2 hall hI;obtain ⟨hb1,hL1⟩:=hI.glob;obtain ⟨-,g5,e9,hg5,h5⟩:=hL1 (hall 10 (by omega));have e9:v9= .pointer (some ⟨g5,0,none⟩):=e9;subst e9;have HB2:Hid (Below w1.heap.size w1 w2):=hb1;have h4:w2.heap[g4]?=some (.cells #[.int .u64 0, .int .u64 2] 60 (0,0)):=(HB2.out.block _ hl4).trans H4.out;have HBW:Hid (Below w.heap.size w w2):=(HB0.out.trans (HB1.out.mono (by omega))).trans (HB2.out.mono (by omega));have h5:w2.heap[g5]?=some (.cells #[.int .u64 0, .int .u64 14] 60 (0,0)):=h5;have c0:w2.cell? ⟨g4,0,none⟩=some (.int .u64 0):=by simp[World.cell?,h4]
 have c1:w2.cell? ⟨g4,1,none⟩=some (.int .u64 2):=by simp[World.cell?,h4]
 have c2:w2.cell? ⟨g5,0,none⟩=some (.int .u64 0):=by simp[World.cell?,h5]
 have c3:w2.cell? ⟨g5,1,none⟩=some (.int .u64 14):=by simp[World.cell?,h5]
 have HS0:Hid ((fun Wk=>Below (w.heap.size) (w) Wk/\Wk.cell? ⟨g4,0,none⟩=some (.int .u64 0)/\Wk.cell? ⟨g4,1,none⟩=some (.int .u64 2)/\Wk.cell? ⟨g5,0,none⟩=some (.int .u64 0)/\Wk.cell? ⟨g5,1,none⟩=some (.int .u64 14)) w2.drew):=⟨below_drewN HBW.out 1,c0,c1,c2,c3⟩;clear hI hL1 hb1 h4 h5 hall;dsimp only;go_wp2_with fail;have heq:=HEQ.out;go_region_held3 (fun Wk=>Below (w.heap.size) (w) Wk/\Wk.cell? ⟨g4,0,none⟩=some (.int .u64 0)/\Wk.cell? ⟨g4,1,none⟩=some (.int .u64 2)/\Wk.cell? ⟨g5,0,none⟩=some (.int .u64 0)/\Wk.cell? ⟨g5,1,none⟩=some (.int .u64 14))
  (first|exact HS0.out|exact held_4_0 hb1 (by assumption)|assumption)
  (first
  |(go_at_call 19;(with_reducible refine (HO2.out _).mono ?_);rintro e w3 ⟨rfl,hb1⟩)
  |(go_at_call 19;(with_reducible refine (HO14.out _).mono ?_);rintro e w4 ⟨rfl,hb1⟩))
 rename_i hS;have HBF:=hD hS.1;clear hS;go_wp2_with fail;go_ret;exact ⟨rfl,HBF.out⟩
open Go.RowKit
theorem uconv {w:World} {v:Value} {xs:List Int} (h:URow w v xs):(convert 35 9 v).run Tryz.prog w= .ok (.string (strOfNums xs)) w:=by
 obtain ⟨pa,cap,rfl,h1,h2,-,h3⟩:=h;by_cases h0:0<xs.length
 ·obtain ⟨b,o,rfl,hb,hc⟩:=h3 h0;refine run_convert_bytes_arg w _ 5 Tryz.underlying35 Tryz.underlying5 b o xs.length cap xs rfl (fun i hi=>?_) _ Tryz.underlying9;have:=hc i xs[i] (List.getElem?_eq_getElem hi);unfold UAt at this;rw[Nat.mul_one] at this;rw[this,List.getD_eq_getElem?_getD,List.getElem?_eq_getElem hi];rfl
 ·obtain rfl:xs=[]:=List.eq_nil_of_length_eq_zero (by omega);cases pa with
  |none=>exact run_convert_bytes_nil w _ 5 Tryz.underlying35 Tryz.underlying5 0 cap _ Tryz.underlying9
  |some a=>
   rw[run_convert_bytes_string w _ _ 5 _ _ _ Tryz.underlying35 Tryz.underlying5 Tryz.underlying9];exact run_bytesToString w a 0 cap [] rfl
open Go.RowKit Stab
structure YOk (p:Prg) (x Y:Pkt):Prop where
 fits:pktP p Y=true
 rest:Y.rest=x.rest
 port:Y.port=x.port
 sent:x.sent=true->Y.sent=true
 acc:x.access=true->Y.access=true
 goes:Y.egress=x.egress\/(0<=Y.egress/\Y.egress<512)
theorem KOk.same {w:World} {k k':KS} {x:Pkt} (h:KOk w k' x) (e1:Value.slice k.rp k.rn k.rc= .slice k'.rp k'.rn k'.rc) (e2:Value.slice k.vp k.vn k.vc= .slice k'.vp k'.vn k'.vc) (e3:Value.slice k.fp k.fn k.fc= .slice k'.fp k'.fn k'.fc) (e4:Value.slice k.mp k.mn k.mc= .slice k'.mp k'.mn k'.mc):KOk w k x:=
 ⟨by rw[e1];exact h.r,by rw[e2];exact h.v,by rw[e3];exact h.f,by rw[e4];exact h.m⟩
theorem runA_ctl {p:Prg} {l:List Ent} {x:Pkt} (hm:mayP p=true) (ha:ApOk p l) (hx:pktP p x=true):YOk p x (runA p l (-1) [] p.ctl x):=by
 have e:runA p l (-1) [] p.ctl x=runP p l [] p.ctl x:=by
  unfold runA runP runFrom apF;rw[if_pos (by decide)]
 rw[e];obtain ⟨h1,h2,h3⟩:=runP_all (bodies_of ha) l [] (mayP_parts hm).2.2.1 x.egress (pktP_iff.1 hx) (.inl rfl);exact ⟨pktP_iff.2 h1,h2.rest,h2.port,h2.sent,h2.acc,h3⟩
theorem fitsLaw_any (s:PgS) (p:Prg) (l:List Ent) (lp:Option Addr) (ln lc:Nat) (q:KS) (x:Pkt) (w:World) (hp:PgOk w s p) (hL:Lm p) (hl:ERow w (.slice lp ln lc) l) (hla:∀e∈l,e.pats.length<=1000000/\e.args.length<=1000000) (hq:KOk w q x):
 Calls Tryz.prog 4 #[pgV s, .slice lp ln lc,kV q x.port x.dropped x.sent x.egress x.access] w fun e w'=>e= .returned (.bool true)/\Below w.heap.size w w':=by
 have HM:Hid (∀ W,Below w.heap.size w W->Calls Tryz.prog 5 #[pgV s, .slice lp ln lc,kV q x.port x.dropped x.sent x.egress x.access] W fun e w'=>AnsB (fun b=>b=true->Seen p l x x.port) e/\Below W.heap.size W w'):=fun W h=>may21_any s p l lp ln lc q x x.port x.egress x.dropped x.sent x.access W (hp.below h) hL (hl.below keepE h) (fun e he=>(hla e he).2) (hq.below h)
 have HKN:Hid (∀ W,Calls Tryz.prog 6 #[] W fun e w'=>e= .returned (.bool true)/\Below W.heap.size W w'):=fun W=>known21_true W
 have HSM:Seen p l x x.port->Sm p:=fun h=>Sm.of h.great
 have HSP:Seen p l x x.port->PktSm x:=fun h=>PktSm.of (pktP_iff.1 h.fits) (HSM h) (by have:=h.rest;omega)
 have HAP:Seen p l x x.port->ApOk p l:=fun h=>apok_of h.may (HSM h) h.ents h.many (fewB_of hla)
 obtain ⟨Y,hY⟩:∃Y,Y=runA p l (-1) [] p.ctl x:=⟨_,rfl⟩;have HYO:Hid (Seen p l x x.port->YOk p x Y):=fun h=>by rw[hY];exact runA_ctl h.may (HAP h) h.fits
 have HOWN:Hid (∀ W,Below w.heap.size w W->Seen p l x x.port->Calls Tryz.prog 7 #[kV q x.port x.dropped x.sent x.egress x.access] W fun e w'=>AnsO x.port x.egress x.dropped x.sent x.access W.heap.size w' x e/\Below W.heap.size W w'):=fun W h hs=>own19_any q x x.port x.egress x.dropped x.sent x.access W (hq.below h) (HSP hs)
 have HFI:Hid (∀ (W:World) (k:KS) (y:Pkt),Below w.heap.size w W->Seen p l x x.port->KOk W k y->Calls Tryz.prog 13 #[pgV s,kV k y.port y.dropped y.sent y.egress y.access] W fun e w'=>e= .returned (.bool (pktP p y))/\Below W.heap.size W w'):=fun W k y h hs hk=>fits19_any s p k y y.port y.egress y.dropped y.sent y.access W (hp.below h) (HSM hs) hk
 have HRUN:Hid (∀ (W:World) (X base:Nat) (r v f m:Value) (fs:List Value),Below w.heap.size w W->w.heap.size<=base->Seen p l x x.port->PktB base W X x r v f m fs->Calls Tryz.prog 8 #[pgV s, .slice lp ln lc, .pointer (some ⟨X,0,none⟩), .slice s.cp s.cn s.cc, .slice none 0 0] W fun e w'=>e= .returned (.tuple #[])/\PktB base w' X Y r v f m fs/\Fr (PS X r v f m fs) W w'):=fun W X base r v f m fs h hb hs hP=>by
  have hc:RCtx w W base X p (-1) x r v f m fs [] none 0 0:=⟨hP,h,hb,pktP_iff.1 hs.fits,⟨hs.p0,hs.p1⟩,fun e=>absurd e (by decide),RowAt.nil,fun b o e=>by cases e⟩;have:=actionRun hc s lp ln lc (l:=l) hp (wpos_of hs.may) (HSM hs) hl hp.ctl (HSM hs).ccode (mayP_parts hs.may).2.2.1 (fun _=>HAP hs);rw[<- hY] at this;exact this
 have HQ:=hD hq;clear hp hL hl hla hq HSM HSP HAP hY;unfold pgV at HRUN HFI;unfold kV at HFI;unfold pgV kV at HM HOWN⊢;go_enter Tryz.func4,Tryz.ntmps4;go_upto_region 1 with fail
 obtain ⟨W0,hW0⟩:∃W0,W0=(w.alloc (.cells #[.slice s.hp s.hn s.hc, .slice s.mp s.mn s.mc, .slice s.sp s.sn s.sc, .slice s.ap s.an s.ac, .slice s.tp s.tn s.tc, .slice s.cp s.cn s.cc, .slice s.ep s.en s.ec, .slice s.v1 s.n1 s.c1, .slice s.v2 s.n2 s.c2, .slice s.v3 s.n3 s.c3, .slice s.v4 s.n4 s.c4, .slice s.v5 s.n5 s.c5] 33)).alloc (.cells #[.int .i64 x.port, .slice q.rp q.rn q.rc, .slice q.vp q.vn q.vc, .slice q.fp q.fn q.fc, .slice q.mp q.mn q.mc, .bool x.dropped, .bool x.sent, .int .i64 x.egress, .bool x.access] 40):=⟨_,rfl⟩;have HB0:Hid (Below w.heap.size w W0):=by show Below _ _ _;rw[hW0];exact (by repeat (first|exact Below.refl _ _|assumption|refine Below.drew ?_|refine blA ?_|refine blS ?_|refine blT ?_ (by assumption)))
 have HG0:Hid (GBox W0 w.heap.size s):=by show _=_;rw[hW0,Below.heap_alloc _ _ _ (by simp)];exact heap_new _ _
 have HX0:Hid (Bx W0 (w.heap.size+1) [.int .i64 x.port, .slice q.rp q.rn q.rc, .slice q.vp q.vn q.vc, .slice q.fp q.fn q.fc, .slice q.mp q.mn q.mc, .bool x.dropped, .bool x.sent, .int .i64 x.egress, .bool x.access]):=by
  show _=_;rw[hW0];have:=heap_new (w.alloc (.cells #[.slice s.hp s.hn s.hc, .slice s.mp s.mn s.mc, .slice s.sp s.sn s.sc, .slice s.ap s.an s.ac, .slice s.tp s.tn s.tc, .slice s.cp s.cn s.cc, .slice s.ep s.en s.ec, .slice s.v1 s.n1 s.c1, .slice s.v2 s.n2 s.c2, .slice s.v3 s.n3 s.c3, .slice s.v4 s.n4 s.c4, .slice s.v5 s.n5 s.c5] 33)) (.cells #[.int .i64 x.port, .slice q.rp q.rn q.rc, .slice q.vp q.vn q.vc, .slice q.fp q.fn q.fc, .slice q.mp q.mn q.mc, .bool x.dropped, .bool x.sent, .int .i64 x.egress, .bool x.access] 40);simp only[World.size_alloc] at this;exact this
 have HZ0:Hid (W0.heap.size=w.heap.size+1+1):=by show _=_;rw[hW0];simp
 rw[<- hW0];clear hW0;obtain ⟨q0,q1,q2,q3,q4,q5,q6,q7,q8,q9,q10,q11⟩:=HG0.out.cells;obtain ⟨a0,a1,a2,a3,a4,a5,a6,a7,a8⟩:=HX0.out.c9;go_upto_region 4 with (first
  |(go_at_call 5;refine (HM.out _ HB0.out).mono ?_;rintro e w1 ⟨⟨b,rfl,hs⟩,hb1⟩;have HS:=hD hs;have HB1:=hD hb1;clear hs hb1;have HG1:Hid (GBox w1 w.heap.size s):=(HB1.out.block _ (lt_some HG0.out)).trans HG0.out;have HX1:Hid (Bx w1 (w.heap.size+1) [.int .i64 x.port, .slice q.rp q.rn q.rc, .slice q.vp q.vn q.vc, .slice q.fp q.fn q.fc, .slice q.mp q.mn q.mc, .bool x.dropped, .bool x.sent, .int .i64 x.egress, .bool x.access]):=(HB1.out.block _ (lt_some HX0.out)).trans HX0.out;have HW1:Hid (Below w.heap.size w w1):=HB0.out.trans (HB1.out.mono HB0.out.size);clear q0 q1 q2 q3 q4 q5 q6 q7 q8 q9 q10 q11 a0 a1 a2 a3 a4 a5 a6 a7 a8;obtain ⟨q0,q1,q2,q3,q4,q5,q6,q7,q8,q9,q10,q11⟩:=HG1.out.cells;obtain ⟨a0,a1,a2,a3,a4,a5,a6,a7,a8⟩:=HX1.out.c9;cases b)
  |(go_at_call 6;refine (HKN.out _).mono ?_;rintro e w9 ⟨rfl,hb9⟩;have HB9:=hD hb9;clear hb9))
 ·go_ret;exact ⟨rfl,HW1.out.trans (HB9.out.mono HW1.out.size)⟩
 ·refine (HOWN.out _ HW1.out (HS.out trivial)).mono ?_;rintro e w2 ⟨⟨r,v,f,m,fs,rfl,ho⟩,hb2⟩;obtain ⟨k,rfl,rfl,rfl,rfl,hk⟩:=ho.ks;have HO:=hD ho;have HB2:=hD hb2;clear ho hk hb2;have HG2:Hid (GBox w2 w.heap.size s):=(HB2.out.block _ (lt_some HG1.out)).trans HG1.out;have HX2:Hid (Bx w2 (w.heap.size+1) [.int .i64 x.port, .slice q.rp q.rn q.rc, .slice q.vp q.vn q.vc, .slice q.fp q.fn q.fc, .slice q.mp q.mn q.mc, .bool x.dropped, .bool x.sent, .int .i64 x.egress, .bool x.access]):=(HB2.out.block _ (lt_some HX1.out)).trans HX1.out;have HW2:Hid (Below w.heap.size w w2):=HW1.out.trans (HB2.out.mono HW1.out.size);clear q0 q1 q2 q3 q4 q5 q6 q7 q8 q9 q10 q11 a0 a1 a2 a3 a4 a5 a6 a7 a8;obtain ⟨q0,q1,q2,q3,q4,q5,q6,q7,q8,q9,q10,q11⟩:=HG2.out.cells;obtain ⟨a0,a1,a2,a3,a4,a5,a6,a7,a8⟩:=HX2.out.c9;go_upto_region 4 with fail
  have hs:=HS.out trivial;have HYK:=hD (HYO.out hs);obtain ⟨W4,hW4⟩:∃W4,W4=w2.alloc (.cells #[.int .i64 x.port, .slice k.rp k.rn k.rc, .slice k.vp k.vn k.vc, .slice k.fp k.fn k.fc, .slice k.mp k.mn k.mc, .bool x.dropped, .bool x.sent, .int .i64 x.egress, .bool x.access] 40):=⟨_,rfl⟩;have HB4:Hid (Below w2.heap.size w2 W4):=by show Below _ _ _;rw[hW4];exact (Below.refl _ _).alloc (Nat.le_refl _) _
  have HX4:Hid (W4.heap[w2.heap.size]?=some (.cells #[.int .i64 x.port, .slice k.rp k.rn k.rc, .slice k.vp k.vn k.vc, .slice k.fp k.fn k.fc, .slice k.mp k.mn k.mc, .bool x.dropped, .bool x.sent, .int .i64 x.egress, .bool x.access] 40 (0,0))):=by show _=_;rw[hW4];exact heap_new _ _
  have HW4:Hid (Below w.heap.size w W4):=HW2.out.trans (HB4.out.mono HW2.out.size);rw[<- hW4];clear hW4;have HO4:Hid (PktO w1.heap.size W4 x (.slice k.rp k.rn k.rc) (.slice k.vp k.vn k.vc) (.slice k.fp k.fn k.fc) (.slice k.mp k.mn k.mc) fs):=HO.out.far fun j h1 h2=>HB4.out.block j h2
  have HP4:Hid (PktB w1.heap.size W4 w2.heap.size x (.slice k.rp k.rn k.rc) (.slice k.vp k.vn k.vc) (.slice k.fp k.fn k.fc) (.slice k.mp k.mn k.mc) fs):=HO4.out.boxed HX4.out HB2.out.size (fun z hz e=>by have:=(HO.out.blk z hz _ e).2;omega);have HW1s:Hid (w.heap.size<=w1.heap.size/\w.heap.size+1<w1.heap.size):=⟨HW1.out.size,by have:=HB1.out.size;have:=HZ0.out;omega⟩;have HG4:Hid (GBox W4 w.heap.size s):=(HB4.out.block _ (lt_some HG2.out)).trans HG2.out;have HX4b:Hid (Bx W4 (w.heap.size+1) [.int .i64 x.port, .slice q.rp q.rn q.rc, .slice q.vp q.vn q.vc, .slice q.fp q.fn q.fc, .slice q.mp q.mn q.mc, .bool x.dropped, .bool x.sent, .int .i64 x.egress, .bool x.access]):=(HB4.out.block _ (lt_some HX2.out)).trans HX2.out;have HRC:Hid (Calls Tryz.prog 8 #[.agg #[.slice s.hp s.hn s.hc, .slice s.mp s.mn s.mc, .slice s.sp s.sn s.sc, .slice s.ap s.an s.ac, .slice s.tp s.tn s.tc, .slice s.cp s.cn s.cc, .slice s.ep s.en s.ec, .slice s.v1 s.n1 s.c1, .slice s.v2 s.n2 s.c2, .slice s.v3 s.n3 s.c3, .slice s.v4 s.n4 s.c4, .slice s.v5 s.n5 s.c5], .slice lp ln lc, .pointer (some ⟨w2.heap.size,0,none⟩), .slice s.cp s.cn s.cc, .slice none 0 0] W4 fun e w'=>e= .returned (.tuple #[])/\PktB w1.heap.size w' w2.heap.size Y (.slice k.rp k.rn k.rc) (.slice k.vp k.vn k.vc) (.slice k.fp k.fn k.fc) (.slice k.mp k.mn k.mc) fs/\Fr (PS w2.heap.size (.slice k.rp k.rn k.rc) (.slice k.vp k.vn k.vc) (.slice k.fp k.fn k.fc) (.slice k.mp k.mn k.mc) fs) W4 w'):=HRUN.out W4 w2.heap.size w1.heap.size _ _ _ _ fs HW4.out HW1s.out.1 hs HP4.out;have HPB:Hid (∀ j,PS w2.heap.size (.slice k.rp k.rn k.rc) (.slice k.vp k.vn k.vc) (.slice k.fp k.fn k.fc) (.slice k.mp k.mn k.mc) fs j->w1.heap.size<=j):=fun j hj=>(HP4.out.blk hj).1
  clear q0 q1 q2 q3 q4 q5 q6 q7 q8 q9 q10 q11 a0 a1 a2 a3 a4 a5 a6 a7 a8 hs;obtain ⟨q0,q1,q2,q3,q4,q5,q6,q7,q8,q9,q10,q11⟩:=HG4.out.cells;generalize w2.heap.size=X at*;go_upto_region 5 with (go_at_call 8;refine HRC.out.mono ?_;rintro e w5 ⟨rfl,hp5,hf5⟩;have HP5:=hD hp5;have HF5:=hD hf5;clear hp5 hf5)
  have HG5:Hid (GBox w5 w.heap.size s):=(HF5.out.block _ (lt_some HG4.out) (fun e=>by have:=HPB.out _ e;have:=HW1s.out.2;omega)).trans HG4.out;have HX5:Hid (Bx w5 (w.heap.size+1) [.int .i64 x.port, .slice q.rp q.rn q.rc, .slice q.vp q.vn q.vc, .slice q.fp q.fn q.fc, .slice q.mp q.mn q.mc, .bool x.dropped, .bool x.sent, .int .i64 x.egress, .bool x.access]):=(HF5.out.block _ (lt_some HX4b.out) (fun e=>by have:=HPB.out _ e;have:=HW1s.out.2;omega)).trans HX4b.out;have HW5:Hid (Below w.heap.size w w5):=HW4.out.trans (HF5.out.below HW4.out.size fun j hj=>by have:=HPB.out j hj;have:=HW1s.out.1;omega);have HK5:Hid (KOk w5 k Y):=by
   obtain ⟨k',e1,e2,e3,e4,hk'⟩:=HP5.out.toO.ks;exact hk'.same e1 e2 e3 e4
  have HFC:Hid (Calls Tryz.prog 13 #[.agg #[.slice s.hp s.hn s.hc, .slice s.mp s.mn s.mc, .slice s.sp s.sn s.sc, .slice s.ap s.an s.ac, .slice s.tp s.tn s.tc, .slice s.cp s.cn s.cc, .slice s.ep s.en s.ec, .slice s.v1 s.n1 s.c1, .slice s.v2 s.n2 s.c2, .slice s.v3 s.n3 s.c3, .slice s.v4 s.n4 s.c4, .slice s.v5 s.n5 s.c5], .agg #[.int .i64 Y.port, .slice k.rp k.rn k.rc, .slice k.vp k.vn k.vc, .slice k.fp k.fn k.fc, .slice k.mp k.mn k.mc, .bool Y.dropped, .bool Y.sent, .int .i64 Y.egress, .bool Y.access]] w5 fun e w'=>e= .returned (.bool true)/\Below w5.heap.size w5 w'):=by
   have:=HFI.out w5 k Y HW5.out (HS.out trivial) HK5.out;rw[HYK.out.fits] at this;exact this
  clear q0 q1 q2 q3 q4 q5 q6 q7 q8 q9 q10 q11;obtain ⟨q0,q1,q2,q3,q4,q5,q6,q7,q8,q9,q10,q11⟩:=HG5.out.cells;obtain ⟨y0,y1,y2,y3,y4,y5,y6,y7,y8⟩:=HP5.out.c9;go_wp2_with (first
   |(go_at_call 13;refine HFC.out.mono ?_;rintro e w6 ⟨rfl,hb6⟩;have HB6:=hD hb6;clear hb6;have HP6:Hid (PktB w1.heap.size w6 X Y (.slice k.rp k.rn k.rc) (.slice k.vp k.vn k.vc) (.slice k.fp k.fn k.fc) (.slice k.mp k.mn k.mc) fs):=HP5.out.below HB6.out;have HX6:Hid (Bx w6 (w.heap.size+1) [.int .i64 x.port, .slice q.rp q.rn q.rc, .slice q.vp q.vn q.vc, .slice q.fp q.fn q.fc, .slice q.mp q.mn q.mc, .bool x.dropped, .bool x.sent, .int .i64 x.egress, .bool x.access]):=(HB6.out.block _ (lt_some HX5.out)).trans HX5.out;have HW6:Hid (Below w.heap.size w w6):=HW5.out.trans (HB6.out.mono HW5.out.size);clear q0 q1 q2 q3 q4 q5 q6 q7 q8 q9 q10 q11 y0 y1 y2 y3 y4 y5 y6 y7 y8;have y0:=HP6.out.cell (i:=0) rfl;have y1:=HP6.out.cell (i:=1) rfl;have y6:=HP6.out.cell (i:=6) rfl;have y7:=HP6.out.cell (i:=7) rfl;have y8:=HP6.out.cell (i:=8) rfl;have a0:=HX6.out.cell (i:=0) rfl;have a1:=HX6.out.cell (i:=1) rfl;have a6:=HX6.out.cell (i:=6) rfl;have a7:=HX6.out.cell (i:=7) rfl;have a8:=HX6.out.cell (i:=8) rfl;have k1:=uconv (HK5.out.below HB6.out).r;have k2:=uconv (HQ.out.below HW6.out).r;rw[HYK.out.rest] at k1;rw[HYK.out.port] at y0)
   |(go_at_call 6;refine (HKN.out _).mono ?_;rintro e w9 ⟨rfl,hb9⟩;have HB9:=hD hb9;clear hb9))
  all_goals first
   |(go_ret;exact ⟨rfl,HW6.out.trans (HB9.out.mono HW6.out.size)⟩)
   |(exfalso;have h1:=HYK.out.sent;have h2:=HYK.out.acc;have h3:=HYK.out.goes;clear HB9;first|(simp_all;done)|(simp_all;omega))
   |(exfalso;have h1:=HYK.out.sent;have h2:=HYK.out.acc;have h3:=HYK.out.goes;first|(simp_all;done)|(simp_all;omega))
end Go.Proofs.YtjfhfaodbjecdaaGreat
