/- Lemmas. -/
import Derived.Test.YtikilcbpogfgkaaGreatJI44
set_option maxHeartbeats 12800000
set_option maxRecDepth 100000
namespace Go.Proofs.YtikilcbpogfgkaaGreat
open Go.RowKit Stab
variable {n:Net} {e:Ed} {W:World} {k:Nat} {s:TrS}
theorem great23_any (s:PgS) (p:Prg) (ls:List (List Ent)) (lp:Option Addr) (ln lc:Nat) (w:World) (hp:PgOk w s p) (hL:Lm p) (hl:EsRow w (.slice lp ln lc) ls):
 Calls Tryz.prog 30 #[pgV s, .slice lp ln lc] w fun e w'=>AnsB (fun b=>b=false->greatN p<=6000/\(∀ x∈ls,x.length<=40)/\ls.length<=8) e/\Bl w w':=by
 obtain ⟨G,hG⟩:=nm (decide (6000<greatN p));have HG:=hD hG;have HGR:Hd (∀ W,Bl w W->CR 44 #[pgV s] W (.bool G)):=fun W h=>by rw[hG];exact great10_any s p W (hp.below h) hL
 have HP:=hD hp;have HN:Hd (s.an=p.acts.length/\ln=ls.length):=⟨hp.acts.ln.1,hl.ln.1⟩;have han:s.an<=1048576:=by have:=hp.acts.ln.1;have:=hL.acts;omega
 have HLS:=hD hl;have hmx:ln<=9223372036854775807:=by obtain ⟨h1,h2,h3,-⟩:=hl.ln;unfold maxLen at h3;omega
 clear hp hL hl hG;unfold pgV at HGR⊢;go_enter Tryz.func30,Tryz.ntmps30;go_upto_region 1 with fail;obtain ⟨W0,hW0⟩:=nm (w.alloc (.cells (pA s) 33));have HB0:Hd (Bl w W0):=by show Below _ _ _;rw[hW0];exact bL
 have HPB:Hd (PBox W0 w.heap.size s):=by show _=_;rw[hW0];exact heap_new _ _
 rw[<- hW0];clear hW0;obtain ⟨q0,q1,q2,q3,q4,q5,q6,q7,q8,q9,q10,q11⟩:=HPB.o.cells;go_wp2_with fail;clear q0 q1 q2 q3 q4 q5 q6 q7 q8 q9 q10 q11;go_loopw [5,7,16] (fun z u i wr=>∃(k:Nat) (n:Int),k<=s.an/\i= .int .i64 k/\z= .int .i64 n/\Hd (Bl W0 wr)) (fun _ _ i _=>s.an-(intOf i).toNat)
 case atStart=>exact ⟨0,_,zl,rfl,rfl,Below.refl _ _⟩
 case round=>
  obtain ⟨k,n,hk,rfl,rfl,HW⟩:=hrel;by_cases hlt:k<s.an
  ·have hki:(k:Int)<(s.an:Int):=om;have hbw:=HB0.o.trans (HW.o.mono HB0.o.size);obtain ⟨a,ha⟩:∃a,p.acts[k]?=some a:=⟨_,gE_ (by have:=HN.o.1;omega)⟩;obtain ⟨b,o,hps,hb,⟨p1,n1,c1,y1,hy1⟩,⟨p2,n2,c2,y2,hy2⟩⟩:=(HP.o.acts.below keepActn hbw).get ha;have HB1:Hd (Bl W0 (wr.alloc (.cells #[.slice p1 n1 c1, .slice p2 n2 c2] 110))):=HW.o.alloc HW.o.size _;rw[hps];clear hbw ha hps hy1 hy2;go_wp2_with fail;go_roundw
   case rel=>exact ⟨k+1,_,om,by go_num,rfl,HB1.o⟩
   case measure=>exact mz
  obtain rfl:k=s.an:=om;have hki:¬(s.an:Int)<(s.an:Int):=om;have HB2:Hd (Bl W0 wr):=HW.o;clear HW hki hlt hk;go_wp2_with fail;go_loopw [28] (fun i wq=>∃k:Nat,k<=ln/\i= .int .i64 (k:Int)/\Hd (∀ j x,j<k->ls[j]?=some x->x.length<=40)/\Hd (Bl W0 wq)) (fun i _=>ln-(intOf i).toNat)
  case atStart=>exact ⟨0,zl,rfl,fun j x hj=>absurd hj (Nat.not_lt_zero _),HB2.o⟩
  case round=>
   obtain ⟨k,hk,rfl,HI,HB2⟩:=hrel;by_cases hlt:k<ln
   ·have hki:(k:Int)<(ln:Int):=om;obtain ⟨x,hx⟩:∃x,ls[k]?=some x:=⟨_,gE_ (by have:=HN.o.2;omega)⟩;obtain ⟨b,o,hps,hb,p1,n1,c1,y0,hy⟩:=(HLS.o.below keepEs (HB0.o.trans (HB2.o.mono HB0.o.size))).get hx;rw[Nat.mul_one] at y0;have HNX:Hd (n1=x.length):=hy.ln.1;have HX:=hD hx;clear hx hy;subst hps;by_cases h40:(40:Int)<(n1:Int)
    ·go_wp2_with fail;go_ret;exact ⟨⟨_,rfl,fun h=>by cases h⟩,HB0.o.trans (HB2.o.mono HB0.o.size)⟩
    go_wp2_with fail;go_roundw
    case rel=>exact ⟨k+1,om,by go_num,fun j z hj hz=>by
     by_cases e:j=k
     ·subst e;have:=HX.o;rw[hz] at this;cases this;have:=HNX.o;omega
     ·exact HI.o j z om hz,HB2.o⟩
    case measure=>exact mz
   obtain rfl:ln=k:=om;have hki:¬(ln:Int)<(ln:Int):=om;have HALL:Hd (∀ x∈ls,x.length<=40):=fun x hx=>by
    obtain ⟨j,hj,e⟩:=List.getElem_of_mem hx;exact HI.o j x (by have:=HN.o.2;omega) ((gE_ hj).trans (congrArg some e))
   obtain ⟨q0,q1,q2,q3,q4,q5,q6,q7,q8,q9,q10,q11⟩:=(HPB.o.below HB2.o).cells;have HBW:=hD (HB0.o.trans (HB2.o.mono HB0.o.size));have hcase:(G=true)\/(G=false/\(200<n\/(¬ 200<n/\8<(ln:Int))\/(¬ 200<n/\¬8<(ln:Int)))):=by
    cases G
    ·exact .inr ⟨rfl,om⟩
    ·exact .inl rfl
   rcases hcase with rfl|⟨rfl,g1|⟨g1,g2⟩|⟨g1,g2⟩⟩
   all_goals
    go_wp2_with (go_at_call 44;(with_reducible refine (HGR.o _ HBW.o).mono ?_);rintro e w1 ⟨rfl,hb1⟩;have HB1:=hD hb1;clear hb1);go_ret;exact ⟨⟨_,rfl,fun h=>by first|cases h|(have h1:=HG.o;have h2:=HN.o.2;exact ⟨Nat.le_of_not_lt (of_decide_eq_false h1.symm),HALL.o,om⟩)|(exfalso;simp at h;omega)⟩,HBW.o.trans (HB1.o.mono HBW.o.size)⟩
structure Seen3 (p:Prg) (ls:List (List Ent)) (nt:Net) (n:Nat):Prop where
 great:greatN p<=6000
 many:∀x∈ls,x.length<=40
 eight:ls.length<=8
 may:mayP p=true
 ents:∀x∈ls,∀y∈x,EntOk p y
 net:NtMay nt
 rest:n<=64
 len:ls.length=nt.sws.length
theorem may23_any (s:PgS) (p:Prg) (ls:List (List Ent)) (lp:Option Addr) (ln lc:Nat) (t:NtS) (nt:Net) (bp:Option Addr) (n bc:Nat) (w:World) (hp:PgOk w s p) (hL:Lm p) (hl:EsRow w (.slice lp ln lc) ls) (hla:∀x∈ls,∀y∈x,y.args.length<=1000000) (hn:NtOk w t nt) (hln:nt.links.length<=1048576):
 Calls Tryz.prog 11 #[pgV s, .slice lp ln lc,ntV t, .slice bp n bc] w fun e w'=>AnsB (fun b=>b=true->Seen3 p ls nt n) e/\Bl w w':=by
 have HGR:=hD (fun W (h:Bl w W)=>great23_any s p ls lp ln lc W (hp.below h) hL (hl.below keepEs h));have HM19:=hD (fun W (h:Bl w W) (hg:greatN p<=6000)=>may19_any s p W (hp.below h) (Sm.of hg));obtain ⟨rm,hrm⟩:=nm (mayP p);have HM10:Hd (∀ W,Bl w W->greatN p<=6000->CR 20 #[pgV s] W (.bool rm)):=fun W h hg=>by rw[hrm];exact may10_any s p W (hp.below h) (Sm.of hg)
 have HM12:Hd (∀ W l q c1 c2,Bl w W->greatN p<=6000->mayP p=true->ERow W (.slice q c1 c2) l->(∀ y∈l,y.args.length<=1000000)->Calls Tryz.prog 21 #[pgV s, .slice q c1 c2] W fun e w'=>AnsB (fun b=>b=true->∀x∈l,EntOk p x) e/\Bl W w'):=fun W l q c1 c2 h hg hm hr ha=>may12_any s p l q c1 c2 W (hp.below h) (Sm.of hg) hm hr ha
 have HM13:=hD (fun W (h:Bl w W)=>may13_any t nt W (hn.below h) hln);have HRM:=hD hrm;have HLS:=hD hl;have HLA:=hD hla;have HNS:Hd (t.sn=nt.sws.length/\ln=ls.length):=⟨hn.sws.ln.1,hl.ln.1⟩;have hmx:ln<=9223372036854775807:=by obtain ⟨h1,h2,h3,-⟩:=hl.ln;unfold maxLen at h3;omega
 clear hp hL hl hla hrm hn hln;unfold pgV at HGR HM19 HM10 HM12⊢;unfold ntV at HM13⊢;go_enter Tryz.func11,Tryz.ntmps11;go_upto_region 1 with fail;obtain ⟨W0,hW0⟩:=nm ((w.alloc (.cells (pA s) 33)).alloc (.cells #[.slice t.sp t.sn t.sc, .slice t.pp t.pn t.pc, .slice t.lp t.ln t.lc] 52));have HB0:Hd (Bl w W0):=by show Below _ _ _;rw[hW0];exact bL
 have HPB:Hd (PBox W0 w.heap.size s):=by show _=_;rw[hW0,Below.heap_alloc _ _ _ sm];exact heap_new _ _
 have HNB:Hd (NetX W0 (w.heap.size+1) (.slice t.sp t.sn t.sc) (.slice t.pp t.pn t.pc) (.slice t.lp t.ln t.lc)):=by
  exact gZ
 rw[<- hW0];clear hW0;have HCE:Hd (∀ W,Bl W0 W->PBox W w.heap.size s/\NetX W (w.heap.size+1) (.slice t.sp t.sn t.sc) (.slice t.pp t.pn t.pc) (.slice t.lp t.ln t.lc)):=fun W h=>⟨HPB.o.below h,HNB.o.below h⟩
 obtain ⟨q0,q1,q2,q3,q4,q5,q6,q7,q8,q9,q10,q11⟩:=HPB.o.cells;obtain ⟨u0,u1,u2⟩:=HNB.o.cells;have HC0:Hd (Bl W0 W0):=Below.refl _ _;by_cases h64:(64:Int)<(n:Int)
 ·exact gG
 by_cases hne:(ln:Int)=(t.sn:Int);rotate_left
 ·have hnb:((ln:Int)!=(t.sn:Int))=true:=by simpa using hne
  exact gG
 have hnb:((ln:Int)!=(t.sn:Int))=false:=by simp[hne]
 go_upto_region 3 with (first
  |(go_at_call 30;(with_reducible refine (HGR.o _ HB0.o).mono ?_);rintro e w1 ⟨⟨b1,rfl,ha1⟩,hb1⟩;have HB1:=hD (HB0.o.trans (hb1.mono HB0.o.size));have HC1:=hD (HC0.o.trans (hb1.mono HC0.o.size));have HA1:=hD ha1;clear ha1;clear hb1;clear q0 q1 q2 q3 q4 q5 q6 q7 q8 q9 q10 q11 u0 u1 u2;obtain ⟨q0,q1,q2,q3,q4,q5,q6,q7,q8,q9,q10,q11⟩:=(HCE.o w1 HC1.o).1.cells;obtain ⟨u0,u1,u2⟩:=(HCE.o w1 HC1.o).2.cells;cases b1)
  |(go_at_call 19;(with_reducible refine (HM19.o _ HB1.o (HA1.o (by trivial)).1).mono ?_);rintro e w2 ⟨⟨b2,rfl,-⟩,hb2⟩;have HB2:=hD (HB1.o.trans (hb2.mono HB1.o.size));have HC2:=hD (HC1.o.trans (hb2.mono HC1.o.size));clear hb2;clear q0 q1 q2 q3 q4 q5 q6 q7 q8 q9 q10 q11 u0 u1 u2;obtain ⟨q0,q1,q2,q3,q4,q5,q6,q7,q8,q9,q10,q11⟩:=(HCE.o w2 HC2.o).1.cells;obtain ⟨u0,u1,u2⟩:=(HCE.o w2 HC2.o).2.cells;cases b2)
  |(go_at_call 20;(with_reducible refine (HM10.o _ HB2.o (HA1.o (by trivial)).1).mono ?_);rintro e w3 ⟨rfl,hb3⟩;have HB3:=hD (HB2.o.trans (hb3.mono HB2.o.size));have HC3:=hD (HC2.o.trans (hb3.mono HC2.o.size));clear hb3;clear q0 q1 q2 q3 q4 q5 q6 q7 q8 q9 q10 q11 u0 u1 u2;obtain ⟨q0,q1,q2,q3,q4,q5,q6,q7,q8,q9,q10,q11⟩:=(HCE.o w3 HC3.o).1.cells;obtain ⟨u0,u1,u2⟩:=(HCE.o w3 HC3.o).2.cells;cases rm)
  |(go_at_call 31;(with_reducible refine (HM13.o _ HB3.o).mono ?_);rintro e w4 ⟨⟨b4,rfl,ha4⟩,hb4⟩;have HB4:=hD (HB3.o.trans (hb4.mono HB3.o.size));have HC4:=hD (HC3.o.trans (hb4.mono HC3.o.size));have HA4:=hD ha4;clear ha4;clear hb4;clear q0 q1 q2 q3 q4 q5 q6 q7 q8 q9 q10 q11 u0 u1 u2;obtain ⟨q0,q1,q2,q3,q4,q5,q6,q7,q8,q9,q10,q11⟩:=(HCE.o w4 HC4.o).1.cells;obtain ⟨u0,u1,u2⟩:=(HCE.o w4 HC4.o).2.cells;cases b4))
 all_goals try (go_ret;exact ⟨⟨_,rfl,fun h=>by cases h⟩,by first|exact HB4.o|exact HB3.o|exact HB2.o|exact HB1.o⟩)
 have HGM:Hd (greatN p<=6000/\(∀ x∈ls,x.length<=40)/\ls.length<=8):=HA1.o trivial;have HNT:Hd (NtMay nt):=HA4.o trivial;clear HA1 HA4 q0 q1 q2 q3 q4 q5 q6 q7 q8 q9 q10 q11 u0 u1 u2 HM10 HM13 HGR HM19 HB1 HB2 HB3 HC1 HC2 HC3;go_wp2_with fail;go_loopw [44] (fun i wq=>∃k:Nat,k<=ln/\i= .int .i64 (k:Int)/\Hd (∀ j x,j<k->ls[j]?=some x->∀y∈x,EntOk p y)/\Hd (Bl W0 wq)) (fun i _=>ln-(intOf i).toNat)
 case atStart=>exact ⟨0,zl,rfl,fun j x hj=>absurd hj (Nat.not_lt_zero _),HC4.o⟩
 case round=>
  obtain ⟨k,hk,rfl,HI,HC5⟩:=hrel;have HB5:=hD (HB0.o.trans (HC5.o.mono HB0.o.size));by_cases hlt:k<ln
  ·have hki:(k:Int)<(ln:Int):=om;obtain ⟨x,hx⟩:∃x,ls[k]?=some x:=⟨_,gE_ (by have:=HNS.o.2;omega)⟩;obtain ⟨b,o,hps,hb,p1,n1,c1,y0,hy⟩:=(HLS.o.below keepEs HB5.o).get hx;rw[Nat.mul_one] at y0;have HM:=hD (HM12.o wr x p1 n1 c1 HB5.o HGM.o.1 HRM.o.symm hy (HLA.o x (gM_ hx)));have HX:=hD hx;clear hx hy;subst hps;obtain ⟨q0,q1,q2,q3,q4,q5,q6,q7,q8,q9,q10,q11⟩:=(HCE.o wr HC5.o).1.cells;go_wp2_with (go_at_call 21;(with_reducible refine HM.o.mono ?_);rintro e w6 ⟨⟨b6,rfl,ha6⟩,hb6⟩;have HB6:=hD (HB5.o.trans (hb6.mono HB5.o.size));have HC6:=hD (HC5.o.trans (hb6.mono HC5.o.size));have HA6:=hD ha6;clear hb6 ha6;cases b6)
   ·go_ret;exact ⟨⟨_,rfl,fun h=>by cases h⟩,HB6.o⟩
   go_roundw
   case rel=>exact ⟨k+1,om,by go_num,fun j z hj hz=>by
    by_cases e:j=k
    ·subst e;have:=HX.o;rw[hz] at this;cases this;exact HA6.o trivial
    ·exact HI.o j z om hz,HC6.o⟩
   case measure=>exact mz
  obtain rfl:ln=k:=om;have hki:¬(ln:Int)<(ln:Int):=om;go_wp2_with fail;go_ret;refine ⟨⟨_,rfl,fun _=>⟨HGM.o.1,HGM.o.2.1,HGM.o.2.2,HRM.o.symm,fun x hx=>?_,HNT.o,om,by have:=HNS.o;omega⟩⟩,HB5.o⟩;obtain ⟨j,hj,e⟩:=List.getElem_of_mem hx;exact HI.o j x (by have:=HNS.o.2;omega) ((gE_ hj).trans (congrArg some e))
open Go.RowKit
theorem walk_acc (p:Prg) (ls:List (List Ent)) (n:Net):∀(k:Nat) (e:Ed) (xs:List Int) (hs:List Hp) (acc:Bool),walkF p ls n k e xs hs acc=⟨hs++(walkF p ls n k e xs [] false).hops,(walkF p ls n k e xs [] false).how,(walkF p ls n k e xs [] false).at_,(walkF p ls n k e xs [] false).b,acc||(walkF p ls n k e xs [] false).acc⟩
 |0,e,xs,hs,acc=>by simp[walkF]
 |k+1,e,xs,hs,acc=>by
  simp only[walkF];split
  ·simp
  ·split
   ·simp
   ·split
    ·simp
    ·rw[walk_acc p ls n k _ _ (hs++[(⟨e,xs⟩:Hp)]),walk_acc p ls n k _ _ ([]++[(⟨e,xs⟩:Hp)])];simp[Bool.or_assoc]
theorem walk_one (p:Prg) (ls:List (List Ent)) (n:Net) (e:Ed) (xs:List Int):(walkF p ls n 1 e xs [] false).hops=[⟨e,xs⟩]:=by
 simp only[walkF];split
 ·rfl
 split
 ·rfl
 rw[if_pos (.inl trivial)];rfl
structure WM (p:Prg) (ls:List (List Ent)) (n:Net) (k:Nat) (S T:Trc):Prop where
 l1:1<=S.hops.length
 l2:S.hops.length<=k
 same:S.how≠3->T=S
 more:S.how=3->S.hops.length=k/\T=⟨S.hops++[⟨S.at_,S.b⟩],(walkF p ls n 1 S.at_ S.b [] false).how,(walkF p ls n 1 S.at_ S.b [] false).at_,(walkF p ls n 1 S.at_ S.b [] false).b,S.acc||(walkF p ls n 1 S.at_ S.b [] false).acc⟩
 next:S.how=3->(∃ e,(nextT n e).2.2=true/\S.at_=(nextT n e).1)/\S.b.length<=64
theorem walk_more (p:Prg) (ls:List (List Ent)) (n:Net) (hk:∀l∈ls,PaOk p l) (hr:∀e,(nextT n e).2.2=true->0<=(nextT n e).1.sw/\(nextT n e).1.sw<(ls.length:Int)):∀(k:Nat) (e:Ed) (xs:List Int),0<=e.sw->e.sw<(ls.length:Int)->WM p ls n (k+1) (walkF p ls n (k+1) e xs [] false) (walkF p ls n (k+2) e xs [] false)
 |k,e,xs,h0,h1=>by
  have hm:ls.getD e.sw.toNat []∈ls:=by
   have hlt:e.sw.toNat<ls.length:=om
   rw[List.getD_eq_getElem?_getD,gE_ hlt,Option.getD_some];exact List.getElem_mem hlt
  have hg:=(gn_ok (hk _ hm) e.port xs).o;obtain ⟨g,hgg⟩:=nm (passP p (ls.getD e.sw.toNat []) e.port xs);rw[<- hgg] at hg;obtain ⟨nx,hnx⟩:=nm (nextT n ⟨e.sw,g.port⟩);have hrr:=hr ⟨e.sw,g.port⟩;rw[<- hnx] at hrr;have e1:∀m,walkF p ls n (m+1) e xs [] false=if g.o=false\/nx.2.1=false then ⟨[⟨e,xs⟩],2,⟨0,0⟩,[],g.access⟩ else if nx.2.2=false then ⟨[⟨e,xs⟩],1,⟨e.sw,g.port⟩,g.b,g.access⟩ else if m=0\/nx.1.sw<0\/(ls.length:Int)<=nx.1.sw then ⟨[⟨e,xs⟩],3,nx.1,g.b,g.access⟩ else walkF p ls n m nx.1 g.b [⟨e,xs⟩] g.access:=fun m=>by
   simp only[walkF];rw[<- hgg, <-hnx];simp only[List.nil_append,Bool.false_or]
  have eA:=e1 k;have eB:=e1 (k+1);by_cases c1:g.o=false\/nx.2.1=false
  ·rw[if_pos c1] at eA eB;rw[eA,eB];exact ⟨Nat.le_refl _,by show 1<=k+1;omega,fun _=>rfl,(fun h=>by cases h),(fun h=>by cases h)⟩
  rw[if_neg c1] at eA eB;by_cases c2:nx.2.2=false
  ·rw[if_pos c2] at eA eB;rw[eA,eB];exact ⟨Nat.le_refl _,by show 1<=k+1;omega,fun _=>rfl,(fun h=>by cases h),(fun h=>by cases h)⟩
  rw[if_neg c2] at eA eB;have hn2:nx.2.2=true:=by revert c2;cases nx.2.2<;>simp
  obtain ⟨r1,r2⟩:=hrr hn2;have hgo:g.o=true:=by cases h:g.o<;>simp[h] at c1⊢
  have hgl:=(hg hgo).2.2.1;rw[if_neg om] at eB;cases k with
  |zero=>
   rw[if_pos (.inl rfl)] at eA;rw[walk_acc p ls n _ nx.1] at eB;rw[eA,eB];refine ⟨Nat.le_refl _,Nat.le_refl _,fun h=>absurd rfl h,fun _=>⟨rfl,?_⟩,fun _=>⟨⟨_,hnx ▸ hn2,by rw[hnx]⟩,hgl⟩⟩;rw[walk_one]
  |succ k=>
   rw[if_neg om,walk_acc p ls n _ nx.1] at eA;rw[walk_acc p ls n _ nx.1] at eB;have ih:=walk_more p ls n hk hr k nx.1 g.b r1 r2;obtain ⟨i1,i2,i3,i4,i5⟩:=ih;generalize walkF p ls n (k+1) nx.1 g.b [] false=S at*;generalize walkF p ls n (k+2) nx.1 g.b [] false=T at*;rw[eA,eB];refine ⟨by simp,by simp only[List.length_append,List.length_cons,List.length_nil];omega,fun h=>?_,fun h=>?_,fun h=>i5 h⟩
   ·rw[i3 h]
   ·obtain ⟨j1,j2⟩:=i4 h;refine ⟨by simp only[List.length_append,List.length_cons,List.length_nil];omega,?_⟩;rw[j2];simp[Bool.or_assoc]
theorem next_there (hl:∀q∈n.links,ntThere n q.a=true/\ntThere n q.b=true) (h:(nextT n e).2.2=true):ntThere n (nextT n e).1=true:=by
 have key:∀(l:List Lnk) (x:Ed),(∀ q∈l,q∈n.links)->linkP e l=some x->ntThere n x=true:=by
  intro l;induction l with
  |nil=>intro x _ hx;cases hx
  |cons q l ih=>
   intro x hq hx;unfold linkP at hx;have hm:=hl q (hq q (List.mem_cons_self ..));split at hx
   ·cases hx;exact hm.2
   split at hx
   ·cases hx;exact hm.1
   exact ih x (fun r hr=>hq r (List.mem_cons_of_mem _ hr)) hx
 unfold nextT at h⊢;split
 ·rename_i ht;rw[if_pos ht] at h;split
  ·rename_i x hx;exact key n.links x (fun q hq=>hq) hx
  rename_i hx;rw[hx] at h;cases h
 rename_i ht;rw[if_neg ht] at h;cases h
theorem there_next (h:ntThere n e=true):(nextT n e).2.1=true:=by
 unfold nextT;rw[if_pos h];split<;>rfl
theorem there_of (h:(nextT n e).2.1=true):ntThere n e=true:=by
 unfold nextT at h;split at h
 ·assumption
 cases h
theorem there_in (h:ntThere n e=true):0<=e.sw/\e.sw<(n.ports.length:Int):=by
 unfold ntThere at h;rw[Bool.and_eq_true,decide_eq_true_eq] at h;exact h.1
theorem sm_of (hp:∀j,j<n.ports.length->∀x∈n.ports.getD j [],1<=x/\x<=511) (hl:∀q∈n.links,ntThere n q.a=true/\ntThere n q.b=true):NtSm n:=by
 have h1:∀l∈n.ports,∀x∈l,0<=x/\x<=511:=fun l hl x hx=>by
  obtain ⟨j,hj,e⟩:=List.getElem_of_mem hl;have:=hp j hj x (by rw[List.getD_eq_getElem?_getD,gE_ hj,Option.getD_some,e];exact hx);omega
 have hq:∀e,ntThere n e=true->0<=e.port/\e.port<=511:=fun e ht=>by
  have hi:=there_in ht;unfold ntThere at ht;rw[Bool.and_eq_true] at ht;have hlt:e.sw.toNat<n.ports.length:=om
  have h3:=ht.2;rw[List.getD_eq_getElem?_getD,gE_ hlt,Option.getD_some] at h3;exact h1 _ (List.getElem_mem hlt) _ (by simpa using h3)
 exact ⟨h1,fun l h=>⟨hq _ (hl l h).1,hq _ (hl l h).2⟩⟩
open Go.RowKit
theorem neqE (a b:Int) (W:World):(Go.binOp .neq 54 (.agg #[.int .i64 a, .int .i64 b]) (.agg #[.int .i64 a, .int .i64 b])).run Tryz.prog W= .ok (.bool false) W:=by simp[go_sem]
theorem hop_at {p:Option Addr} {n c:Nat} {l:List Hp} (h:HpRow W (.slice p n c) l) {x:Hp} (hx:l[k]?=some x):∃b o q m d,p=some ⟨b,o,none⟩/\b<W.heap.size/\W.cell? ⟨b,o+k*3,none⟩=some (.int .i64 x.e.sw)/\W.cell? ⟨b,o+k*3+1,none⟩=some (.int .i64 x.e.port)/\W.cell? ⟨b,o+k*3+2,none⟩=some (.slice q m d)/\URow W (.slice q m d) x.b:=by
 obtain ⟨b,o,e,hb,h1,h2,q,m,d,h3,h4⟩:=h.get hx;exact ⟨b,o,q,m,d,e,hb,h1,h2,h3,h4⟩
theorem same23_any (s1 s2:TrS) (t:Trc) (w:World) (h1:TrOk w s1 t) (h2:TrOk w s2 t):
 Calls Tryz.prog 15 #[trV s1 t,trV s2 t] w fun e w'=>e= .returned (.bool true)/\Bl w w':=by
 have HN1:Hd (s1.hn=t.hops.length/\s1.bn=t.b.length):=⟨h1.h.ln.1,h1.b.ln.1⟩;have HN2:Hd (s2.hn=t.hops.length/\s2.bn=t.b.length):=⟨h2.h.ln.1,h2.b.ln.1⟩;have hmx:s1.hn<=9223372036854775807:=by obtain ⟨h1,h2,h3,-⟩:=h1.h.ln;unfold maxLen at h3;omega
 have H1:=hD h1;have H2:=hD h2;clear h1 h2;obtain ⟨hops,how,⟨asw,apo⟩,tb,acc⟩:=t;unfold trV;dsimp only at HN1 HN2⊢;obtain ⟨hp1,hn1,hc1,bp1,bn1,bc1⟩:=s1;obtain ⟨hp2,hn2,hc2,bp2,bn2,bc2⟩:=s2;dsimp only at HN1 HN2 hmx⊢;obtain rfl:hn1=hn2:=HN1.o.1.trans HN2.o.1.symm;obtain rfl:bn1=bn2:=HN1.o.2.trans HN2.o.2.symm;have HN:Hd (hn1=hops.length):=HN1.o.1;clear HN1 HN2;go_enter Tryz.func15,Tryz.ntmps15;go_upto_region 1 with fail;obtain ⟨W0,hW0⟩:=nm ((w.alloc (.cells #[.slice hp1 hn1 hc1, .int .u8 how, .int .i64 asw, .int .i64 apo, .slice bp1 bn1 bc1, .bool acc] 59)).alloc (.cells #[.slice hp2 hn1 hc2, .int .u8 how, .int .i64 asw, .int .i64 apo, .slice bp2 bn1 bc2, .bool acc] 59));have HB0:Hd (Bl w W0):=by show Below _ _ _;rw[hW0];exact bL
 have HA:Hd (TBx W0 w.heap.size (.slice hp1 hn1 hc1) (.slice bp1 bn1 bc1) how ⟨asw,apo⟩ acc):=by show _=_;rw[hW0,Below.heap_alloc _ _ _ sm];exact heap_new _ _
 have HC:Hd (TBx W0 (w.heap.size+1) (.slice hp2 hn1 hc2) (.slice bp2 bn1 bc2) how ⟨asw,apo⟩ acc):=by
  exact gZ
 rw[<- hW0];clear hW0;obtain ⟨c0,c1,c2,c3,c4,c5⟩:=HA.o.cells;obtain ⟨d0,d1,d2,d3,d4,d5⟩:=HC.o.cells;dsimp only at c2 c3 d2 d3;have hq:=neqE asw apo W0;have hv1:=uconv (H1.o.b.below keepU HB0.o);have hv2:=uconv (H2.o.b.below keepU HB0.o);dsimp only at hv1 hv2;go_upto_region 3 with fail;clear c0 c1 c2 c3 c4 c5 d0 d1 d2 d3 d4 d5 hq hv1 hv2;go_wp2_with fail;go_loopw [5] (fun i wr=>∃k:Nat,k<=hn1/\i= .int .i64 (k:Int)/\Hd (Bl W0 wr)) (fun i _=>hn1-(intOf i).toNat)
 case atStart=>exact ⟨0,zl,rfl,Below.refl _ _⟩
 case round=>
  obtain ⟨k,hk,rfl,HB⟩:=hrel;have HB2:=hD (HB0.o.trans (HB.o.mono HB0.o.size));obtain ⟨c0,c1,c2,c3,c4,c5⟩:=(HA.o.below HB.o).cells;obtain ⟨d0,d1,d2,d3,d4,d5⟩:=(HC.o.below HB.o).cells;clear c1 c2 c3 c4 c5 d1 d2 d3 d4 d5;by_cases hlt:k<hn1
  ·have hki:(k:Int)<(hn1:Int):=om;obtain ⟨x,hx⟩:∃x,hops[k]?=some x:=⟨_,gE_ (by have:=HN.o;omega)⟩;obtain ⟨b,o,q,m,dd,hps,hb,y0,y1,y2,hy⟩:=hop_at (H1.o.below HB2.o).h hx;obtain ⟨b2,o2,q2,m2,dd2,hps2,hb2,z0,z1,z2,hz⟩:=hop_at (H2.o.below HB2.o).h hx;obtain ⟨⟨ha,hb9⟩,xb⟩:=x;dsimp only at y0 y1 hy z0 z1 hz hps hps2;subst hps hps2;have HCC:Hd (∀ W,Bl wr W->(Cl W w.heap.size 0 (.slice (some ⟨b,o,none⟩) hn1 hc1)/\Cl W (w.heap.size+1) 0 (.slice (some ⟨b2,o2,none⟩) hn1 hc2))/\(Cl W b (o+k*3) (.int .i64 ha)/\Cl W b (o+k*3+1) (.int .i64 hb9)/\Cl W b (o+k*3+2) (.slice q m dd))/\(Cl W b2 (o2+k*3) (.int .i64 ha)/\Cl W b2 (o2+k*3+1) (.int .i64 hb9)/\Cl W b2 (o2+k*3+2) (.slice q2 m2 dd2))/\(convert 35 9 (.slice q m dd)).run Tryz.prog W= .ok (.string (strOfNums xb)) W/\(convert 35 9 (.slice q2 m2 dd2)).run Tryz.prog W= .ok (.string (strOfNums xb)) W):=fun W hW=>
    ⟨⟨(hW.cell (cell_there c0).1).trans c0,(hW.cell (cell_there d0).1).trans d0⟩,⟨(hW.cell (cell_there y0).1).trans y0,(hW.cell (cell_there y1).1).trans y1,(hW.cell (cell_there y2).1).trans y2⟩,⟨(hW.cell (cell_there z0).1).trans z0,(hW.cell (cell_there z1).1).trans z1,(hW.cell (cell_there z2).1).trans z2⟩,uconv (hy.below keepU hW),uconv (hz.below keepU hW)⟩
   clear y0 y1 y2 z0 z1 z2 hy hz hb hb2 hx;go_upto_region 6 with fail;clear c0 d0;refine roB wr ?_;refine sq (fun aa ww ll hh=>by have:=hh.oL 2;exact ov gX) ?_;refine sq (fun aa ww ll hh=>by have:=hh.gt 0 0;exact ov (fC (HCC.o ww hh.inv))) ?_;refine sq (fun aa ww ll hh=>by exact ov (xmv (hh.oL 5))) ?_;refine sq (fun aa ww ll hh=>by have:=hh.gt 1 1;have:=hh.gt 2 0;exact ov gX) ?_;refine sq (fun aa ww ll hh=>by have:=hh.gt 3 0;exact ov gX) ?_;refine sq (fun aa ww ll hh=>by have:=hh.gt 4 0;exact ov (fC (HCC.o ww hh.inv))) ?_;refine sq (fun aa ww ll hh=>by have:=hh.oL 3;exact ov gX) ?_;refine sq (fun aa ww ll hh=>by have:=hh.gt 6 0;exact ov (fC (HCC.o ww hh.inv))) ?_;refine sq (fun aa ww ll hh=>by exact ov (xmv (hh.oL 5))) ?_;refine sq (fun aa ww ll hh=>by have:=hh.gt 7 1;have:=hh.gt 8 0;exact ov gX) ?_;refine sq (fun aa ww ll hh=>by have:=hh.gt 9 0;exact ov gX) ?_;refine sq (fun aa ww ll hh=>by have:=hh.gt 10 0;exact ov (fC (HCC.o ww hh.inv))) ?_;refine ⟨.eq (.bool false),trivial,rfl,fun aa ww ll hh=>?_,?_⟩
   ·have e55:=hh.gt 5 6;have e61:=hh.gt 11 0;have hq:=neqE ha hb9 ww;refine ov ?_;clear hh;generalize aa.eval=ev at e55 e61⊢;go_simp;try simp
   refine stm 12 0 ?_;refine sq (fun aa ww ll hh=>by have:=hh.oL 2;exact hh.og 0 gX) ?_;refine sq (fun aa ww ll hh=>by have:=hh.gt 14 0;exact hh.og 1 (fC (HCC.o ww hh.inv))) ?_;refine sq (fun aa ww ll hh=>by exact hh.og 2 (xmv (hh.oL 5))) ?_;refine sq (fun aa ww ll hh=>by have:=hh.gt 15 1;have:=hh.gt 16 0;exact hh.og 3 gX) ?_;refine sq (fun aa ww ll hh=>by have:=hh.gt 17 0;exact hh.og 4 gX) ?_;refine sq (fun aa ww ll hh=>by have:=hh.gt 18 0;exact hh.og 5 (fC (HCC.o ww hh.inv))) ?_;refine ⟨.eq (.string (strOfNums xb)),trivial,rfl,fun aa ww ll hh=>?_,?_⟩
   ·have e69:=hh.gt 19 0;exact hh.og 6 (fC (HCC.o ww hh.inv))
   refine sq (fun aa ww ll hh=>by have:=hh.oL 3;exact hh.og 7 gX) ?_;refine sq (fun aa ww ll hh=>by have:=hh.gt 21 0;exact hh.og 8 (fC (HCC.o ww hh.inv))) ?_;refine sq (fun aa ww ll hh=>by exact hh.og 9 (xmv (hh.oL 5))) ?_;refine sq (fun aa ww ll hh=>by have:=hh.gt 22 1;have:=hh.gt 23 0;exact hh.og 10 gX) ?_;refine sq (fun aa ww ll hh=>by have:=hh.gt 24 0;exact hh.og 11 gX) ?_;refine sq (fun aa ww ll hh=>by have:=hh.gt 25 0;exact hh.og 12 (fC (HCC.o ww hh.inv))) ?_;refine ⟨.eq (.string (strOfNums xb)),trivial,rfl,fun aa ww ll hh=>?_,?_⟩
   ·have e76:=hh.gt 26 0;exact hh.og 13 (fC (HCC.o ww hh.inv))
   refine ⟨.eq (.bool false),trivial,rfl,fun aa ww ll hh=>?_,?_⟩
   ·have e70:=hh.gt 20 7;have e77:=hh.gt 27 0;refine hh.og 14 ?_;clear hh;generalize aa.eval=ev at e70 e77⊢;go_simp;try simp
   refine sq (fun aa ww ll hh=>by have:=hh.gt 13 15;have:=hh.gt 28 0;have ec:=evc aa;exact ov gX) ?_;intro ll w3 hS3 hok;clear hok;simp only[ly];have HB3:=hD (HB.o.trans (hS3.mono HB.o.size));clear hS3;go_wp2_with fail;go_roundw
   case rel=>exact ⟨k+1,om,by go_num,HB3.o⟩
   case measure=>exact mz
  obtain rfl:k=hn1:=om;have hki:¬(k:Int)<(k:Int):=om;go_wp2_with fail;go_ret;exact ⟨rfl,HB2.o⟩
open Go.RowKit Stab
def T0:Obj:= .cells #[.slice none 0 0, .int .u8 0, .int .i64 0, .int .i64 0, .slice none 0 0, .bool false] 59 (0,0)
def TC (s:TrS) (t:Trc):Obj:= .cells #[.slice s.hp s.hn s.hc, .int .u8 t.how, .int .i64 t.at_.sw, .int .i64 t.at_.port, .slice s.bp s.bn s.bc, .bool t.acc] 59 (0,0)
def TDone (b:Nat) (t:Trc) (W:World) (k:Nat):Prop:=∃s,W.heap[k]?=some (TC s t)/\TrO b W s t
def KpE (b:Nat) (W W':World):Prop:=∀(k:Nat) (c:Array Value) (E:TypeId),b<=k->E≠59->W.heap[k]?=some (.cells c E (0,0))->W'.heap[k]?=some (.cells c E (0,0))
structure TR (b:Nat) (t:Trc) (W W':World):Prop where
 low:Below b W W'
 oth:KpE b W W'
 ko:∀k:Nat,b<=k->(W.heap[k]?=some T0\/TDone b t W k)->(W'.heap[k]?=some T0\/TDone b t W' k)
 k1:∀k:Nat,b<=k->TDone b t W k->TDone b t W' k
section
variable {b:Nat} {t:Trc} {W W':World}
theorem TrO.kept {u:Trc} (h:TrO b W s u) (hk:KpE b W W'):TrO b W' s u:=
 h.far fun z c hz q=>by
  rcases q with q|q
  ·exact (hk z c _ hz dq q).trans q.symm
  ·exact (hk z c _ hz dq q).trans q.symm
theorem By.kept {v:Value} {xs:List Int} (h:By b W v xs) (hk:KpE b W W'):By b W' v xs:=own_far h fun z hz=>by
 have q2:W.ownsRow b 5 1 v xs.length (xs.map (Value.int .u8)):=h;obtain ⟨-,⟨q1,-⟩|⟨g,cap,cur,q1,q0,q3,-⟩⟩:=q2
 ·rw[q1] at hz;cases hz
 ·rw[q1] at hz;cases hz;exact (hk _ _ _ q0 dq q3).trans q3.symm
theorem TDone.kept (h:TDone b t W k) (hk:KpE b W W') (hh:W'.heap[k]?=W.heap[k]?):TDone b t W' k:=by
 obtain ⟨s,h1,h2⟩:=h;exact ⟨s,hh.trans h1,h2.kept hk⟩
theorem TR.refl (b:Nat) (t:Trc) (W:World):TR b t W W:=⟨Below.refl _ _,fun _ _ _ _ _=>id,fun _ _=>id,fun _ _=>id⟩
theorem TR.of_below (hb:b<=W.heap.size) (h:Bl W W'):TR b t W W':=by
 have k:KpE b W W':=fun k c E _ _ e=>(h.block k (lt_some e)).trans e
 have d:∀q,TDone b t W q->TDone b t W' q:=fun q e=>e.kept k (h.block q (by obtain ⟨s,e,-⟩:=e;exact lt_some e))
 exact ⟨h.mono hb,k,fun q _ e=>e.imp (fun e=>(h.block q (lt_some e)).trans e) (d q),fun q _=>d q⟩
theorem TR.store (hk:b<=k) (h:W.heap[k]?=some T0\/TDone b t W k) (hb:TrO b W s t):TR b t W (set6 W k (.slice s.hp s.hn s.hc) (.int .u8 t.how) (.int .i64 t.at_.sw) (.int .i64 t.at_.port) (.slice s.bp s.bn s.bc) (.bool t.acc))/\TDone b t (set6 W k (.slice s.hp s.hn s.hc) (.int .u8 t.how) (.int .i64 t.at_.sw) (.int .i64 t.at_.port) (.slice s.bp s.bn s.bc) (.bool t.acc)) k:=by
 obtain ⟨W',hV⟩:=nm (set6 W k (.slice s.hp s.hn s.hc) (.int .u8 t.how) (.int .i64 t.at_.sw) (.int .i64 t.at_.port) (.slice s.bp s.bn s.bc) (.bool t.acc));rw[<- hV];have ho:∀j,j≠k->W'.heap[j]?=W.heap[j]?:=fun j hj=>by rw[hV];exact set6_other W _ _ _ _ _ _ hj
 have hl:Below b W W':=(by rw[hV];exact set6_below _ _ _ _ _ _ br hk);have hp:W'.heap[k]?=some (TC s t):=by
  rw[hV]
  rcases h with h|⟨s0,h,-⟩
  ·exact set6_heap _ _ _ _ _ _ h
  exact set6_heap _ _ _ _ _ _ h
 have hty:∃c,W.heap[k]?=some (.cells c 59 (0,0)):=by
  rcases h with h|⟨s0,h,-⟩
  ·exact ⟨_,h⟩
  exact ⟨_,h⟩
 clear hV;have kk:KpE b W W':=fun j c E _ hE e=>by
  by_cases q:j=k
  ·subst q;obtain ⟨c2,h2⟩:=hty;rw[h2] at e;simp only[Option.some.injEq,Obj.cells.injEq] at e;exact absurd e.2.1.symm hE
  ·exact (ho j q).trans e
 have hd:∀j,TDone b t W j->TDone b t W' j:=fun j e=>by
  by_cases q:j=k
  ·subst q;exact ⟨s,hp,hb.kept kk⟩
  ·exact e.kept kk (ho j q)
 refine ⟨⟨hl,kk,fun j _ e=>?_,fun j _ e=>hd j e⟩,⟨s,hp,hb.kept kk⟩⟩;by_cases q:j=k
 ·subst q;exact .inr ⟨s,hp,hb.kept kk⟩
 rcases e with e|e
 ·exact .inl ((ho j q).trans e)
 exact .inr (hd j e)
end
theorem t_six {b:Nat} {t:Trc} (h:W.heap[k]?=some T0\/TDone b t W k):∃d0 d1 d2 d3 d4 d5,W.heap[k]?=some (.cells #[d0,d1,d2,d3,d4,d5] 59 (0,0)):=by
 rcases h with h|⟨s,h,-⟩
 ·exact ⟨_,_,_,_,_,_,h⟩
 exact ⟨_,_,_,_,_,_,h⟩
end Go.Proofs.YtikilcbpogfgkaaGreat
