/- Lemmas. -/
import Derived.Test.YtikilcbpogfgkaaGreatJH28
set_option maxHeartbeats 6400000
set_option maxRecDepth 100000
namespace Go.Proofs.YtikilcbpogfgkaaGreat
open Go.RowKit Stab
theorem PgAt.lower {b b2:Nat} {W:World} {s:PgS} (h:PgAt b W s) (hb:b2<=b):PgAt b2 W s:=by
 obtain ⟨gs,g2,g9,gI,ip,ic,e,l0,l1,l2,l3,h0,h1,h2,h3,h4⟩:=h;exact ⟨gs,g2,g9,gI,ip,ic,e,om,om,om,om,h0,h1,h2,own_base h3 hb,h4⟩
def S1:ByteArray:=⟨#[115]⟩
theorem n23_at {W:World} {gs:Nat} (h0:W.heap[gs]?=some (.cells #[.string S1] 9 (0,0))) (h1:W.heap[gs+1]?=some (.cells #[.int .i64 1, .int .i64 2] 3 (0,0))) (h2:W.heap[gs+1+1]?=some (.cells #[.slice (some ⟨gs+1,0,none⟩) 2 2] 23 (0,0))):NtOk W ⟨some ⟨gs,0,none⟩,1,1,some ⟨gs+1+1,0,none⟩,1,1,none,0,0⟩ (n23 S1):=
 ⟨row_one (lt_some h0) (heap_cell h0 rfl),row_one (lt_some h2) ⟨_,_,_,heap_cell h2 rfl,⟨_,2,rfl,Nat.le_refl _,by decide,(fun e=>by cases e),fun _=>⟨gs+1,0,rfl,lt_some h1,fun j x hj=>by
  match j,hj with
  |0,hj=>cases hj;exact heap_cell h1 rfl
  |1,hj=>cases hj;exact heap_cell h1 rfl⟩⟩⟩,RowAt.nil⟩
theorem tr_len {b:Nat} {W:World} {s:TrS} {t:Trc} (h:TrO b W s t):s.hn=t.hops.length/\s.bn=t.b.length:=by
 obtain ⟨⟨hq,e,ho,-⟩,hb⟩:=h;obtain ⟨p,c,e1⟩:=own_sh ho;obtain ⟨q,d,e2⟩:=own_sh (show W.ownsRow b 5 1 _ t.b.length _ from hb);simp only[Value.slice.injEq] at e1 e2;exact ⟨by rw[<- e,List.length_map];exact e1.2.1,e2.2.1⟩
theorem known23_true (w:World):Calls Tryz.prog 13 #[] w fun e w'=>e= .returned (.bool true)/\Bl w w':=by
 go_enter Tryz.func13,Tryz.ntmps13;go_upto_region 2 with fail
 obtain ⟨W1,hW1⟩:=nm ((((w.alloc (.cells #[.string S1] 9)).alloc (.cells #[.int .i64 1, .int .i64 2] 3)).alloc (.cells #[.slice (some ⟨w.heap.size+1,0,none⟩) 2 2] 23)).alloc (.cells #[.slice (some ⟨w.heap.size,0,none⟩) 1 1, .slice (some ⟨w.heap.size+1+1,0,none⟩) 1 1, .slice none 0 0] 52));have hc:=chain4 w (.cells #[.string S1] 9) (.cells #[.int .i64 1, .int .i64 2] 3) (.cells #[.slice (some ⟨w.heap.size+1,0,none⟩) 2 2] 23) (.cells #[.slice (some ⟨w.heap.size,0,none⟩) 1 1, .slice (some ⟨w.heap.size+1+1,0,none⟩) 1 1, .slice none 0 0] 52);have hb1:Bl w W1:=by rw[hW1];exact bL
 rw[<- hW1] at hc;have HB1:=hD hb1;have HNT:Hd (∀ W,Bl W1 W->NtOk W ⟨some ⟨w.heap.size,0,none⟩,1,1,some ⟨w.heap.size+1+1,0,none⟩,1,1,none,0,0⟩ (n23 S1)):=fun W h=>(n23_at hc.1 hc.2.1 hc.2.2.1).below h
 have HNB:Hd (∀ W,Bl W1 W->Cl W (w.heap.size+1+1+1) 0 (.slice (some ⟨w.heap.size,0,none⟩) 1 1)/\Cl W (w.heap.size+1+1+1) 1 (.slice (some ⟨w.heap.size+1+1,0,none⟩) 1 1)/\Cl W (w.heap.size+1+1+1) 2 (.slice none 0 0)):=fun W h=>⟨(h.cell (p:=⟨w.heap.size+1+1+1,0,none⟩) (lt_some hc.2.2.2)).trans (heap_cell hc.2.2.2 rfl),(h.cell (p:=⟨w.heap.size+1+1+1,1,none⟩) (lt_some hc.2.2.2)).trans (heap_cell hc.2.2.2 rfl),(h.cell (p:=⟨w.heap.size+1+1+1,2,none⟩) (lt_some hc.2.2.2)).trans (heap_cell hc.2.2.2 rfl)⟩
 rw[show (⟨#[115]⟩:ByteArray)=S1 from rfl] at*;rw[<- hW1];clear hW1 hc hb1;refine region_outR (TR W1.heap.size T1) (TR.refl _ _) kq (fun W=>Bl W1 W) (fun _ _ h hr=>h.trans hr.low) kq (Below.drew br) ?_;refine ⟨.rel (fun W v=>∃s,v=pgV s/\PgAt W1.heap.size W s),(fun W W' v ⟨s,h1,h2⟩ hr=>⟨s,h1,h2.far hr.oth⟩),rfl,fun aa ww ll hh=>?_,?_⟩
 ·have ef:=evf aa;have ec:=evc aa;have ec:=evc aa;have HI:=hh.inv;refine out_call (wanted_none rfl) ?_ ((all_any ww).mono fun e w9 h=>by obtain ⟨⟨s,h1,h2⟩,h3⟩:=h;exact ⟨_,h1,⟨s,rfl,h2.lower HI.size⟩,TR.of_below HI.size h3⟩);try clear HI;exact gX
 refine ⟨.rel (fun W v=>∃g:Nat,v= .slice (some ⟨g,0,none⟩) 1 1/\W1.heap.size<=g/\W.heap[g]?=some (.cells #[.slice none 0 0] 34 (0,0))),(fun W W' v ⟨g,h1,h2,h3⟩ hr=>⟨g,h1,h2,hr.oth _ _ _ h2 dq h3⟩),rfl,fun aa ww ll hh=>?_,?_⟩
 ·have ec:=evc aa;have hsz:=hh.inv.size;have ec:=evc aa;clear hh;refine out_new (wanted_none rfl) (w':=ww.alloc (.cells #[.slice none 0 0] 34)) (v:= .slice (some ⟨ww.heap.size,0,none⟩) 1 1) ?_ (TR.of_below hsz (br.alloc lr _)) ⟨_,rfl,hsz,heap_new _ _⟩;generalize aa.eval=ev at ec⊢;go_simp
  try rfl
 refine sq (fun aa ww ll hh=>by have:=hh.oL 1;exact ov (fC (HNB.o ww hh.inv))) ?_;refine sq (fun aa ww ll hh=>by have ec:=evc aa;exact ov gX) ?_;refine ⟨.rel (fun W v=>By W1.heap.size W v [7]),(fun W W' v h hr=>h.kept hr.oth),rfl,fun aa ww ll hh=>?_,?_⟩
 ·have ec:=evc aa;have hsz:=hh.inv.size;have ec:=evc aa;clear hh;refine out_new (wanted_none rfl) (w':=ww.alloc (.cells #[.int .u8 7] 5)) (v:= .slice (some ⟨ww.heap.size,0,none⟩) 1 1) ?_ (TR.of_below hsz (br.alloc lr _)) (own_base (own_one (heap_new ww (.cells #[.int .u8 7] 5)) rfl lr) hsz);generalize aa.eval=ev at ec⊢;go_simp
  try rfl
 refine ⟨.rel (fun W v=>∃k,v= .tuple #[trV k T1, .int .i64 0]/\TrO W1.heap.size W k T1),(fun W W' v ⟨k,h1,h2⟩ hr=>⟨k,h1,h2.kept hr.oth⟩),rfl,fun aa ww ll hh=>?_,?_⟩
 ·obtain ⟨x13,e13,-,p13⟩:=hh.got 0 4 kq rfl rfl rfl;obtain ⟨x14,e14,-,p14⟩:=hh.got 1 3 kq rfl rfl rfl;have e15:=hh.gt 2 2;have e16:=hh.gt 3 1;obtain ⟨x17,e17,-,p17⟩:=hh.got 4 0 kq rfl rfl rfl;have ef:=evf aa;have ec:=evc aa;obtain ⟨sa,rfl,hpa⟩:=p13;obtain ⟨ge,rfl,hge,hgh⟩:=p14;obtain ⟨bq,bd,rfl⟩:=own_sh p17;have HI:=hh.inv;have ec:=evc aa;refine out_call (wanted_none rfl) ?_ ((walkA_any sa p23 [[]] (some ⟨ge,0,none⟩) 1 1 ⟨some ⟨w.heap.size,0,none⟩,1,1,some ⟨w.heap.size+1+1,0,none⟩,1,1,none,0,0⟩ (n23 S1) ⟨0,1⟩ bq 1 bd [7] 2 ww hpa.ok (fun l hl=>by simp only[List.mem_singleton] at hl;rw[hl];exact p23_ok) (row_one (lt_some hgh) ⟨none,0,0,heap_cell hgh rfl,RowAt.nil⟩) (HNT.o ww HI) (n23_sm S1) (By.row p17) dq).mono fun e w9 h=>by obtain ⟨k,h1,h2⟩:=h.2.1 (bad1 S1);exact ⟨_,h1,⟨k,rfl,h2.lower HI.size⟩,TR.of_below HI.size h.2.2⟩);clear hh HI hpa hgh;generalize aa.eval=ev at e13 e14 e15 e16 e17 ef ec⊢;unfold pgV ntV EdV;go_simp
  try rfl
 refine ⟨.rel (fun W v=>∃k,v= .tuple #[trV k T1, .int .i64 0]/\TrO W1.heap.size W k T1),(fun W W' v ⟨k,h1,h2⟩ hr=>⟨k,h1,h2.kept hr.oth⟩),rfl,fun aa ww ll hh=>?_,?_⟩
 ·obtain ⟨x18,e18,-,p18⟩:=hh.got 5 0 kq rfl rfl rfl;obtain ⟨kk,rfl,hkk⟩:=p18;refine out_new (wanted_none rfl) (v:= .tuple #[trV kk T1, .int .i64 0]) ?_ (TR.refl _ _ _) ⟨kk,rfl,hkk⟩;rw[ex_moveO (by first|exact .inl rfl|exact .inr rfl) e18]
 refine ⟨.rel (fun W v=>∃k,v=trV k T1/\TrO W1.heap.size W k T1),(fun W W' v ⟨k,h1,h2⟩ hr=>⟨k,h1,h2.kept hr.oth⟩),rfl,fun aa ww ll hh=>?_,?_⟩
 ·obtain ⟨x12,e12,-,p12⟩:=hh.got 6 0 kq rfl rfl rfl;obtain ⟨kk,rfl,hkk⟩:=p12;refine out_new (wanted_none rfl) (v:=trV kk T1) ?_ (TR.refl _ _ _) ⟨kk,rfl,hkk⟩;try clear hkk;exact gX
 refine ⟨.eq (.int .i64 0),trivial,rfl,fun aa ww ll hh=>?_,?_⟩
 ·obtain ⟨x12,e12,-,p12⟩:=hh.got 6 1 kq rfl rfl rfl;obtain ⟨kk,rfl,hkk⟩:=p12;refine ov ?_;try clear hkk;exact gX
 refine ⟨.rel (fun W v=>∃g:Nat,v= .pointer (some ⟨g,0,none⟩)/\W1.heap.size<=g/\(W.heap[g]?=some T0\/TDone W1.heap.size T1 W g)),(fun W W' v ⟨g,h1,h2,h3⟩ hr=>⟨g,h1,h2,hr.ko g h2 h3⟩),rfl,fun aa ww ll hh=>?_,?_⟩
 ·have hsz:=hh.inv.size;clear hh;refine out_new (wanted_none rfl) (w':=ww.alloc (.cells #[.slice none 0 0, .int .u8 0, .int .i64 0, .int .i64 0, .slice none 0 0, .bool false] 59)) (v:= .pointer (some ⟨ww.heap.size,0,none⟩)) ?_ (TR.of_below hsz (br.alloc lr _)) ⟨_,rfl,hsz, .inl (heap_new _ _)⟩;go_simp
  try rfl
 refine ⟨.rell [9] (fun vs W _=>∃g:Nat,vs=[.pointer (some ⟨g,0,none⟩)]/\W1.heap.size<=g/\TDone W1.heap.size T1 W g),(fun vs W W' v ⟨g,h1,h2,h3⟩ hr=>⟨g,h1,h2,hr.k1 g h2 h3⟩),rfl,fun aa ww ll hh=>?_,?_⟩
 ·obtain ⟨x2,e2,-,p2⟩:=hh.got 9 0 kq rfl rfl rfl;obtain ⟨x19,e19,-,p19⟩:=hh.got 7 2 kq rfl rfl rfl;obtain ⟨zz,ez,lz,gg,rfl,h2,h3⟩:=hh.got 9 0 kq rfl rfl rfl;obtain ⟨kk,rfl,hkk⟩:=p19;obtain ⟨d0,d1,d2,d3,d4,d5,hd⟩:=t_six h3;have u0:=heap_cell hd (j:=0) rfl;have u1:=heap_cell hd (j:=1) rfl;have u2:=heap_cell hd (j:=2) rfl;have u3:=heap_cell hd (j:=3) rfl;have u4:=heap_cell hd (j:=4) rfl;have u5:=heap_cell hd (j:=5) rfl;have r0:=heap_free hd 0;have r1:=heap_free hd 1;have r2:=heap_free hd 2;have r3:=heap_free hd 3;have r4:=heap_free hd 4;have r5:=heap_free hd 5;have hs:=TR.store h2 h3 hkk;refine out_store (wanted_none rfl) (w':=set6 ww gg (.slice kk.hp kk.hn kk.hc) (.int .u8 T1.how) (.int .i64 T1.at_.sw) (.int .i64 T1.at_.port) (.slice kk.bp kk.bn kk.bc) (.bool T1.acc)) ?_ hs.1 ⟨gg,by simp only[List.map_cons,List.map_nil,lz],h2,hs.2⟩;rw[ez] at e2;subst e2;have e2:=ez;clear hh hd hs lz h3 ez p2 hkk;generalize aa.eval=ev at e2 e19⊢;unfold trV at e19;go_simp
  try rfl
 refine stm 8 2 ?_;intro ll w2 hS2 hok;have p10:=hok 10 _ rfl;clear hok;simp only[ly];obtain ⟨k1,e1,b1,s1,h1,t1⟩:=p10;simp only[List.map_cons,List.map_nil,List.cons.injEq,and_true] at e1;rw[e1];clear e1;have HT1:Hd (TBx w2 k1 (.slice s1.hp s1.hn s1.hc) (.slice s1.bp s1.bn s1.bc) 1 ⟨0,2⟩ false/\TrO W1.heap.size w2 s1 T1):=⟨h1,t1⟩;have HNT2:Hd (∀ W,Bl w2 W->NtOk W ⟨some ⟨w.heap.size,0,none⟩,1,1,some ⟨w.heap.size+1+1,0,none⟩,1,1,none,0,0⟩ (n23 S1)):=fun W h=>HNT.o W (hS2.trans (h.mono hS2.size))
 have HNB2:=hD (fun W (h:Bl w2 W)=>HNB.o W (hS2.trans (h.mono hS2.size)));have HB2:=hD (HB1.o.trans (hS2.mono HB1.o.size));clear HNT HNB HB1 h1 t1 hS2 b1;have HNT:=HNT2;have HNB:=HNB2;clear HNT2 HNB2;go_upto_region 3 with fail
 refine region_outR (TR w2.heap.size T2) (TR.refl _ _) kq (fun W=>Bl w2 W) (fun _ _ h hr=>h.trans hr.low) kq (Below.drew br) ?_;refine ⟨.rel (fun W v=>∃s,v=pgV s/\PgAt w2.heap.size W s),(fun W W' v ⟨s,h1,h2⟩ hr=>⟨s,h1,h2.far hr.oth⟩),rfl,fun aa ww ll hh=>?_,?_⟩
 ·have ef:=evf aa;have ec:=evc aa;have ec:=evc aa;have HI:=hh.inv;refine out_call (wanted_none rfl) ?_ ((all_any ww).mono fun e w9 h=>by obtain ⟨⟨s,h1,h2⟩,h3⟩:=h;exact ⟨_,h1,⟨s,rfl,h2.lower HI.size⟩,TR.of_below HI.size h3⟩);try clear HI;exact gX
 refine ⟨.rel (fun W v=>∃g:Nat,v= .slice (some ⟨g,0,none⟩) 1 1/\w2.heap.size<=g/\W.heap[g]?=some (.cells #[.slice none 0 0] 34 (0,0))),(fun W W' v ⟨g,h1,h2,h3⟩ hr=>⟨g,h1,h2,hr.oth _ _ _ h2 dq h3⟩),rfl,fun aa ww ll hh=>?_,?_⟩
 ·have ec:=evc aa;have hsz:=hh.inv.size;have ec:=evc aa;clear hh;refine out_new (wanted_none rfl) (w':=ww.alloc (.cells #[.slice none 0 0] 34)) (v:= .slice (some ⟨ww.heap.size,0,none⟩) 1 1) ?_ (TR.of_below hsz (br.alloc lr _)) ⟨_,rfl,hsz,heap_new _ _⟩;generalize aa.eval=ev at ec⊢;go_simp
  try rfl
 refine sq (fun aa ww ll hh=>by have:=hh.oL 1;exact ov (fC (HNB.o ww hh.inv))) ?_;refine sq (fun aa ww ll hh=>by have ec:=evc aa;exact ov gX) ?_;refine ⟨.rel (fun W v=>By w2.heap.size W v [7]),(fun W W' v h hr=>h.kept hr.oth),rfl,fun aa ww ll hh=>?_,?_⟩
 ·have ec:=evc aa;have hsz:=hh.inv.size;have ec:=evc aa;clear hh;refine out_new (wanted_none rfl) (w':=ww.alloc (.cells #[.int .u8 7] 5)) (v:= .slice (some ⟨ww.heap.size,0,none⟩) 1 1) ?_ (TR.of_below hsz (br.alloc lr _)) (own_base (own_one (heap_new ww (.cells #[.int .u8 7] 5)) rfl lr) hsz);generalize aa.eval=ev at ec⊢;go_simp
  try rfl
 refine ⟨.rel (fun W v=>∃k,v= .tuple #[trV k T2, .int .i64 0]/\TrO w2.heap.size W k T2),(fun W W' v ⟨k,h1,h2⟩ hr=>⟨k,h1,h2.kept hr.oth⟩),rfl,fun aa ww ll hh=>?_,?_⟩
 ·obtain ⟨x22,e22,-,p22⟩:=hh.got 0 4 kq rfl rfl rfl;obtain ⟨x23,e23,-,p23⟩:=hh.got 1 3 kq rfl rfl rfl;have e24:=hh.gt 2 2;have e25:=hh.gt 3 1;obtain ⟨x26,e26,-,p26⟩:=hh.got 4 0 kq rfl rfl rfl;have ef:=evf aa;have ec:=evc aa;obtain ⟨sa,rfl,hpa⟩:=p22;obtain ⟨ge,rfl,hge,hgh⟩:=p23;obtain ⟨bq,bd,rfl⟩:=own_sh p26;have HI:=hh.inv;have ec:=evc aa;refine out_call (wanted_none rfl) ?_ ((walkA_any sa p23 [[]] (some ⟨ge,0,none⟩) 1 1 ⟨some ⟨w.heap.size,0,none⟩,1,1,some ⟨w.heap.size+1+1,0,none⟩,1,1,none,0,0⟩ (n23 S1) ⟨0,2⟩ bq 1 bd [7] 2 ww hpa.ok (fun l hl=>by simp only[List.mem_singleton] at hl;rw[hl];exact p23_ok) (row_one (lt_some hgh) ⟨none,0,0,heap_cell hgh rfl,RowAt.nil⟩) (HNT.o ww HI) (n23_sm S1) (By.row p26) dq).mono fun e w9 h=>by obtain ⟨k,h1,h2⟩:=h.2.1 (bad2 S1);exact ⟨_,h1,⟨k,rfl,h2.lower HI.size⟩,TR.of_below HI.size h.2.2⟩);clear hh HI hpa hgh;generalize aa.eval=ev at e22 e23 e24 e25 e26 ef ec⊢;unfold pgV ntV EdV;go_simp
  try rfl
 refine ⟨.rel (fun W v=>∃k,v= .tuple #[trV k T2, .int .i64 0]/\TrO w2.heap.size W k T2),(fun W W' v ⟨k,h1,h2⟩ hr=>⟨k,h1,h2.kept hr.oth⟩),rfl,fun aa ww ll hh=>?_,?_⟩
 ·obtain ⟨x27,e27,-,p27⟩:=hh.got 5 0 kq rfl rfl rfl;obtain ⟨kk,rfl,hkk⟩:=p27;refine out_new (wanted_none rfl) (v:= .tuple #[trV kk T2, .int .i64 0]) ?_ (TR.refl _ _ _) ⟨kk,rfl,hkk⟩;rw[ex_moveO (by first|exact .inl rfl|exact .inr rfl) e27]
 refine ⟨.rel (fun W v=>∃k,v=trV k T2/\TrO w2.heap.size W k T2),(fun W W' v ⟨k,h1,h2⟩ hr=>⟨k,h1,h2.kept hr.oth⟩),rfl,fun aa ww ll hh=>?_,?_⟩
 ·obtain ⟨x21,e21,-,p21⟩:=hh.got 6 0 kq rfl rfl rfl;obtain ⟨kk,rfl,hkk⟩:=p21;refine out_new (wanted_none rfl) (v:=trV kk T2) ?_ (TR.refl _ _ _) ⟨kk,rfl,hkk⟩;try clear hkk;exact gX
 refine ⟨.eq (.int .i64 0),trivial,rfl,fun aa ww ll hh=>?_,?_⟩
 ·obtain ⟨x21,e21,-,p21⟩:=hh.got 6 1 kq rfl rfl rfl;obtain ⟨kk,rfl,hkk⟩:=p21;refine ov ?_;try clear hkk;exact gX
 refine ⟨.rel (fun W v=>∃g:Nat,v= .pointer (some ⟨g,0,none⟩)/\w2.heap.size<=g/\(W.heap[g]?=some T0\/TDone w2.heap.size T2 W g)),(fun W W' v ⟨g,h1,h2,h3⟩ hr=>⟨g,h1,h2,hr.ko g h2 h3⟩),rfl,fun aa ww ll hh=>?_,?_⟩
 ·have hsz:=hh.inv.size;clear hh;refine out_new (wanted_none rfl) (w':=ww.alloc (.cells #[.slice none 0 0, .int .u8 0, .int .i64 0, .int .i64 0, .slice none 0 0, .bool false] 59)) (v:= .pointer (some ⟨ww.heap.size,0,none⟩)) ?_ (TR.of_below hsz (br.alloc lr _)) ⟨_,rfl,hsz, .inl (heap_new _ _)⟩;go_simp
  try rfl
 refine ⟨.rell [9] (fun vs W _=>∃g:Nat,vs=[.pointer (some ⟨g,0,none⟩)]/\w2.heap.size<=g/\TDone w2.heap.size T2 W g),(fun vs W W' v ⟨g,h1,h2,h3⟩ hr=>⟨g,h1,h2,hr.k1 g h2 h3⟩),rfl,fun aa ww ll hh=>?_,?_⟩
 ·obtain ⟨x4,e4,-,p4⟩:=hh.got 9 0 kq rfl rfl rfl;obtain ⟨x28,e28,-,p28⟩:=hh.got 7 2 kq rfl rfl rfl;obtain ⟨zz,ez,lz,gg,rfl,h2,h3⟩:=hh.got 9 0 kq rfl rfl rfl;obtain ⟨kk,rfl,hkk⟩:=p28;obtain ⟨d0,d1,d2,d3,d4,d5,hd⟩:=t_six h3;have u0:=heap_cell hd (j:=0) rfl;have u1:=heap_cell hd (j:=1) rfl;have u2:=heap_cell hd (j:=2) rfl;have u3:=heap_cell hd (j:=3) rfl;have u4:=heap_cell hd (j:=4) rfl;have u5:=heap_cell hd (j:=5) rfl;have r0:=heap_free hd 0;have r1:=heap_free hd 1;have r2:=heap_free hd 2;have r3:=heap_free hd 3;have r4:=heap_free hd 4;have r5:=heap_free hd 5;have hs:=TR.store h2 h3 hkk;refine out_store (wanted_none rfl) (w':=set6 ww gg (.slice kk.hp kk.hn kk.hc) (.int .u8 T2.how) (.int .i64 T2.at_.sw) (.int .i64 T2.at_.port) (.slice kk.bp kk.bn kk.bc) (.bool T2.acc)) ?_ hs.1 ⟨gg,by simp only[List.map_cons,List.map_nil,lz],h2,hs.2⟩;rw[ez] at e4;subst e4;have e4:=ez;clear hh hd hs lz h3 ez p4 hkk;generalize aa.eval=ev at e4 e28⊢;unfold trV at e28;go_simp
  try rfl
 refine stm 8 2 ?_;intro ll w3 hS3 hok;have p10:=hok 10 _ rfl;clear hok;simp only[ly];obtain ⟨k2,e2,b2,s2,h2,t2⟩:=p10;simp only[List.map_cons,List.map_nil,List.cons.injEq,and_true] at e2;rw[e2];clear e2;have HT2:Hd (TBx w3 k2 (.slice s2.hp s2.hn s2.hc) (.slice s2.bp s2.bn s2.bc) 2 ⟨0,0⟩ false/\TrO w2.heap.size w3 s2 T2):=⟨h2,t2⟩;have HT3:Hd (TBx w3 k1 (.slice s1.hp s1.hn s1.hc) (.slice s1.bp s1.bn s1.bc) 1 ⟨0,2⟩ false/\URow w3 (.slice s1.bp s1.bn s1.bc) [7]):=⟨HT1.o.1.below hS3,HT1.o.2.ok.b.below keepU hS3⟩;have HL:Hd ((s1.hn=1/\s1.bn=1)/\(s2.hn=1/\s2.bn=0)):=⟨tr_len HT1.o.2,tr_len HT2.o.2⟩;have HNT2:Hd (∀ W,Bl w3 W->NtOk W ⟨some ⟨w.heap.size,0,none⟩,1,1,some ⟨w.heap.size+1+1,0,none⟩,1,1,none,0,0⟩ (n23 S1)):=fun W h=>HNT.o W (hS3.trans (h.mono hS3.size))
 have HNB2:=hD (fun W (h:Bl w3 W)=>HNB.o W (hS3.trans (h.mono hS3.size)));have HB3:=hD (HB2.o.trans (hS3.mono HB2.o.size));clear HNT HNB HB2 h2 t2 hS3 b2 HT1;have HNT:=HNT2;have HNB:=HNB2;clear HNT2 HNB2;go_upto_region 4 with fail
 refine region_outR (TR w3.heap.size noT) (TR.refl _ _) kq (fun W=>Bl w3 W) (fun _ _ h hr=>h.trans hr.low) kq (Below.drew br) ?_;refine ⟨.rel (fun W v=>∃s,v=pgV s/\PgAt w3.heap.size W s),(fun W W' v ⟨s,h1,h2⟩ hr=>⟨s,h1,h2.far hr.oth⟩),rfl,fun aa ww ll hh=>?_,?_⟩
 ·have ef:=evf aa;have ec:=evc aa;have ec:=evc aa;have HI:=hh.inv;refine out_call (wanted_none rfl) ?_ ((all_any ww).mono fun e w9 h=>by obtain ⟨⟨s,h1,h2⟩,h3⟩:=h;exact ⟨_,h1,⟨s,rfl,h2.lower HI.size⟩,TR.of_below HI.size h3⟩);try clear HI;exact gX
 refine ⟨.rel (fun W v=>∃g:Nat,v= .slice (some ⟨g,0,none⟩) 1 1/\w3.heap.size<=g/\W.heap[g]?=some (.cells #[.slice none 0 0] 34 (0,0))),(fun W W' v ⟨g,h1,h2,h3⟩ hr=>⟨g,h1,h2,hr.oth _ _ _ h2 dq h3⟩),rfl,fun aa ww ll hh=>?_,?_⟩
 ·have ec:=evc aa;have hsz:=hh.inv.size;have ec:=evc aa;clear hh;refine out_new (wanted_none rfl) (w':=ww.alloc (.cells #[.slice none 0 0] 34)) (v:= .slice (some ⟨ww.heap.size,0,none⟩) 1 1) ?_ (TR.of_below hsz (br.alloc lr _)) ⟨_,rfl,hsz,heap_new _ _⟩;generalize aa.eval=ev at ec⊢;go_simp
  try rfl
 refine sq (fun aa ww ll hh=>by have:=hh.oL 1;exact ov (fC (HNB.o ww hh.inv))) ?_;refine sq (fun aa ww ll hh=>by have ec:=evc aa;exact ov gX) ?_;refine ⟨.rel (fun W v=>∃k,v= .tuple #[trV k noT, .int .i64 2]/\TrO w3.heap.size W k noT),(fun W W' v ⟨k,h1,h2⟩ hr=>⟨k,h1,h2.kept hr.oth⟩),rfl,fun aa ww ll hh=>?_,?_⟩
 ·obtain ⟨x31,e31,-,p31⟩:=hh.got 0 3 kq rfl rfl rfl;obtain ⟨x32,e32,-,p32⟩:=hh.got 1 2 kq rfl rfl rfl;have e33:=hh.gt 2 1;have e34:=hh.gt 3 0;have ef:=evf aa;have ec:=evc aa;obtain ⟨sa,rfl,hpa⟩:=p31;obtain ⟨ge,rfl,hge,hgh⟩:=p32;have HI:=hh.inv;have ec:=evc aa;refine out_call (wanted_none rfl) ?_ ((walkA_any sa p23 [[]] (some ⟨ge,0,none⟩) 1 1 ⟨some ⟨w.heap.size,0,none⟩,1,1,some ⟨w.heap.size+1+1,0,none⟩,1,1,none,0,0⟩ (n23 S1) ⟨0,3⟩ none 0 0 [] 2 ww hpa.ok (fun l hl=>by simp only[List.mem_singleton] at hl;rw[hl];exact p23_ok) (row_one (lt_some hgh) ⟨none,0,0,heap_cell hgh rfl,RowAt.nil⟩) (HNT.o ww HI) (n23_sm S1) RowAt.nil dq).mono fun e w9 h=>by obtain ⟨k,h1,h2⟩:=h.1 (bad3 S1);exact ⟨_,h1,⟨k,rfl,h2.lower HI.size⟩,TR.of_below HI.size h.2.2⟩);clear hh HI hpa hgh;generalize aa.eval=ev at e31 e32 e33 e34 ef ec⊢;unfold pgV ntV EdV;go_simp
  try rfl
 refine ⟨.rel (fun W v=>∃k,v= .tuple #[trV k noT, .int .i64 2]/\TrO w3.heap.size W k noT),(fun W W' v ⟨k,h1,h2⟩ hr=>⟨k,h1,h2.kept hr.oth⟩),rfl,fun aa ww ll hh=>?_,?_⟩
 ·obtain ⟨x35,e35,-,p35⟩:=hh.got 4 0 kq rfl rfl rfl;obtain ⟨kk,rfl,hkk⟩:=p35;refine out_new (wanted_none rfl) (v:= .tuple #[trV kk noT, .int .i64 2]) ?_ (TR.refl _ _ _) ⟨kk,rfl,hkk⟩;rw[ex_moveO (by first|exact .inl rfl|exact .inr rfl) e35]
 refine ⟨.rel (fun W v=>∃k,v=trV k noT/\TrO w3.heap.size W k noT),(fun W W' v ⟨k,h1,h2⟩ hr=>⟨k,h1,h2.kept hr.oth⟩),rfl,fun aa ww ll hh=>?_,?_⟩
 ·obtain ⟨x30,e30,-,p30⟩:=hh.got 5 0 kq rfl rfl rfl;obtain ⟨kk,rfl,hkk⟩:=p30;refine out_new (wanted_none rfl) (v:=trV kk noT) ?_ (TR.refl _ _ _) ⟨kk,rfl,hkk⟩;try clear hkk;exact gX
 refine ⟨.eq (.int .i64 2),trivial,rfl,fun aa ww ll hh=>?_,?_⟩
 ·obtain ⟨x30,e30,-,p30⟩:=hh.got 5 1 kq rfl rfl rfl;obtain ⟨kk,rfl,hkk⟩:=p30;refine ov ?_;try clear hkk;exact gX
 refine ⟨.rel (fun W v=>∃g:Nat,v= .pointer (some ⟨g,0,none⟩)/\w3.heap.size<=g/\(W.heap[g]?=some T0\/TDone w3.heap.size noT W g)),(fun W W' v ⟨g,h1,h2,h3⟩ hr=>⟨g,h1,h2,hr.ko g h2 h3⟩),rfl,fun aa ww ll hh=>?_,?_⟩
 ·have hsz:=hh.inv.size;clear hh;refine out_new (wanted_none rfl) (w':=ww.alloc (.cells #[.slice none 0 0, .int .u8 0, .int .i64 0, .int .i64 0, .slice none 0 0, .bool false] 59)) (v:= .pointer (some ⟨ww.heap.size,0,none⟩)) ?_ (TR.of_below hsz (br.alloc lr _)) ⟨_,rfl,hsz, .inl (heap_new _ _)⟩;go_simp
  try rfl
 refine ⟨.rell [8] (fun vs W _=>∃g:Nat,vs=[.pointer (some ⟨g,0,none⟩)]/\w3.heap.size<=g/\TDone w3.heap.size noT W g),(fun vs W W' v ⟨g,h1,h2,h3⟩ hr=>⟨g,h1,h2,hr.k1 g h2 h3⟩),rfl,fun aa ww ll hh=>?_,?_⟩
 ·obtain ⟨x6,e6,-,p6⟩:=hh.got 8 0 kq rfl rfl rfl;obtain ⟨x36,e36,-,p36⟩:=hh.got 6 2 kq rfl rfl rfl;obtain ⟨zz,ez,lz,gg,rfl,h2,h3⟩:=hh.got 8 0 kq rfl rfl rfl;obtain ⟨kk,rfl,hkk⟩:=p36;obtain ⟨d0,d1,d2,d3,d4,d5,hd⟩:=t_six h3;have u0:=heap_cell hd (j:=0) rfl;have u1:=heap_cell hd (j:=1) rfl;have u2:=heap_cell hd (j:=2) rfl;have u3:=heap_cell hd (j:=3) rfl;have u4:=heap_cell hd (j:=4) rfl;have u5:=heap_cell hd (j:=5) rfl;have r0:=heap_free hd 0;have r1:=heap_free hd 1;have r2:=heap_free hd 2;have r3:=heap_free hd 3;have r4:=heap_free hd 4;have r5:=heap_free hd 5;have hs:=TR.store h2 h3 hkk;refine out_store (wanted_none rfl) (w':=set6 ww gg (.slice kk.hp kk.hn kk.hc) (.int .u8 noT.how) (.int .i64 noT.at_.sw) (.int .i64 noT.at_.port) (.slice kk.bp kk.bn kk.bc) (.bool noT.acc)) ?_ hs.1 ⟨gg,by simp only[List.map_cons,List.map_nil,lz],h2,hs.2⟩;rw[ez] at e6;subst e6;have e6:=ez;clear hh hd hs lz h3 ez p6 hkk;generalize aa.eval=ev at e6 e36⊢;unfold trV at e36;go_simp
  try rfl
 refine stm 7 2 ?_;intro ll w4 hS4 hok;have p9:=hok 9 _ rfl;clear hok;simp only[ly];obtain ⟨k3,e3,b3,s3,h3,t3⟩:=p9;simp only[List.map_cons,List.map_nil,List.cons.injEq,and_true] at e3;rw[e3];clear e3 h3 t3 b3 HNT HNB;have HB4:=hD (HB3.o.trans (hS4.mono HB3.o.size));have HX1:Hd (TBx w4 k1 (.slice s1.hp s1.hn s1.hc) (.slice s1.bp s1.bn s1.bc) 1 ⟨0,2⟩ false):=HT3.o.1.below hS4;have HX2:Hd (TBx w4 k2 (.slice s2.hp s2.hn s2.hc) (.slice s2.bp s2.bn s2.bc) 2 ⟨0,0⟩ false):=HT2.o.1.below hS4;have hu:=uconv (HT3.o.2.below keepU hS4);clear HB3 HT3 HT2 hS4;obtain ⟨p1,n1,c1,p2,n2,c2⟩:=s1;obtain ⟨p3,n3,c3,p4,n4,c4⟩:=s2;obtain ⟨⟨q1,q2⟩,q3,q4⟩:=HL.o;dsimp only at q1 q2 q3 q4 HX1 HX2 hu;subst q1 q2 q3 q4;clear HL;obtain ⟨x0,x1,x2,x3,x4,x5⟩:=HX1.o.cells;obtain ⟨y0,y1,y2,y3,y4,y5⟩:=HX2.o.cells;dsimp only at x2 x3 y2 y3;rw[show strOfNums [7]=(⟨#[7]⟩:ByteArray) from rfl] at hu;have hq:∀W:World,(Go.binOp .eql 54 (.agg #[.int .i64 0, .int .i64 2]) (.agg #[.int .i64 0, .int .i64 2])).run Tryz.prog W= .ok (.bool true) W:=fun W=>by rw[eqlE];simp
 go_wp2_with fail;go_ret;exact ⟨rfl,HB4.o⟩
open Go.RowKit
theorem out_app3 {R:World->World->Prop} {ops:Array Oper} {Q:Exit->Act->World->Prop} {o:Oper} {k:Out} {l:Nat->Value} {a:Act} {w:World} {S E:TypeId} {z:Value} {size bytes:Nat} (hw:Region.wanted o (yielded ops a.tmps)=true) (H:ElemOk S E z size bytes)
 (s x:Operand) (ho:o.op=Op.call { callee:=Callee.builtin Builtin.append,args:=#[s,x],argTypes:=#[S,S] })
 (b:Nat) (v:Value) (n:Nat) (xs:List Value) (hs:a.eval s=v) (hown:w.ownsRow b E size v n xs)
 (vx:Value) (m:Nat) (news:List Value) (hx:a.eval x=vx) (hsrc:SrcAt w size vx m news)
 (h63:n+m<=maxLen) (hbytes:(n+m)*bytes<=140737488355328)
 (h0:m=0->news=[]->R w w/\k.ok l w v)
 (hf:∀g cap w',v= .slice (some ⟨g,0,none⟩) n cap->n+m<=cap->w'.ownsRow b E size (.slice (some ⟨g,0,none⟩) (n+m) cap) (n+m) (xs++news)->w.grownBy w' (some g)->R w w'/\k.ok l w' (.slice (some ⟨g,0,none⟩) (n+m) cap))
 (hg:∀v' w',w'.ownsRow w.heap.size E size v' (n+m) (xs++news)->w.grownBy w' none->R w w'/\k.ok l w' v'):OutStep R Tryz.prog ops Q o k l a w:=by
 unfold OutStep;rw[if_pos hw];intro K hK;obtain ⟨i0,hi,hz0,hz1,hz2⟩:=info_parts H.inf;obtain ⟨h1,h2,⟨rfl,rfl⟩|⟨ad,c,rfl,h3⟩⟩:=hsrc
 ·obtain rfl:news=[]:=List.eq_nil_of_length_eq_zero om;have hrun:=run_append_owned_none (P:=Tryz.prog) w b S o.type E i0 size H.und hi v n xs hown;unfold Oper.wp;simp[execOp,ho,resolve,invoke,builtin,hs,hx,hrun,Result.andThen];exact hK _ _ (h0 rfl rfl).1 (h0 rfl rfl).2
 ·have hown':=hown;obtain ⟨hlx,hsh⟩:=hown;rcases hsh with ⟨rfl,rfl⟩|⟨g,cap,cur,rfl,hg0,hg1,hg2,hg3,hg4,hg5⟩
  ·have hxs:xs=[]:=List.eq_nil_of_length_eq_zero (by simpa using hlx);subst hxs;obtain ⟨v',w',hrun,r1,r2,_⟩:=run_append_own (P:=Tryz.prog) w w.heap.size S o.type E i0 z size bytes H.und hi hz0 hz1 hz2 H.zs H.sz (.slice none 0 0) 0 [] (World.ownsRow_nil w _ E size) ad m c news h1 h3 h2 h63 hbytes lr;unfold Oper.wp;simp[execOp,ho,resolve,invoke,builtin,hs,hx,hrun,Result.andThen];exact hK _ _ (hg v' w' r1 r2).1 (hg v' w' r1 r2).2
  ·by_cases hroom:n+m<=cap
   ·obtain ⟨w',hrun,r1,r2⟩:=run_append_fits (P:=Tryz.prog) w b S o.type E i0 size H.und hi hz1 g n cap xs hown' ad m c news h1 h3 h2 hroom;unfold Oper.wp;simp[execOp,ho,resolve,invoke,builtin,hs,hx,hrun,Result.andThen];exact hK _ _ (hf g cap w' rfl hroom r1 r2).1 (hf g cap w' rfl hroom r1 r2).2
   ·obtain ⟨v',w',hrun,r1,r2⟩:=run_append_arg_grows (P:=Tryz.prog) w S o.type E i0 z size bytes H.und hi hz0 hz1 hz2 H.zs H.sz ⟨g,0,none⟩ n cap xs (by simpa using hlx) (hown'.cells rfl) ad m c news h1 h3 om h63 hbytes;unfold Oper.wp;simp[execOp,ho,resolve,invoke,builtin,hs,hx,hrun,Result.andThen];exact hK _ _ (hg v' w' r1 r2).1 (hg v' w' r1 r2).2
theorem elemEd:ElemOk 67 54 (.agg #[.int .i64 0, .int .i64 0]) 2 16:=⟨Tryz.underlying67,by kernel_rfl,rfl,by decide⟩
def edC (e:Ed):List Value:=[.int .i64 e.sw, .int .i64 e.port]
theorem flatEd:Flat 2 EAt2 edC:={
 len:=fun _=>rfl
 one:=fun x u hu=>by simp only[edC,List.mem_cons,List.not_mem_nil,or_false] at hu;rcases hu with rfl|rfl<;>rfl
 get:=fun w b o x h i u hi=>by
  match i,hi with
  |0,hi=>cases hi;exact h.1
  |1,hi=>cases hi;exact h.2
 put:=fun w b o x h=>⟨h 0 _ rfl,h 1 _ rfl⟩ }
structure ZR (b:Nat) (l:List Ed) (x:Ed) (W W':World):Prop where
 low:Below b W W'
 z:∀g,b<=g->W.heap[g]?=some (.cells #[] 54 (0,0))->W'.heap[g]?=some (.cells #[] 54 (0,0))
 s:∀v,W.ownsRow b 54 2 v l.length (l.flatMap edC)->W'.ownsRow b 54 2 v l.length (l.flatMap edC)
 t:∀v,W.ownsRow b 54 2 v (l.length+1) (l.flatMap edC++edC x)->W'.ownsRow b 54 2 v (l.length+1) (l.flatMap edC++edC x)
 o:∀g,b<=g->W.heap[g]?=some (.cells #[.int .i64 x.sw, .int .i64 x.port] 54 (0,0))->W'.heap[g]?=some (.cells #[.int .i64 x.sw, .int .i64 x.port] 54 (0,0))
section
variable {b:Nat} {l:List Ed} {x:Ed} {W W':World}
theorem ZR.refl (b:Nat) (l:List Ed) (x:Ed) (W:World):ZR b l x W W:=⟨Below.refl _ _,fun _ _=>id,fun _=>id,fun _=>id,fun _ _=>id⟩
theorem ZR.of_below (hb:b<=W.heap.size) (h:Bl W W'):ZR b l x W W':=
 ⟨h.mono hb,fun g _ e=>(h.block g (lt_some e)).trans e,fun _ q=>own_far q fun z hz=>h.block z (own_size q hz).2,fun _ q=>own_far q fun z hz=>h.block z (own_size q hz).2,fun g _ e=>(h.block g (lt_some e)).trans e⟩
theorem ZR.grow (hb:b<=W.heap.size) (h:W.grownBy W' none):ZR b l x W W':=
 ZR.of_below hb ⟨h.os,h.tape,h.output,h.size,fun k hk=>h.block k hk sm⟩
theorem ZR.empty {g n:Nat} {xs:List Value} (hb:b<=W.heap.size) (h0:W.heap[g]?=some (.cells #[] 54 (0,0))) (hw:W'.ownsRow b 54 2 (.slice (some ⟨g,0,none⟩) n 0) n xs) (h:W.grownBy W' (some g)):ZR b l x W W':=by
 refine ZR.of_below hb ⟨h.os,h.tape,h.output,h.size,fun k hk=>?_⟩;by_cases hkg:k=g
 ·subst hkg;rcases hw.2 with ⟨q,-⟩|⟨g2,cap,cur,q,-,q1,q2,q3,q4,q5⟩
  ·cases q
  ·simp only[Value.slice.injEq,Option.some.injEq,Addr.mk.injEq,and_true,true_and] at q;obtain ⟨rfl,rfl⟩:=q;obtain rfl:cur=#[]:=Array.eq_empty_of_size_eq_zero om;rw[q1,h0]
 ·exact h.block k hk (by simp[hkg])
theorem ZR.fits {g cap:Nat} (hs:W.ownsRow b 54 2 (.slice (some ⟨g,0,none⟩) l.length cap) l.length (l.flatMap edC)) (hr:l.length+1<=cap) (hw:W'.ownsRow b 54 2 (.slice (some ⟨g,0,none⟩) (l.length+1) cap) (l.length+1) (l.flatMap edC++edC x)) (h:W.grownBy W' (some g)):ZR b l x W W':=by
 have hf:∀(n:Nat) (xs:List Value) (v:Value),W.ownsRow b 54 2 v n xs->v.ownBlock≠some g->W'.ownsRow b 54 2 v n xs:=fun n xs v q hn=>own_far q fun z hz=>h.block z (own_size q hz).2 (by rintro e;cases e;exact hn hz)
 have hl:(l.flatMap edC).length=l.length*2:=flat_len flatEd.len l;have hw0:=hw;rcases hs.2 with ⟨q,-⟩|⟨g2,cap2,cur,q,hbg,q1,q2,q3,q4,q5⟩
 ·cases q
 simp only[Value.slice.injEq,Option.some.injEq,Addr.mk.injEq,and_true,true_and] at q;obtain ⟨rfl,rfl⟩:=q;rcases hw.2 with ⟨q,-⟩|⟨g2,cap2,cur',q,-,p1,p2,-,p4,p5⟩
 ·cases q
 simp only[Value.slice.injEq,Option.some.injEq,Addr.mk.injEq,and_true,true_and] at q;obtain ⟨rfl,rfl⟩:=q;have hB:Below b W W':=⟨h.os,h.tape,h.output,h.size,fun k hk=>by
  by_cases hkw:k<W.heap.size
  ·exact h.block k hkw (by simp;omega)
  ·have:=lt_some q1;omega⟩
 refine ⟨hB,fun k hk e=>?_,fun v q=>?_,fun v q=>?_,fun k hk e=>?_⟩
 ·have hkg:k≠g:=by rintro rfl;rw[q1] at e;simp only[Option.some.injEq,Obj.cells.injEq] at e;rw[e.1] at q4;simp at q4;omega
  exact (h.block k (lt_some e) (by simp[hkg])).trans e
 ·by_cases hv:v.ownBlock=some g
  ·rcases q.2 with ⟨rfl,-⟩|⟨g2,cap2,cur2,rfl,-,r1,r2,r3,r4,r5⟩
   ·cases hv
   ·simp only[Value.ownBlock,Option.some.injEq] at hv;subst hv;rw[q1] at r1;simp only[Option.some.injEq,Obj.cells.injEq,and_true] at r1;subst r1;obtain rfl:cap=cap2:=om
    refine ⟨q.1, .inr ⟨_,_,cur',rfl,hbg,p1,r2,r3,p4,?_⟩⟩;have e2:(cur'.toList.take ((l.length+1)*2)).take (l.length*2)=(l.flatMap edC++edC x).take (l.length*2):=by rw[p5]
    rw[List.take_take,Nat.min_eq_left om, <-hl,List.take_left] at e2;rw[<- hl];exact e2
  ·exact hf _ _ v q hv
 ·by_cases hv:v.ownBlock=some g
  ·rcases q.2 with ⟨rfl,-⟩|⟨g2,cap2,cur2,rfl,-,r1,r2,r3,r4,r5⟩
   ·cases hv
   ·simp only[Value.ownBlock,Option.some.injEq] at hv;subst hv;rw[q1] at r1;simp only[Option.some.injEq,Obj.cells.injEq,and_true] at r1;subst r1;obtain rfl:cap=cap2:=om
    exact hw0
  ·exact hf _ _ v q hv
 ·by_cases hkg:k=g
  ·subst hkg;rw[q1] at e;simp only[Option.some.injEq,Obj.cells.injEq,and_true] at e;subst e;simp only[List.size_toArray,List.length_cons,List.length_nil] at q4;have hl0:l=[]:=List.eq_nil_of_length_eq_zero om;subst hl0;obtain rfl:cap=1:=om
   rw[p1];simp only[List.length_nil,Nat.zero_add,Nat.one_mul,List.flatMap_nil,List.nil_append] at p5 p4;rw[List.take_of_length_le (by rw[Array.length_toList];omega)] at p5;congr 1;simp only[Obj.cells.injEq,and_true];exact Array.toList_inj.1 (by rw[p5];rfl)
  ·exact (h.block k (lt_some e) (by simp[hkg])).trans e
end
theorem ends_row {b:Nat} {l:List Ed} {x:Ed} {W:World} {v:Value} (h:W.ownsRow b 54 2 v (l.length+1) (l.flatMap edC++edC x)):EdRow W v (l++[x]):=
 RowAt.of_flat flatEd (n:=l.length+1) sm (by rw[List.flatMap_append,List.flatMap_cons,List.flatMap_nil,List.append_nil];exact h)
section
variable {b:Nat} {l:List Ed} {x:Ed} {ops:Array Oper} {Q:Exit->Act->World->Prop} {o:Oper} {lv:Nat->Value} {a:Act} {w:World}
theorem ends_app1 (hw:Region.wanted o (yielded ops a.tmps)=true) (s y:Operand) (ho:o.op=Op.call { callee:=Callee.builtin Builtin.append,args:=#[s,y],argTypes:=#[67,67] })
 {g:Nat} (hs:a.eval s= .slice (some ⟨g,0,none⟩) 0 0) (hbg:b<=g) (h0:w.heap[g]?=some (.cells #[] 54 (0,0))) {vx:Value} (hx:a.eval y=vx) (hl:EdRow w vx l) (h40:l.length<=40) (hb:b<=w.heap.size):
 OutStep (ZR b l x) Tryz.prog ops Q o (.rel fun W v=>W.ownsRow b 54 2 v l.length (l.flatMap edC)) lv a w:=by
 have hz:w.ownsRow b 54 2 (.slice (some ⟨g,0,none⟩) 0 0) 0 []:=⟨rfl, .inr ⟨g,0,#[],rfl,hbg,h0,Nat.le_refl _,zl,rfl,rfl⟩⟩;refine out_app3 hw elemEd s y ho b _ 0 [] hs hz vx l.length (l.flatMap edC) hx (RowAt.src flatEd.toFlatG hl) (by unfold maxLen;omega) om (fun e1 e2=>⟨ZR.refl _ _ _ _,?_⟩) (fun g2 cap w' e hc q hg=>?_) (fun v' w' q hg=>⟨ZR.grow hb hg,?_⟩)
 ·show w.ownsRow _ _ _ _ _ _;rw[e1,e2];exact hz
 ·simp only[Value.slice.injEq,Option.some.injEq,Addr.mk.injEq,and_true,true_and] at e;obtain ⟨rfl,rfl⟩:=e;refine ⟨ZR.empty hb h0 q hg,?_⟩;show w'.ownsRow _ _ _ _ _ _;rw[Nat.zero_add,List.nil_append] at q;rw[Nat.zero_add];exact q
 ·show w'.ownsRow _ _ _ _ _ _;rw[Nat.zero_add,List.nil_append] at q;exact own_base q hb
theorem ends_app2 (hw:Region.wanted o (yielded ops a.tmps)=true) (s y:Operand) (ho:o.op=Op.call { callee:=Callee.builtin Builtin.append,args:=#[s,y],argTypes:=#[67,67] })
 {v:Value} (hs:a.eval s=v) (hv:w.ownsRow b 54 2 v l.length (l.flatMap edC)) {g:Nat} (hx:a.eval y= .slice (some ⟨g,0,none⟩) 1 1) (hg:w.heap[g]?=some (.cells #[.int .i64 x.sw, .int .i64 x.port] 54 (0,0))) (h40:l.length<=40) (hb:b<=w.heap.size):
 OutStep (ZR b l x) Tryz.prog ops Q o (.rel fun W v=>W.ownsRow b 54 2 v (l.length+1) (l.flatMap edC++edC x)) lv a w:=by
 refine out_app3 hw elemEd s y ho b v l.length _ hs hv _ 1 (edC x) hx (src_one rfl (flatEd.one x) fun j u hj=>?_) (by unfold maxLen;omega) om (fun e1 e2=>by cases e1) (fun g2 cap w' e hc q hg=>?_) (fun v' w' q hg=>⟨ZR.grow hb hg,?_⟩)
 ·match j,hj with
  |0,hj=>cases hj;exact heap_cell hg rfl
  |1,hj=>cases hj;exact heap_cell hg rfl
 ·subst e;exact ⟨ZR.fits hv hc q hg,q⟩
 ·exact own_base q hb
end
end Go.Proofs.YtikilcbpogfgkaaGreat
