/-
  JourneyOne, walked.
-/
import Derived.Test.YtikilcbpogfgkaaGreatJH29
set_option maxHeartbeats 12800000
set_option maxRecDepth 100000
namespace Go.Proofs.YtikilcbpogfgkaaGreat
open Go.RowKit Stab
theorem oneLaw_any (s:TrS) (t:Trc) (tp:Option Addr) (tn tc:Nat) (l:List Ed) (w:World) (ht:TrOk w s t) (hl:EdRow w (.slice tp tn tc) l):
 Calls Tryz.prog 5 #[trV s t, .slice tp tn tc] w fun e w'=>e= .returned (.bool true)/\Bl w w':=by
 have HKN:Hd (∀ W,CR 13 #[] W (.bool true)):=fun W=>known23_true W
 have HD:Hd (∀ (W:World) (kind:Int) (k:AkS) (l2:List Ed),(Lit.int .u8 kind).wf=true->EdRow W (.slice k.tp k.tn k.tc) l2->CR 16 #[akV kind k,trV s t] W (.bool (doesP kind t.how t.at_ t.acc l2))):=fun W kind k l2 hk h=>does_any kind t.how hk k l2 s.hp s.bp s.hn s.hc s.bn s.bc t.at_ t.acc W h
 have HSM:Hd (∀ W,Bl w W->CR 17 #[trV s t,trV s t] W (.bool true)):=fun W h=>by
  have:=same_anyT s s t t W (ht.below h) (ht.below h);rw[sameT_refl] at this;exact this
 have HLL:Hd (tn=l.length):=hl.ln.1;have HL:=hD hl;clear ht hl;obtain ⟨hops,how,⟨asw,apo⟩,tb,acc⟩:=t;unfold trV at HD HSM⊢;dsimp only at HD HSM⊢;go_enter Tryz.func5,Tryz.ntmps5;have HDK:Hd (∀ (W:World) (kind:Int) (r:Bool),(Lit.int .u8 kind).wf=true->doesP kind how ⟨asw,apo⟩ acc []=r->CR 16 #[.agg #[.int .u8 kind, .slice none 0 0, .slice none 0 0, .slice none 0 0], .agg #[.slice s.hp s.hn s.hc, .int .u8 how, .int .i64 asw, .int .i64 apo, .slice s.bp s.bn s.bc, .bool acc]] W (.bool r)):=fun W kind r hk hr=>by
  have:=HD.o W kind ⟨none,0,0,none,0,0,none,0,0⟩ [] hk RowAt.nil;rw[hr] at this;exact this
 go_upto_region 1 with fail
 obtain ⟨W0,hW0⟩:=nm (w.alloc (.cells #[.slice s.hp s.hn s.hc, .int .u8 how, .int .i64 asw, .int .i64 apo, .slice s.bp s.bn s.bc, .bool acc] 59));have HB0:Hd (Bl w W0):=by show Below _ _ _;rw[hW0];exact bL
 have HT0:Hd (TBx W0 w.heap.size (.slice s.hp s.hn s.hc) (.slice s.bp s.bn s.bc) how ⟨asw,apo⟩ acc):=by show _=_;rw[hW0];exact heap_new _ _
 rw[<- hW0];clear hW0;obtain ⟨c0,c1,c2,c3,c4,c5⟩:=HT0.o.cells;dsimp only at c2 c3;by_cases hg:(40:Int)<(tn:Int)\/(20:Int)<(s.hn:Int)
 ·have hgs:(40:Int)<(tn:Int)\/(¬ (40:Int)<(tn:Int)/\(20:Int)<(s.hn:Int)):=om
  clear hg;rcases hgs with h1|⟨h1,h2⟩
  all_goals
   go_wp2_with (go_at_call 13;refine (HKN.o _).mono ?_;rintro e w9 ⟨rfl,hb9⟩;have HB9:=hD hb9;clear hb9);go_ret;exact ⟨rfl,HB0.o.trans (HB9.o.mono HB0.o.size)⟩
 ·obtain ⟨h1,h2⟩:¬(40:Int)<(tn:Int)/\¬(20:Int)<(s.hn:Int):=om
  clear hg;go_upto_region 5 with fail
  obtain ⟨W2,hW2⟩:=nm (W0.alloc (.cells #[.int .u8 2, .int .u8 3] 5));have HB2:Hd (Bl W0 W2):=by show Below _ _ _;rw[hW2];exact br.alloc lr _
  have HK2:Hd (W2.heap[W0.heap.size]?=some (.cells #[.int .u8 2, .int .u8 3] 5 (0,0))):=by show _=_;rw[hW2];exact heap_new _ _
  have HT2:Hd (TBx W2 w.heap.size (.slice s.hp s.hn s.hc) (.slice s.bp s.bn s.bc) how ⟨asw,apo⟩ acc):=HT0.o.below HB2.o;have HW2:=hD (HB0.o.trans (HB2.o.mono HB0.o.size));rw[<- hW2];clear hW2 c0 c1 c2 c3 c4 c5 HT0;obtain ⟨A2,hA2⟩:=nm (decide (how=2));obtain ⟨A3,hA3⟩:=nm (decide (how=3));have HD2:=hD (fun W=>HDK.o W 2 A2 rfl hA2.symm);have HD3:=hD (fun W=>HDK.o W 3 A3 rfl hA3.symm);have HA2:=hD hA2;have HA3:=hD hA3;clear hA2 hA3;go_loopg [5,23] 2 (fun g one iv wr=>∃(i:Nat) (o:Int),one= .int .i64 o/\iv= .int .i64 (i:Int)/\i+g=2/\Hd ((i=0/\o=0)\/(i=1/\o=(if A2 then 1 else 0))\/(i=2/\o=(if A2 then 1 else 0)+(if A3 then 1 else 0)))/\Hd (Bl W2 wr))
  case atStart=>exact ⟨0,0,rfl,rfl,rfl, .inl ⟨rfl,rfl⟩,Below.refl _ _⟩
  case round=>
   obtain ⟨i,o,rfl,rfl,hig,HO,HBR⟩:=hrel;have HKR:=hD ((HBR.o.block _ (lt_some HK2.o)).trans HK2.o);have HTR:=hD (HT2.o.below HBR.o);have k0:=heap_cell HKR.o (j:=0) rfl;have k1:=heap_cell HKR.o (j:=1) rfl;obtain ⟨c0,c1,c2,c3,c4,c5⟩:=HTR.o.cells;dsimp only at c2 c3;rcases HO.o with ⟨rfl,rfl⟩|⟨rfl,ho⟩|⟨rfl,ho⟩
   ·have q1:(0:Int)<2:=by decide
    cases A2
    all_goals
     go_wp2_with (go_at_call 16;refine (HD2.o _).mono ?_;rintro e w3 ⟨rfl,hb3⟩;have HB3:=hD hb3;clear hb3);go_roundg 1
     case measure=>omega
     case rel=>exact ⟨1,_,rfl,by go_num,rfl, .inr (.inl ⟨rfl,rfl⟩),HBR.o.trans (HB3.o.mono HBR.o.size)⟩
   ·have q1:(1:Int)<2:=by decide
    have HOO:=hD ho;clear ho;cases A3
    all_goals
     go_wp2_with (go_at_call 16;refine (HD3.o _).mono ?_;rintro e w3 ⟨rfl,hb3⟩;have HB3:=hD hb3;clear hb3);go_roundg 0
     case measure=>omega
     case rel=>exact ⟨2,_,rfl,by go_num,rfl, .inr (.inr ⟨rfl,by have h:=HOO.o;cases A2<;>simp at h<;>simp[h]<;>(unfold wrap64;omega)⟩),HBR.o.trans (HB3.o.mono HBR.o.size)⟩
   ·have HOO:=hD ho;have q1:¬(2:Int)<2:=by decide
    clear ho c0 c1 c2 c3 c4 c5 k0 k1;go_upto_region 10 with fail
    have HLR:Hd (∀ W,Bl wr W->EdRow W (.slice tp tn tc) l):=fun W h=>HL.o.below keepEd (HW2.o.trans ((HBR.o.trans (h.mono HBR.o.size)).mono HW2.o.size))
    have hl40:l.length<=40:=by have:=HLL.o;omega
    obtain ⟨RB,hRB0⟩:=nm (decide (how=1));have hRB:(Value.bool (doesP 1 how ⟨asw,apo⟩ acc (l++[⟨asw,apo⟩])))= .bool RB:=by rw[hRB0];simp[doesP]
    have HRB:=hD hRB0;clear hRB0;refine region_outR (ZR wr.heap.size l ⟨asw,apo⟩) (ZR.refl _ _ _) kq (fun W=>Bl wr W) (fun _ _ h hr=>h.trans hr.low) kq (Below.drew br) ?_;refine ⟨.rel (fun W v=>∃g:Nat,v= .slice (some ⟨g,0,none⟩) 0 0/\wr.heap.size<=g/\W.heap[g]?=some (.cells #[] 54 (0,0))),(fun W W' v ⟨g,h1,h2,h3⟩ hr=>⟨g,h1,h2,hr.z g h2 h3⟩),rfl,fun aa ww ll hh=>?_,?_⟩
    ·have hsz:=hh.inv.size;clear hh;refine out_new (wanted_none rfl) (w':=ww.alloc (.cells #[] 54)) (v:= .slice (some ⟨ww.heap.size,0,none⟩) 0 0) ?_ (ZR.of_below hsz (br.alloc lr _)) ⟨_,rfl,hsz,heap_new _ _⟩;go_simp
     try rfl
    refine sq (fun aa ww ll hh=>by exact ov (xmv (hh.oL 1))) ?_;refine ⟨.rel (fun W v=>W.ownsRow wr.heap.size 54 2 v l.length (l.flatMap edC)),(fun W W' v h hr=>hr.s v h),rfl,fun aa ww ll hh=>?_,?_⟩
    ·obtain ⟨x34,e34,-,p34⟩:=hh.got 0 1 kq rfl rfl rfl;have e35:=hh.gt 1 0;obtain ⟨gq,rfl,hgq,hq0⟩:=p34;have HI:=hh.inv;exact ends_app1 (wanted_none rfl) (.tmp 34) (.tmp 35) rfl e34 hgq hq0 e35 (HLR.o ww HI) hl40 HI.size
    refine sq (fun aa ww ll hh=>by have:=hh.oL 2;exact ov gX) ?_;refine sq (fun aa ww ll hh=>by have:=hh.gt 3 0;obtain ⟨c0,c1,c2,c3,c4,c5⟩:=(HTR.o.below hh.inv).cells;dsimp only at c2 c3;exact ov gX) ?_;refine ⟨.rel (fun W v=>∃g:Nat,v= .slice (some ⟨g,0,none⟩) 1 1/\wr.heap.size<=g/\W.heap[g]?=some (.cells #[.int .i64 asw, .int .i64 apo] 54 (0,0))),(fun W W' v ⟨g,h1,h2,h3⟩ hr=>⟨g,h1,h2,hr.o g h2 h3⟩),rfl,fun aa ww ll hh=>?_,?_⟩
    ·have e38:=hh.gt 4 0;have hsz:=hh.inv.size;clear hh;refine out_new (wanted_none rfl) (w':=ww.alloc (.cells #[.int .i64 asw, .int .i64 apo] 54)) (v:= .slice (some ⟨ww.heap.size,0,none⟩) 1 1) ?_ (ZR.of_below hsz (br.alloc lr _)) ⟨_,rfl,hsz,heap_new _ _⟩;generalize aa.eval=ev at e38⊢;go_simp
     try rfl
    refine ⟨.rel (fun W v=>W.ownsRow wr.heap.size 54 2 v (l.length+1) ((l.flatMap edC)++edC ⟨asw,apo⟩)),(fun W W' v h hr=>hr.t v h),rfl,fun aa ww ll hh=>?_,?_⟩
    ·obtain ⟨x36,e36,-,p36⟩:=hh.got 2 3 kq rfl rfl rfl;obtain ⟨x39,e39,-,p39⟩:=hh.got 5 0 kq rfl rfl rfl;obtain ⟨gq,rfl,hgq,hq0⟩:=p39;have HI:=hh.inv;exact ends_app2 (wanted_none rfl) (.tmp 36) (.tmp 39) rfl e36 p36 e39 hq0 hl40 HI.size
    refine ⟨.rel (fun W v=>∃p c,v= .agg #[.int .u8 1, .slice none 0 0, .slice p (l.length+1) c, .slice none 0 0]/\W.ownsRow wr.heap.size 54 2 (.slice p (l.length+1) c) (l.length+1) ((l.flatMap edC)++edC ⟨asw,apo⟩)),(fun W W' v ⟨p,c,h1,h2⟩ hr=>⟨p,c,h1,hr.t _ h2⟩),rfl,fun aa ww ll hh=>?_,?_⟩
    ·obtain ⟨x40,e40,-,p40⟩:=hh.got 6 0 kq rfl rfl rfl;have ec:=evc aa;obtain ⟨pp,cc,rfl⟩:=own_sh p40;refine out_new (wanted_none rfl) (v:= .agg #[.int .u8 1, .slice none 0 0, .slice pp (l.length+1) cc, .slice none 0 0]) ?_ (ZR.refl _ _ _ _) ⟨pp,cc,rfl,p40⟩;have ec:=evc aa;try clear p40;exact gX
    refine sq (fun aa ww ll hh=>by have:=hh.oL 2;obtain ⟨c0,c1,c2,c3,c4,c5⟩:=(HTR.o.below hh.inv).cells;dsimp only at c2 c3;exact ov gX) ?_;refine ⟨.rel (fun W v=>v= .bool RB),(fun W W' v h hr=>h),rfl,fun aa ww ll hh=>?_,?_⟩
    ·obtain ⟨x41,e41,-,p41⟩:=hh.got 7 1 kq rfl rfl rfl;have e42:=hh.gt 8 0;have ef:=evf aa;obtain ⟨pp,cc,rfl,hp⟩:=p41;have HI:=hh.inv;refine out_call (wanted_none rfl) ?_ ((HD.o ww 1 ⟨none,0,0,pp,l.length+1,cc,none,0,0⟩ (l++[⟨asw,apo⟩]) rfl (ends_row hp)).mono fun e w9 h=>⟨Value.bool RB,by rw[<- hRB];exact h.1,rfl,ZR.of_below HI.size h.2⟩);clear hh HI hp;generalize aa.eval=ev at e41 e42 ef⊢;unfold akV;go_simp
     try rfl
    refine ⟨.rel (fun W v=>v= .bool RB),(fun W W' v h hr=>h),rfl,fun aa ww ll hh=>?_,?_⟩
    ·obtain ⟨x43,e43,-,p43⟩:=hh.got 9 0 kq rfl rfl rfl;refine out_new (v:=x43) (wanted_none rfl) ?_ (ZR.refl _ _ _ _) p43;rw[ex_moveO (by first|exact .inl rfl|exact .inr rfl) e43]
    intro ll w3 hS3 hok;have p10:=hok 10 _ rfl;clear hok;simp only[ly];have e10:ll (0+1+1+1+1+1+1+1+1+1+1)= .bool RB:=p10;rw[e10];clear e10 p10;have HT3:Hd (TBx w3 w.heap.size (.slice s.hp s.hn s.hc) (.slice s.bp s.bn s.bc) how ⟨asw,apo⟩ acc):=HTR.o.below hS3;have HB3:=hD ((HW2.o.trans (HBR.o.mono HW2.o.size)).trans (hS3.mono (HW2.o.trans (HBR.o.mono HW2.o.size)).size));clear HBR HKR HTR HLR HB2 HK2 HT2 HD2 HD3 hS3 hRB;obtain ⟨RT,hRT⟩:=nm (decide (how=1)&&l.contains ⟨asw,apo⟩);have HDT:Hd (∀ (W:World) (kind:Int),kind=5\/kind=1->Bl w W->CR 16 #[.agg #[.int .u8 kind, .slice none 0 0, .slice tp tn tc, .slice none 0 0], .agg #[.slice s.hp s.hn s.hc, .int .u8 how, .int .i64 asw, .int .i64 apo, .slice s.bp s.bn s.bc, .bool acc]] W (.bool RT)):=fun W kind hk hb=>by
     have:=HD.o W kind ⟨none,0,0,tp,tn,tc,none,0,0⟩ l (by rcases hk with rfl|rfl<;>rfl) (HL.o.below keepEd hb);rw[show doesP kind how ⟨asw,apo⟩ acc l=RT by rw[hRT];rcases hk with rfl|rfl<;>simp[doesP]] at this;exact this
    have HD4:Hd (∀ W,CR 16 #[.agg #[.int .u8 4, .slice none 0 0, .slice none 0 0, .slice none 0 0], .agg #[.slice s.hp s.hn s.hc, .int .u8 how, .int .i64 asw, .int .i64 apo, .slice s.bp s.bn s.bc, .bool acc]] W (.bool acc)):=fun W=>HDK.o W 4 acc rfl (by simp[doesP])
    have HD0:Hd (∀ W,CR 16 #[.agg #[.int .u8 0, .slice none 0 0, .slice none 0 0, .slice none 0 0], .agg #[.slice s.hp s.hn s.hc, .int .u8 how, .int .i64 asw, .int .i64 apo, .slice s.bp s.bn s.bc, .bool acc]] W (.bool false)):=fun W=>HDK.o W 0 false rfl (by simp[doesP])
    clear hRT HD HDK HL;have hcs:(how=1/\RB=true/\o=0)\/(how=2/\RB=false/\o=1)\/(how=3/\RB=false/\o=1)\/(¬ how=1/\¬how=2/\¬how=3/\RB=false/\o=0):=by
     have q1:=HRB.o;have q2:=HA2.o;have q3:=HA3.o;have q4:=HOO.o;subst q1 q2 q3;by_cases a1:how=1
     ·subst a1;simp at q4;exact .inl ⟨rfl,by simp,q4⟩
     ·by_cases a2:how=2
      ·subst a2;simp at q4;exact .inr (.inl ⟨rfl,by simp,q4⟩)
      ·by_cases a3:how=3
       ·subst a3;simp at q4;exact .inr (.inr (.inl ⟨rfl,by simp,q4⟩))
       ·simp[a2,a3] at q4;exact .inr (.inr (.inr ⟨a1,a2,a3,by simp[a1],q4⟩))
    clear HRB HA2 HA3 HOO HO hig q1;rcases hcs with ⟨rfl,rfl,rfl⟩|⟨rfl,rfl,rfl⟩|⟨rfl,rfl,rfl⟩|⟨hn1,hn2,hn3,rfl,rfl⟩
    ·have HD5:Hd (∀ W,Bl w3 W->CR 16 #[.agg #[.int .u8 5, .slice none 0 0, .slice tp tn tc, .slice none 0 0], .agg #[.slice s.hp s.hn s.hc, .int .u8 1, .int .i64 asw, .int .i64 apo, .slice s.bp s.bn s.bc, .bool acc]] W (.bool RT)):=fun W h=>HDT.o W 5 (.inl rfl) (HB3.o.trans (h.mono HB3.o.size))
     have HD1:Hd (∀ W,Bl w3 W->CR 16 #[.agg #[.int .u8 1, .slice none 0 0, .slice tp tn tc, .slice none 0 0], .agg #[.slice s.hp s.hn s.hc, .int .u8 1, .int .i64 asw, .int .i64 apo, .slice s.bp s.bn s.bc, .bool acc]] W (.bool RT)):=fun W h=>HDT.o W 1 (.inr rfl) (HB3.o.trans (h.mono HB3.o.size))
     clear HDT;have CC:=HT3.o.cells;obtain ⟨c0,c1,c2,c3,c4,c5⟩:=CC;dsimp only at c2 c3;go_upto_region 14 with fail
     clear c0 c1 c2 c3 c4 c5;refine roB w3 ?_;refine sq (fun aa ww ll hh=>by exact ov (xmv (hh.oL 1))) ?_;refine sq (fun aa ww ll hh=>by have:=hh.gt 0 0;have ec:=evc aa;exact ov gX) ?_;refine sq (fun aa ww ll hh=>by have:=hh.oL 2;obtain ⟨c0,c1,c2,c3,c4,c5⟩:=(HT3.o.below hh.inv).cells;dsimp only at c2 c3;exact ov gX) ?_;refine ⟨.eq (.bool RT),trivial,rfl,fun aa ww ll hh=>?_,?_⟩
     ·have e61:=hh.gt 1 1;have e62:=hh.gt 2 0;have ef:=evf aa;refine out_call_eq (wanted_none rfl) ?_ (HD5.o ww hh.inv);exact gX
     refine sq (fun aa ww ll hh=>by exact ov (xmv (hh.oL 1))) ?_;refine sq (fun aa ww ll hh=>by have:=hh.gt 4 0;have ec:=evc aa;exact ov gX) ?_;refine sq (fun aa ww ll hh=>by have:=hh.oL 2;obtain ⟨c0,c1,c2,c3,c4,c5⟩:=(HT3.o.below hh.inv).cells;dsimp only at c2 c3;exact ov gX) ?_;refine ⟨.eq (.bool RT),trivial,rfl,fun aa ww ll hh=>?_,?_⟩
     ·have e65:=hh.gt 5 1;have e66:=hh.gt 6 0;have ef:=evf aa;refine out_call_eq (wanted_none rfl) ?_ (HD1.o ww hh.inv);exact gX
     refine ⟨.eq (.bool true),trivial,rfl,fun aa ww ll hh=>?_,?_⟩
     ·have e63:=hh.gt 3 4;have e67:=hh.gt 7 0;refine ov ?_;clear hh;generalize aa.eval=ev at e63 e67⊢;go_simp
      try simp
     refine stm 8 0 ?_;intro ll w5 hS5 hok;clear hok;simp only[ly];have HT5:Hd (TBx w5 w.heap.size (.slice s.hp s.hn s.hc) (.slice s.bp s.bn s.bc) 1 ⟨asw,apo⟩ acc):=HT3.o.below hS5;have HB5:=hD (HB3.o.trans (hS5.mono HB3.o.size));clear HT3 HB3 HD5 HD1 hS5;go_upto_region 15 with fail
     refine roB w5 ?_;refine sq (fun aa ww ll hh=>by exact ov (xmv (hh.oL 5))) ?_;refine sq (fun aa ww ll hh=>by have:=hh.gt 0 0;have ec:=evc aa;exact ov gX) ?_;refine sq (fun aa ww ll hh=>by exact ov (xmv (hh.oL 9))) ?_;refine sq (fun aa ww ll hh=>by have:=hh.gt 1 1;have:=hh.gt 2 0;exact ov gX) ?_;refine stm 3 0 ?_;refine sq (fun aa ww ll hh=>by exact hh.og 0 (xmv (hh.oL 5))) ?_;refine sq (fun aa ww ll hh=>by have:=hh.gt 5 0;have ec:=evc aa;exact hh.og 1 gX) ?_;refine sq (fun aa ww ll hh=>by have:=hh.gt 4 2;have:=hh.gt 6 0;have ec:=evc aa;exact ov gX) ?_;refine stm 7 0 ?_;refine sq (fun aa ww ll hh=>by exact hh.og 0 (xmv (hh.oL 10))) ?_;refine sq (fun aa ww ll hh=>by have:=hh.gt 8 1;have:=hh.gt 9 0;have ec:=evc aa;exact ov gX) ?_;refine stm 10 0 ?_;refine sq (fun aa ww ll hh=>by have ec:=evc aa;exact hh.og 0 gX) ?_;refine sq (fun aa ww ll hh=>by have:=hh.oL 2;obtain ⟨c0,c1,c2,c3,c4,c5⟩:=(HT5.o.below hh.inv).cells;dsimp only at c2 c3;exact hh.og 1 gX) ?_;refine ⟨.eq (.bool acc),trivial,rfl,fun aa ww ll hh=>?_,?_⟩
     ·have e81:=hh.gt 12 1;have e82:=hh.gt 13 0;have ef:=evf aa;refine out_call_eq (hh.go 2 rfl kq rfl rfl) ?_ (HD4.o ww);exact gX
     refine sq (fun aa ww ll hh=>by have:=hh.oL 2;exact hh.og 3 gX) ?_;refine sq (fun aa ww ll hh=>by have:=hh.gt 15 0;obtain ⟨c0,c1,c2,c3,c4,c5⟩:=(HT5.o.below hh.inv).cells;dsimp only at c2 c3;exact hh.og 4 gX) ?_;refine ⟨.eq (.bool true),trivial,rfl,fun aa ww ll hh=>?_,?_⟩
     ·have e83:=hh.gt 14 2;have e85:=hh.gt 16 0;refine hh.og 5 ?_;clear hh;generalize aa.eval=ev at e83 e85⊢;go_simp
      try simp
     refine sq (fun aa ww ll hh=>by have:=hh.gt 11 6;have:=hh.gt 17 0;have ec:=evc aa;exact ov gX) ?_;refine stm 18 0 ?_;refine stq ?_ (fun aa ww ll hh=>?_) ?_;rotate_left
     ·refine hh.og 0 ?_;clear hh;generalize aa.eval=ev at⊢;go_simp
      try rfl
     refine sq (fun aa ww ll hh=>by have:=hh.oL 2;obtain ⟨c0,c1,c2,c3,c4,c5⟩:=(HT5.o.below hh.inv).cells;dsimp only at c2 c3;exact hh.og 1 gX) ?_;refine ⟨.eq (.bool false),trivial,rfl,fun aa ww ll hh=>?_,?_⟩
     ·have e89:=hh.gt 20 1;have e90:=hh.gt 21 0;have ef:=evf aa;refine out_call_eq (hh.go 2 rfl kq rfl rfl) ?_ (HD0.o ww);exact gX
     refine sq (fun aa ww ll hh=>by have:=hh.gt 22 0;exact hh.og 3 gX) ?_;refine sq (fun aa ww ll hh=>by have:=hh.gt 19 4;have:=hh.gt 23 0;have ec:=evc aa;exact ov gX) ?_;refine stm 24 0 ?_;refine sq (fun aa ww ll hh=>by have:=hh.oL 2;obtain ⟨c0,c1,c2,c3,c4,c5⟩:=(HT5.o.below hh.inv).cells;dsimp only at c2 c3;exact hh.og 0 gX) ?_;refine sq (fun aa ww ll hh=>by have:=hh.oL 2;obtain ⟨c0,c1,c2,c3,c4,c5⟩:=(HT5.o.below hh.inv).cells;dsimp only at c2 c3;exact hh.og 1 gX) ?_;refine ⟨.eq (.bool true),trivial,rfl,fun aa ww ll hh=>?_,?_⟩
     ·have e95:=hh.gt 26 1;have e96:=hh.gt 27 0;have ef:=evf aa;refine out_call_eq (hh.go 2 rfl kq rfl rfl) ?_ (HSM.o ww (HB5.o.trans (hh.inv.mono HB5.o.size)));exact gX
     refine sq (fun aa ww ll hh=>by have:=hh.gt 25 3;have:=hh.gt 28 0;have ec:=evc aa;exact ov gX) ?_;refine stm 29 0 ?_;refine ⟨.eq (.bool true),trivial,rfl,fun aa ww ll hh=>?_,?_⟩
     ·have ef:=evf aa;refine out_call_eq (hh.go 0 rfl kq rfl rfl) ?_ (HKN.o ww);exact gX
     refine sq (fun aa ww ll hh=>by have:=hh.gt 30 1;have:=hh.gt 31 0;have ec:=evc aa;exact ov gX) ?_;refine stm 32 0 ?_;intro ll w6 hS6 hok;clear hok;simp only[ly];have HB6:=hD (HB5.o.trans (hS6.mono HB5.o.size));clear HB5 hS6 HT5;go_wp2_with fail;go_ret;exact ⟨rfl,HB6.o⟩
    ·have HD5:Hd (∀ W,Bl w3 W->CR 16 #[.agg #[.int .u8 5, .slice none 0 0, .slice tp tn tc, .slice none 0 0], .agg #[.slice s.hp s.hn s.hc, .int .u8 2, .int .i64 asw, .int .i64 apo, .slice s.bp s.bn s.bc, .bool acc]] W (.bool RT)):=fun W h=>HDT.o W 5 (.inl rfl) (HB3.o.trans (h.mono HB3.o.size))
     have HD1:Hd (∀ W,Bl w3 W->CR 16 #[.agg #[.int .u8 1, .slice none 0 0, .slice tp tn tc, .slice none 0 0], .agg #[.slice s.hp s.hn s.hc, .int .u8 2, .int .i64 asw, .int .i64 apo, .slice s.bp s.bn s.bc, .bool acc]] W (.bool RT)):=fun W h=>HDT.o W 1 (.inr rfl) (HB3.o.trans (h.mono HB3.o.size))
     clear HDT;have CC:=HT3.o.cells;obtain ⟨c0,c1,c2,c3,c4,c5⟩:=CC;dsimp only at c2 c3;go_upto_region 14 with fail
     clear c0 c1 c2 c3 c4 c5;refine roB w3 ?_;refine sq (fun aa ww ll hh=>by exact ov (xmv (hh.oL 1))) ?_;refine sq (fun aa ww ll hh=>by have:=hh.gt 0 0;have ec:=evc aa;exact ov gX) ?_;refine sq (fun aa ww ll hh=>by have:=hh.oL 2;obtain ⟨c0,c1,c2,c3,c4,c5⟩:=(HT3.o.below hh.inv).cells;dsimp only at c2 c3;exact ov gX) ?_;refine ⟨.eq (.bool RT),trivial,rfl,fun aa ww ll hh=>?_,?_⟩
     ·have e61:=hh.gt 1 1;have e62:=hh.gt 2 0;have ef:=evf aa;refine out_call_eq (wanted_none rfl) ?_ (HD5.o ww hh.inv);exact gX
     refine sq (fun aa ww ll hh=>by exact ov (xmv (hh.oL 1))) ?_;refine sq (fun aa ww ll hh=>by have:=hh.gt 4 0;have ec:=evc aa;exact ov gX) ?_;refine sq (fun aa ww ll hh=>by have:=hh.oL 2;obtain ⟨c0,c1,c2,c3,c4,c5⟩:=(HT3.o.below hh.inv).cells;dsimp only at c2 c3;exact ov gX) ?_;refine ⟨.eq (.bool RT),trivial,rfl,fun aa ww ll hh=>?_,?_⟩
     ·have e65:=hh.gt 5 1;have e66:=hh.gt 6 0;have ef:=evf aa;refine out_call_eq (wanted_none rfl) ?_ (HD1.o ww hh.inv);exact gX
     refine ⟨.eq (.bool true),trivial,rfl,fun aa ww ll hh=>?_,?_⟩
     ·have e63:=hh.gt 3 4;have e67:=hh.gt 7 0;refine ov ?_;clear hh;generalize aa.eval=ev at e63 e67⊢;go_simp
      try simp
     refine stm 8 0 ?_;intro ll w5 hS5 hok;clear hok;simp only[ly];have HT5:Hd (TBx w5 w.heap.size (.slice s.hp s.hn s.hc) (.slice s.bp s.bn s.bc) 2 ⟨asw,apo⟩ acc):=HT3.o.below hS5;have HB5:=hD (HB3.o.trans (hS5.mono HB3.o.size));clear HT3 HB3 HD5 HD1 hS5;go_upto_region 15 with fail
     refine roB w5 ?_;refine sq (fun aa ww ll hh=>by exact ov (xmv (hh.oL 5))) ?_;refine sq (fun aa ww ll hh=>by have:=hh.gt 0 0;have ec:=evc aa;exact ov gX) ?_;refine sq (fun aa ww ll hh=>by exact ov (xmv (hh.oL 9))) ?_;refine sq (fun aa ww ll hh=>by have:=hh.gt 1 1;have:=hh.gt 2 0;exact ov gX) ?_;refine stm 3 0 ?_;refine sq (fun aa ww ll hh=>by exact hh.og 0 (xmv (hh.oL 5))) ?_;refine sq (fun aa ww ll hh=>by have:=hh.gt 5 0;have ec:=evc aa;exact hh.og 1 gX) ?_;refine sq (fun aa ww ll hh=>by have:=hh.gt 4 2;have:=hh.gt 6 0;have ec:=evc aa;exact ov gX) ?_;refine stm 7 0 ?_;refine sq (fun aa ww ll hh=>by exact hh.og 0 (xmv (hh.oL 10))) ?_;refine sq (fun aa ww ll hh=>by have:=hh.gt 8 1;have:=hh.gt 9 0;have ec:=evc aa;exact ov gX) ?_;refine stm 10 0 ?_;refine sq (fun aa ww ll hh=>by have ec:=evc aa;exact hh.og 0 gX) ?_;refine sq (fun aa ww ll hh=>by have:=hh.oL 2;obtain ⟨c0,c1,c2,c3,c4,c5⟩:=(HT5.o.below hh.inv).cells;dsimp only at c2 c3;exact hh.og 1 gX) ?_;refine ⟨.eq (.bool acc),trivial,rfl,fun aa ww ll hh=>?_,?_⟩
     ·have e81:=hh.gt 12 1;have e82:=hh.gt 13 0;have ef:=evf aa;refine out_call_eq (hh.go 2 rfl kq rfl rfl) ?_ (HD4.o ww);exact gX
     refine sq (fun aa ww ll hh=>by have:=hh.oL 2;exact hh.og 3 gX) ?_;refine sq (fun aa ww ll hh=>by have:=hh.gt 15 0;obtain ⟨c0,c1,c2,c3,c4,c5⟩:=(HT5.o.below hh.inv).cells;dsimp only at c2 c3;exact hh.og 4 gX) ?_;refine ⟨.eq (.bool true),trivial,rfl,fun aa ww ll hh=>?_,?_⟩
     ·have e83:=hh.gt 14 2;have e85:=hh.gt 16 0;refine hh.og 5 ?_;clear hh;generalize aa.eval=ev at e83 e85⊢;go_simp
      try simp
     refine sq (fun aa ww ll hh=>by have:=hh.gt 11 6;have:=hh.gt 17 0;have ec:=evc aa;exact ov gX) ?_;refine stm 18 0 ?_;refine stq ?_ (fun aa ww ll hh=>?_) ?_;rotate_left
     ·refine hh.og 0 ?_;clear hh;generalize aa.eval=ev at⊢;go_simp
      try rfl
     refine sq (fun aa ww ll hh=>by have:=hh.oL 2;obtain ⟨c0,c1,c2,c3,c4,c5⟩:=(HT5.o.below hh.inv).cells;dsimp only at c2 c3;exact hh.og 1 gX) ?_;refine ⟨.eq (.bool false),trivial,rfl,fun aa ww ll hh=>?_,?_⟩
     ·have e89:=hh.gt 20 1;have e90:=hh.gt 21 0;have ef:=evf aa;refine out_call_eq (hh.go 2 rfl kq rfl rfl) ?_ (HD0.o ww);exact gX
     refine sq (fun aa ww ll hh=>by have:=hh.gt 22 0;exact hh.og 3 gX) ?_;refine sq (fun aa ww ll hh=>by have:=hh.gt 19 4;have:=hh.gt 23 0;have ec:=evc aa;exact ov gX) ?_;refine stm 24 0 ?_;refine sq (fun aa ww ll hh=>by have:=hh.oL 2;obtain ⟨c0,c1,c2,c3,c4,c5⟩:=(HT5.o.below hh.inv).cells;dsimp only at c2 c3;exact hh.og 0 gX) ?_;refine sq (fun aa ww ll hh=>by have:=hh.oL 2;obtain ⟨c0,c1,c2,c3,c4,c5⟩:=(HT5.o.below hh.inv).cells;dsimp only at c2 c3;exact hh.og 1 gX) ?_;refine ⟨.eq (.bool true),trivial,rfl,fun aa ww ll hh=>?_,?_⟩
     ·have e95:=hh.gt 26 1;have e96:=hh.gt 27 0;have ef:=evf aa;refine out_call_eq (hh.go 2 rfl kq rfl rfl) ?_ (HSM.o ww (HB5.o.trans (hh.inv.mono HB5.o.size)));exact gX
     refine sq (fun aa ww ll hh=>by have:=hh.gt 25 3;have:=hh.gt 28 0;have ec:=evc aa;exact ov gX) ?_;refine stm 29 0 ?_;refine ⟨.eq (.bool true),trivial,rfl,fun aa ww ll hh=>?_,?_⟩
     ·have ef:=evf aa;refine out_call_eq (hh.go 0 rfl kq rfl rfl) ?_ (HKN.o ww);exact gX
     refine sq (fun aa ww ll hh=>by have:=hh.gt 30 1;have:=hh.gt 31 0;have ec:=evc aa;exact ov gX) ?_;refine stm 32 0 ?_;intro ll w6 hS6 hok;clear hok;simp only[ly];have HB6:=hD (HB5.o.trans (hS6.mono HB5.o.size));clear HB5 hS6 HT5;go_wp2_with fail;go_ret;exact ⟨rfl,HB6.o⟩
    ·have HD5:Hd (∀ W,Bl w3 W->CR 16 #[.agg #[.int .u8 5, .slice none 0 0, .slice tp tn tc, .slice none 0 0], .agg #[.slice s.hp s.hn s.hc, .int .u8 3, .int .i64 asw, .int .i64 apo, .slice s.bp s.bn s.bc, .bool acc]] W (.bool RT)):=fun W h=>HDT.o W 5 (.inl rfl) (HB3.o.trans (h.mono HB3.o.size))
     have HD1:Hd (∀ W,Bl w3 W->CR 16 #[.agg #[.int .u8 1, .slice none 0 0, .slice tp tn tc, .slice none 0 0], .agg #[.slice s.hp s.hn s.hc, .int .u8 3, .int .i64 asw, .int .i64 apo, .slice s.bp s.bn s.bc, .bool acc]] W (.bool RT)):=fun W h=>HDT.o W 1 (.inr rfl) (HB3.o.trans (h.mono HB3.o.size))
     clear HDT;have CC:=HT3.o.cells;obtain ⟨c0,c1,c2,c3,c4,c5⟩:=CC;dsimp only at c2 c3;go_upto_region 14 with fail
     clear c0 c1 c2 c3 c4 c5;refine roB w3 ?_;refine sq (fun aa ww ll hh=>by exact ov (xmv (hh.oL 1))) ?_;refine sq (fun aa ww ll hh=>by have:=hh.gt 0 0;have ec:=evc aa;exact ov gX) ?_;refine sq (fun aa ww ll hh=>by have:=hh.oL 2;obtain ⟨c0,c1,c2,c3,c4,c5⟩:=(HT3.o.below hh.inv).cells;dsimp only at c2 c3;exact ov gX) ?_;refine ⟨.eq (.bool RT),trivial,rfl,fun aa ww ll hh=>?_,?_⟩
     ·have e61:=hh.gt 1 1;have e62:=hh.gt 2 0;have ef:=evf aa;refine out_call_eq (wanted_none rfl) ?_ (HD5.o ww hh.inv);exact gX
     refine sq (fun aa ww ll hh=>by exact ov (xmv (hh.oL 1))) ?_;refine sq (fun aa ww ll hh=>by have:=hh.gt 4 0;have ec:=evc aa;exact ov gX) ?_;refine sq (fun aa ww ll hh=>by have:=hh.oL 2;obtain ⟨c0,c1,c2,c3,c4,c5⟩:=(HT3.o.below hh.inv).cells;dsimp only at c2 c3;exact ov gX) ?_;refine ⟨.eq (.bool RT),trivial,rfl,fun aa ww ll hh=>?_,?_⟩
     ·have e65:=hh.gt 5 1;have e66:=hh.gt 6 0;have ef:=evf aa;refine out_call_eq (wanted_none rfl) ?_ (HD1.o ww hh.inv);exact gX
     refine ⟨.eq (.bool true),trivial,rfl,fun aa ww ll hh=>?_,?_⟩
     ·have e63:=hh.gt 3 4;have e67:=hh.gt 7 0;refine ov ?_;clear hh;generalize aa.eval=ev at e63 e67⊢;go_simp
      try simp
     refine stm 8 0 ?_;intro ll w5 hS5 hok;clear hok;simp only[ly];have HT5:Hd (TBx w5 w.heap.size (.slice s.hp s.hn s.hc) (.slice s.bp s.bn s.bc) 3 ⟨asw,apo⟩ acc):=HT3.o.below hS5;have HB5:=hD (HB3.o.trans (hS5.mono HB3.o.size));clear HT3 HB3 HD5 HD1 hS5;go_upto_region 15 with fail
     refine roB w5 ?_;refine sq (fun aa ww ll hh=>by exact ov (xmv (hh.oL 5))) ?_;refine sq (fun aa ww ll hh=>by have:=hh.gt 0 0;have ec:=evc aa;exact ov gX) ?_;refine sq (fun aa ww ll hh=>by exact ov (xmv (hh.oL 9))) ?_;refine sq (fun aa ww ll hh=>by have:=hh.gt 1 1;have:=hh.gt 2 0;exact ov gX) ?_;refine stm 3 0 ?_;refine sq (fun aa ww ll hh=>by exact hh.og 0 (xmv (hh.oL 5))) ?_;refine sq (fun aa ww ll hh=>by have:=hh.gt 5 0;have ec:=evc aa;exact hh.og 1 gX) ?_;refine sq (fun aa ww ll hh=>by have:=hh.gt 4 2;have:=hh.gt 6 0;have ec:=evc aa;exact ov gX) ?_;refine stm 7 0 ?_;refine sq (fun aa ww ll hh=>by exact hh.og 0 (xmv (hh.oL 10))) ?_;refine sq (fun aa ww ll hh=>by have:=hh.gt 8 1;have:=hh.gt 9 0;have ec:=evc aa;exact ov gX) ?_;refine stm 10 0 ?_;refine sq (fun aa ww ll hh=>by have ec:=evc aa;exact hh.og 0 gX) ?_;refine sq (fun aa ww ll hh=>by have:=hh.oL 2;obtain ⟨c0,c1,c2,c3,c4,c5⟩:=(HT5.o.below hh.inv).cells;dsimp only at c2 c3;exact hh.og 1 gX) ?_;refine ⟨.eq (.bool acc),trivial,rfl,fun aa ww ll hh=>?_,?_⟩
     ·have e81:=hh.gt 12 1;have e82:=hh.gt 13 0;have ef:=evf aa;refine out_call_eq (hh.go 2 rfl kq rfl rfl) ?_ (HD4.o ww);exact gX
     refine sq (fun aa ww ll hh=>by have:=hh.oL 2;exact hh.og 3 gX) ?_;refine sq (fun aa ww ll hh=>by have:=hh.gt 15 0;obtain ⟨c0,c1,c2,c3,c4,c5⟩:=(HT5.o.below hh.inv).cells;dsimp only at c2 c3;exact hh.og 4 gX) ?_;refine ⟨.eq (.bool true),trivial,rfl,fun aa ww ll hh=>?_,?_⟩
     ·have e83:=hh.gt 14 2;have e85:=hh.gt 16 0;refine hh.og 5 ?_;clear hh;generalize aa.eval=ev at e83 e85⊢;go_simp
      try simp
     refine sq (fun aa ww ll hh=>by have:=hh.gt 11 6;have:=hh.gt 17 0;have ec:=evc aa;exact ov gX) ?_;refine stm 18 0 ?_;refine stq ?_ (fun aa ww ll hh=>?_) ?_;rotate_left
     ·refine hh.og 0 ?_;clear hh;generalize aa.eval=ev at⊢;go_simp
      try rfl
     refine sq (fun aa ww ll hh=>by have:=hh.oL 2;obtain ⟨c0,c1,c2,c3,c4,c5⟩:=(HT5.o.below hh.inv).cells;dsimp only at c2 c3;exact hh.og 1 gX) ?_;refine ⟨.eq (.bool false),trivial,rfl,fun aa ww ll hh=>?_,?_⟩
     ·have e89:=hh.gt 20 1;have e90:=hh.gt 21 0;have ef:=evf aa;refine out_call_eq (hh.go 2 rfl kq rfl rfl) ?_ (HD0.o ww);exact gX
     refine sq (fun aa ww ll hh=>by have:=hh.gt 22 0;exact hh.og 3 gX) ?_;refine sq (fun aa ww ll hh=>by have:=hh.gt 19 4;have:=hh.gt 23 0;have ec:=evc aa;exact ov gX) ?_;refine stm 24 0 ?_;refine sq (fun aa ww ll hh=>by have:=hh.oL 2;obtain ⟨c0,c1,c2,c3,c4,c5⟩:=(HT5.o.below hh.inv).cells;dsimp only at c2 c3;exact hh.og 0 gX) ?_;refine sq (fun aa ww ll hh=>by have:=hh.oL 2;obtain ⟨c0,c1,c2,c3,c4,c5⟩:=(HT5.o.below hh.inv).cells;dsimp only at c2 c3;exact hh.og 1 gX) ?_;refine ⟨.eq (.bool true),trivial,rfl,fun aa ww ll hh=>?_,?_⟩
     ·have e95:=hh.gt 26 1;have e96:=hh.gt 27 0;have ef:=evf aa;refine out_call_eq (hh.go 2 rfl kq rfl rfl) ?_ (HSM.o ww (HB5.o.trans (hh.inv.mono HB5.o.size)));exact gX
     refine sq (fun aa ww ll hh=>by have:=hh.gt 25 3;have:=hh.gt 28 0;have ec:=evc aa;exact ov gX) ?_;refine stm 29 0 ?_;refine ⟨.eq (.bool true),trivial,rfl,fun aa ww ll hh=>?_,?_⟩
     ·have ef:=evf aa;refine out_call_eq (hh.go 0 rfl kq rfl rfl) ?_ (HKN.o ww);exact gX
     refine sq (fun aa ww ll hh=>by have:=hh.gt 30 1;have:=hh.gt 31 0;have ec:=evc aa;exact ov gX) ?_;refine stm 32 0 ?_;intro ll w6 hS6 hok;clear hok;simp only[ly];have HB6:=hD (HB5.o.trans (hS6.mono HB5.o.size));clear HB5 hS6 HT5;go_wp2_with fail;go_ret;exact ⟨rfl,HB6.o⟩
    ·have hb1:=beq_false_of_ne hn1;have hb2:=beq_false_of_ne hn2;have hb3:=beq_false_of_ne hn3;have HD5:Hd (∀ W,Bl w3 W->CR 16 #[.agg #[.int .u8 5, .slice none 0 0, .slice tp tn tc, .slice none 0 0], .agg #[.slice s.hp s.hn s.hc, .int .u8 how, .int .i64 asw, .int .i64 apo, .slice s.bp s.bn s.bc, .bool acc]] W (.bool RT)):=fun W h=>HDT.o W 5 (.inl rfl) (HB3.o.trans (h.mono HB3.o.size))
     have HD1:Hd (∀ W,Bl w3 W->CR 16 #[.agg #[.int .u8 1, .slice none 0 0, .slice tp tn tc, .slice none 0 0], .agg #[.slice s.hp s.hn s.hc, .int .u8 how, .int .i64 asw, .int .i64 apo, .slice s.bp s.bn s.bc, .bool acc]] W (.bool RT)):=fun W h=>HDT.o W 1 (.inr rfl) (HB3.o.trans (h.mono HB3.o.size))
     clear HDT;have CC:=HT3.o.cells;obtain ⟨c0,c1,c2,c3,c4,c5⟩:=CC;dsimp only at c2 c3;go_upto_region 14 with fail
     clear c0 c1 c2 c3 c4 c5;refine roB w3 ?_;refine sq (fun aa ww ll hh=>by exact ov (xmv (hh.oL 1))) ?_;refine sq (fun aa ww ll hh=>by have:=hh.gt 0 0;have ec:=evc aa;exact ov gX) ?_;refine sq (fun aa ww ll hh=>by have:=hh.oL 2;obtain ⟨c0,c1,c2,c3,c4,c5⟩:=(HT3.o.below hh.inv).cells;dsimp only at c2 c3;exact ov gX) ?_;refine ⟨.eq (.bool RT),trivial,rfl,fun aa ww ll hh=>?_,?_⟩
     ·have e61:=hh.gt 1 1;have e62:=hh.gt 2 0;have ef:=evf aa;refine out_call_eq (wanted_none rfl) ?_ (HD5.o ww hh.inv);exact gX
     refine sq (fun aa ww ll hh=>by exact ov (xmv (hh.oL 1))) ?_;refine sq (fun aa ww ll hh=>by have:=hh.gt 4 0;have ec:=evc aa;exact ov gX) ?_;refine sq (fun aa ww ll hh=>by have:=hh.oL 2;obtain ⟨c0,c1,c2,c3,c4,c5⟩:=(HT3.o.below hh.inv).cells;dsimp only at c2 c3;exact ov gX) ?_;refine ⟨.eq (.bool RT),trivial,rfl,fun aa ww ll hh=>?_,?_⟩
     ·have e65:=hh.gt 5 1;have e66:=hh.gt 6 0;have ef:=evf aa;refine out_call_eq (wanted_none rfl) ?_ (HD1.o ww hh.inv);exact gX
     refine ⟨.eq (.bool true),trivial,rfl,fun aa ww ll hh=>?_,?_⟩
     ·have e63:=hh.gt 3 4;have e67:=hh.gt 7 0;refine ov ?_;clear hh;generalize aa.eval=ev at e63 e67⊢;go_simp
      try simp
     refine stm 8 0 ?_;intro ll w5 hS5 hok;clear hok;simp only[ly];have HT5:Hd (TBx w5 w.heap.size (.slice s.hp s.hn s.hc) (.slice s.bp s.bn s.bc) how ⟨asw,apo⟩ acc):=HT3.o.below hS5;have HB5:=hD (HB3.o.trans (hS5.mono HB3.o.size));clear HT3 HB3 HD5 HD1 hS5;go_upto_region 15 with fail
     refine roB w5 ?_;refine sq (fun aa ww ll hh=>by exact ov (xmv (hh.oL 5))) ?_;refine sq (fun aa ww ll hh=>by have:=hh.gt 0 0;have ec:=evc aa;exact ov gX) ?_;refine sq (fun aa ww ll hh=>by exact ov (xmv (hh.oL 9))) ?_;refine sq (fun aa ww ll hh=>by have:=hh.gt 1 1;have:=hh.gt 2 0;exact ov gX) ?_;refine stm 3 0 ?_;refine sq (fun aa ww ll hh=>by exact hh.og 0 (xmv (hh.oL 5))) ?_;refine sq (fun aa ww ll hh=>by have:=hh.gt 5 0;have ec:=evc aa;exact hh.og 1 gX) ?_;refine sq (fun aa ww ll hh=>by have:=hh.gt 4 2;have:=hh.gt 6 0;have ec:=evc aa;exact ov gX) ?_;refine stm 7 0 ?_;refine sq (fun aa ww ll hh=>by exact hh.og 0 (xmv (hh.oL 10))) ?_;refine sq (fun aa ww ll hh=>by have:=hh.gt 8 1;have:=hh.gt 9 0;have ec:=evc aa;exact ov gX) ?_;refine stm 10 0 ?_;refine sq (fun aa ww ll hh=>by have ec:=evc aa;exact hh.og 0 gX) ?_;refine sq (fun aa ww ll hh=>by have:=hh.oL 2;obtain ⟨c0,c1,c2,c3,c4,c5⟩:=(HT5.o.below hh.inv).cells;dsimp only at c2 c3;exact hh.og 1 gX) ?_;refine ⟨.eq (.bool acc),trivial,rfl,fun aa ww ll hh=>?_,?_⟩
     ·have e81:=hh.gt 12 1;have e82:=hh.gt 13 0;have ef:=evf aa;refine out_call_eq (hh.go 2 rfl kq rfl rfl) ?_ (HD4.o ww);exact gX
     refine sq (fun aa ww ll hh=>by have:=hh.oL 2;exact hh.og 3 gX) ?_;refine sq (fun aa ww ll hh=>by have:=hh.gt 15 0;obtain ⟨c0,c1,c2,c3,c4,c5⟩:=(HT5.o.below hh.inv).cells;dsimp only at c2 c3;exact hh.og 4 gX) ?_;refine ⟨.eq (.bool true),trivial,rfl,fun aa ww ll hh=>?_,?_⟩
     ·have e83:=hh.gt 14 2;have e85:=hh.gt 16 0;refine hh.og 5 ?_;clear hh;generalize aa.eval=ev at e83 e85⊢;go_simp
      try simp
     refine sq (fun aa ww ll hh=>by have:=hh.gt 11 6;have:=hh.gt 17 0;have ec:=evc aa;exact ov gX) ?_;refine stm 18 0 ?_;refine stq ?_ (fun aa ww ll hh=>?_) ?_;rotate_left
     ·refine hh.og 0 ?_;clear hh;generalize aa.eval=ev at⊢;go_simp
      try rfl
     refine sq (fun aa ww ll hh=>by have:=hh.oL 2;obtain ⟨c0,c1,c2,c3,c4,c5⟩:=(HT5.o.below hh.inv).cells;dsimp only at c2 c3;exact hh.og 1 gX) ?_;refine ⟨.eq (.bool false),trivial,rfl,fun aa ww ll hh=>?_,?_⟩
     ·have e89:=hh.gt 20 1;have e90:=hh.gt 21 0;have ef:=evf aa;refine out_call_eq (hh.go 2 rfl kq rfl rfl) ?_ (HD0.o ww);exact gX
     refine sq (fun aa ww ll hh=>by have:=hh.gt 22 0;exact hh.og 3 gX) ?_;refine sq (fun aa ww ll hh=>by have:=hh.gt 19 4;have:=hh.gt 23 0;have ec:=evc aa;exact ov gX) ?_;refine stm 24 0 ?_;refine sq (fun aa ww ll hh=>by have:=hh.oL 2;obtain ⟨c0,c1,c2,c3,c4,c5⟩:=(HT5.o.below hh.inv).cells;dsimp only at c2 c3;exact hh.og 0 gX) ?_;refine sq (fun aa ww ll hh=>by have:=hh.oL 2;obtain ⟨c0,c1,c2,c3,c4,c5⟩:=(HT5.o.below hh.inv).cells;dsimp only at c2 c3;exact hh.og 1 gX) ?_;refine ⟨.eq (.bool true),trivial,rfl,fun aa ww ll hh=>?_,?_⟩
     ·have e95:=hh.gt 26 1;have e96:=hh.gt 27 0;have ef:=evf aa;refine out_call_eq (hh.go 2 rfl kq rfl rfl) ?_ (HSM.o ww (HB5.o.trans (hh.inv.mono HB5.o.size)));exact gX
     refine sq (fun aa ww ll hh=>by have:=hh.gt 25 3;have:=hh.gt 28 0;have ec:=evc aa;exact ov gX) ?_;refine stm 29 0 ?_;refine ⟨.eq (.bool true),trivial,rfl,fun aa ww ll hh=>?_,?_⟩
     ·have ef:=evf aa;refine out_call_eq (hh.go 0 rfl kq rfl rfl) ?_ (HKN.o ww);exact gX
     refine sq (fun aa ww ll hh=>by have:=hh.gt 30 1;have:=hh.gt 31 0;have ec:=evc aa;exact ov gX) ?_;refine stm 32 0 ?_;intro ll w6 hS6 hok;clear hok;simp only[ly];have HB6:=hD (HB5.o.trans (hS6.mono HB5.o.size));clear HB5 hS6 HT5;go_wp2_with fail;go_ret;exact ⟨rfl,HB6.o⟩
end Go.Proofs.YtikilcbpogfgkaaGreat
