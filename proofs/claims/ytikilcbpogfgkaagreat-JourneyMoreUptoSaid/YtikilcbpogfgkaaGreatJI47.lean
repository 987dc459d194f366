/- Lemmas. -/
import Derived.Test.YtikilcbpogfgkaaGreatJI46
set_option maxHeartbeats 25600000
set_option maxRecDepth 100000
namespace Go.Proofs.YtikilcbpogfgkaaGreat
open Go.RowKit Stab
theorem paOk3 {p:Prg} {ls:List (List Ent)} {nt:Net} {n:Nat} (h:Seen3 p ls nt n) (hla:∀x∈ls,∀y∈x,y.pats.length<=1000000/\y.args.length<=1000000):∀l∈ls,PaOk p l:=fun l hl=>
 ⟨Sm.of h.great,h.may,apok_of h.may (Sm.of h.great) (h.ents l hl) (h.many l hl) (fewB_of (hla l hl)),emit_in h.may⟩
def MBx (W:World) (b:Nat) (s:PgS) (t:NtS) (e:Ed):Prop:=PBox W b s/\NetX W (b+1) (.slice t.sp t.sn t.sc) (.slice t.pp t.pn t.pc) (.slice t.lp t.ln t.lc)/\EBx W (b+1+1) e
theorem MBx.below {W W':World} {b:Nat} {s:PgS} {t:NtS} {e:Ed} (h:MBx W b s t e) (hb:Bl W W'):MBx W' b s t e:=⟨h.1.below hb,h.2.1.below hb,h.2.2.below hb⟩
theorem moreLaw_any (s:PgS) (p:Prg) (ls:List (List Ent)) (lp:Option Addr) (ln lc:Nat) (t:NtS) (n:Net) (e:Ed) (bp:Option Addr) (bn bc:Nat) (xs:List Int) (hops:Int) (w:World) (hp:PgOk w s p) (hL:Lm p) (hl:EsRow w (.slice lp ln lc) ls) (hla:∀x∈ls,∀y∈x,y.pats.length<=1000000/\y.args.length<=1000000) (hn:NtOk w t n) (hln:n.links.length<=1048576) (hb:URow w (.slice bp bn bc) xs):
 Calls Tryz.prog 4 #[pgV s, .slice lp ln lc,ntV t,EdV e, .slice bp bn bc, .int .i64 hops] w fun r w'=>r= .returned (.bool true)/\Bl w w':=by
 have HKN:Hd (∀ W,CR 13 #[] W (.bool true)):=fun W=>known23_true W
 have HMY:=hD (fun W (h:Bl w W)=>may23_any s p ls lp ln lc t n bp bn bc W (hp.below h) hL (hl.below keepEs h) (fun x hx y hy=>(hla x hx y hy).2) (hn.below h) hln);obtain ⟨IS,hIS⟩:=nm ((nextT n e).2.1);have HIS:Hd (∀ W,Bl w W->Calls Tryz.prog 12 #[ntV t,EdV e] W fun r w'=>r= .returned (.bool IS)/\Bl W w'):=fun W h=>by rw[hIS];exact is23_any t n e W (hn.below h)
 have HWK:Hd (Seen3 p ls n bn->∀W v q c (ys:List Int) (e2:Ed) (h:Int),Bl w W->URow W (.slice v q c) ys->ys.length<=1000000->¬walkBad p ls n e2 h->Calls Tryz.prog 14 #[pgV s, .slice lp ln lc,ntV t,EdV e2, .slice v q c, .int .i64 h] W fun r w'=>AnsW W.heap.size w' (walkF p ls n h.toNat e2 ys [] false) 0 r/\Bl W w'):=fun hs W v q c ys e2 h hw hr hy hbd=>(walkA_any s p ls lp ln lc t n e2 v q c ys h W (hp.below hw) (paOk3 hs hla) (hl.below keepEs hw) (hn.below hw) (sm_of hs.net.ports hs.net.links) hr hy).mono fun r w' h=>⟨h.2.1 hbd,h.2.2⟩
 have HBY:Hd (∀ W,Bl w W->URow W (.slice bp bn bc) xs):=fun W h=>hb.below keepU h
 have HBN:Hd (bn=xs.length):=hb.ln.1;have HLA:=hD hla;have HISS:=hD hIS;clear hp hL hl hla hn hln hb hIS;obtain ⟨esw,epo⟩:=e;unfold pgV at HMY HWK⊢;unfold ntV at HMY HIS HWK⊢;unfold EdV at HIS HWK⊢;dsimp only at HIS⊢;go_enter Tryz.func4,Tryz.ntmps4;go_upto_region 1 with fail;obtain ⟨W0,hW0⟩:=nm (((w.alloc (.cells (pA s) 33)).alloc (.cells #[.slice t.sp t.sn t.sc, .slice t.pp t.pn t.pc, .slice t.lp t.ln t.lc] 52)).alloc (.cells #[.int .i64 esw, .int .i64 epo] 54));have HB0:Hd (Bl w W0):=by show Below _ _ _;rw[hW0];exact bL
 have HBX:Hd (MBx W0 w.heap.size s t ⟨esw,epo⟩):=by
  have h1:=heap_new (w.alloc (.cells (pA s) 33)) (.cells #[.slice t.sp t.sn t.sc, .slice t.pp t.pn t.pc, .slice t.lp t.ln t.lc] 52);have h2:=heap_new ((w.alloc (.cells (pA s) 33)).alloc (.cells #[.slice t.sp t.sn t.sc, .slice t.pp t.pn t.pc, .slice t.lp t.ln t.lc] 52)) (.cells #[.int .i64 esw, .int .i64 epo] 54);simp only[World.size_alloc] at h1 h2;show MBx _ _ _ _ _;rw[hW0];refine ⟨?_,?_,h2⟩
  ·show _=_;exact gS2
  show _=_;rw[Below.heap_alloc _ _ _ sm];exact h1
 rw[<- hW0];clear hW0;obtain ⟨q0,q1,q2,q3,q4,q5,q6,q7,q8,q9,q10,q11⟩:=HBX.o.1.cells;obtain ⟨u0,u1,u2⟩:=HBX.o.2.1.cells;obtain ⟨v0,v1⟩:=HBX.o.2.2.cells;dsimp only at v0 v1;by_cases g1:hops<1
 ·exact gS
 by_cases g2:(5:Int)<hops
 ·exact gS
 go_upto_region 3 with (first
  |(go_at_call 11;(with_reducible refine (HMY.o _ HB0.o).mono ?_);rintro r w1 ⟨⟨b1,rfl,ha1⟩,hb1⟩;have HB1:=hD (HB0.o.trans (hb1.mono HB0.o.size));have HC1:=hD hb1;have HA1:=hD ha1;clear hb1 ha1;clear q0 q1 q2 q3 q4 q5 q6 q7 q8 q9 q10 q11 u0 u1 u2 v0 v1;obtain ⟨q0,q1,q2,q3,q4,q5,q6,q7,q8,q9,q10,q11⟩:=(HBX.o.below HC1.o).1.cells;obtain ⟨u0,u1,u2⟩:=(HBX.o.below HC1.o).2.1.cells;obtain ⟨v0,v1⟩:=(HBX.o.below HC1.o).2.2.cells;dsimp only at v0 v1;cases b1)
  |(go_at_call 12;(with_reducible refine (HIS.o _ HB1.o).mono ?_);rintro r w2 ⟨rfl,hb2⟩;have HB2:=hD (HB1.o.trans (hb2.mono HB1.o.size));have HC2:=hD (HC1.o.trans (hb2.mono HC1.o.size));clear hb2;clear q0 q1 q2 q3 q4 q5 q6 q7 q8 q9 q10 q11 u0 u1 u2 v0 v1;obtain ⟨q0,q1,q2,q3,q4,q5,q6,q7,q8,q9,q10,q11⟩:=(HBX.o.below HC2.o).1.cells;obtain ⟨u0,u1,u2⟩:=(HBX.o.below HC2.o).2.1.cells;obtain ⟨v0,v1⟩:=(HBX.o.below HC2.o).2.2.cells;dsimp only at v0 v1;cases IS)
  |(go_at_call 13;refine (HKN.o _).mono ?_;rintro r w9 ⟨rfl,hb9⟩;have HB9:=hD hb9;clear hb9))
 all_goals try (
  go_ret;exact ⟨rfl,by first|exact HB2.o.trans (HB9.o.mono HB2.o.size)|exact HB1.o.trans (HB9.o.mono HB1.o.size)⟩)
 have HSN:Hd (Seen3 p ls n bn):=HA1.o trivial;have HW2:=hD (HWK.o HSN.o);have HRG:Hd (∀ e,(nextT n e).2.2=true->0<=(nextT n e).1.sw/\(nextT n e).1.sw<(ls.length:Int)):=fun e he=>by
  have h1:=there_in (next_there HSN.o.net.links he);have h2:=HSN.o.net.same;have h3:=HSN.o.len;exact ⟨h1.1,om⟩
 have HIN:Hd (0<=esw/\esw<(ls.length:Int)):=by
  have h1:=there_in (there_of HISS.o.symm);have h2:=HSN.o.net.same;have h3:=HSN.o.len;exact ⟨h1.1,by have:=h1.2;dsimp only at this;omega⟩
 obtain ⟨k,hk⟩:∃k:Nat,hops=((k+1:Nat):Int):=⟨(hops-1).toNat,om⟩;have HM:=hD (walk_more p ls n (paOk3 HSN.o HLA.o) HRG.o k ⟨esw,epo⟩ xs HIN.o.1 HIN.o.2);obtain ⟨S,hS⟩:=nm (walkF p ls n (k+1) ⟨esw,epo⟩ xs [] false);obtain ⟨T,hT⟩:=nm (walkF p ls n (k+2) ⟨esw,epo⟩ xs [] false);rw[<- hS, <-hT] at HM;have HXL:Hd (xs.length<=64):=by have:=HSN.o.rest;have:=HBN.o;show _<=_;omega
 have HWS:Hd (∀ W,Bl w W->Calls Tryz.prog 14 #[.agg (pA s), .slice lp ln lc, .agg #[.slice t.sp t.sn t.sc, .slice t.pp t.pn t.pc, .slice t.lp t.ln t.lc], .agg #[.int .i64 esw, .int .i64 epo], .slice bp bn bc, .int .i64 hops] W fun r w'=>AnsW W.heap.size w' S 0 r/\Bl W w'):=fun W h=>by
  have:=HW2.o W bp bn bc xs ⟨esw,epo⟩ hops h (HBY.o W h) (by have:=HXL.o;omega) (fun q=>by
   unfold walkBad at q;have h1:=HSN.o.len;have h2:=HIN.o;have h3:=HISS.o;rcases q with q|q|q|q|q|q
   ·omega
   ·omega
   ·exact q h1
   ·rw[<- h3] at q;cases q
   ·have q:esw<0:=q;omega
   ·have q:(ls.length:Int)<=esw:=q;omega)
  rw[hk,Int.toNat_natCast, <-hS] at this;rw[hk];exact this
 have HWT:Hd (∀ W,Bl w W->Calls Tryz.prog 14 #[.agg (pA s), .slice lp ln lc, .agg #[.slice t.sp t.sn t.sc, .slice t.pp t.pn t.pc, .slice t.lp t.ln t.lc], .agg #[.int .i64 esw, .int .i64 epo], .slice bp bn bc, .int .i64 (hops+1)] W fun r w'=>AnsW W.heap.size w' T 0 r/\Bl W w'):=fun W h=>by
  have:=HW2.o W bp bn bc xs ⟨esw,epo⟩ (hops+1) h (HBY.o W h) (by have:=HXL.o;omega) (fun q=>by
   unfold walkBad at q;have h1:=HSN.o.len;have h2:=HIN.o;have h3:=HISS.o;rcases q with q|q|q|q|q|q
   ·omega
   ·omega
   ·exact q h1
   ·rw[<- h3] at q;cases q
   ·have q:esw<0:=q;omega
   ·have q:(ls.length:Int)<=esw:=q;omega)
  rw[show hops+1=((k+2:Nat):Int) by omega,Int.toNat_natCast, <-hT] at this;rw[show hops+1=((k+2:Nat):Int) by omega];exact this
 have HK:=hD hk;clear hk hS hT HWK HA1 HMY HIS HBY HBN HIN HXL HLA;obtain ⟨SH,Sho,⟨Ssw,Spo⟩,SB,Sac⟩:=S;obtain ⟨TH,Tho,⟨Tsw,Tpo⟩,TB,Tac⟩:=T;go_upto_region 4 with (go_at_call 14;(with_reducible refine (HWS.o _ HB2.o).mono ?_);rintro r w3 ⟨⟨k1,rfl,ht1⟩,hb3⟩;have HB3:=hD (HB2.o.trans (hb3.mono HB2.o.size));have HC3:=hD (HC2.o.trans (hb3.mono HC2.o.size));have HT1:=hD ht1;clear hb3 ht1;unfold trV;dsimp only);obtain ⟨hp1,hn1,hc1,bp1,bn1,bc1⟩:=k1;dsimp only;obtain ⟨W3,hW3⟩:=nm (w3.alloc (.cells #[.slice hp1 hn1 hc1, .int .u8 Sho, .int .i64 Ssw, .int .i64 Spo, .slice bp1 bn1 bc1, .bool Sac] 59));have HA3:Hd (Bl w3 W3):=by show Below _ _ _;rw[hW3];exact br.alloc lr _
 have HS3:Hd (TBx W3 w3.heap.size (.slice hp1 hn1 hc1) (.slice bp1 bn1 bc1) Sho ⟨Ssw,Spo⟩ Sac/\TrOk W3 ⟨hp1,hn1,hc1,bp1,bn1,bc1⟩ ⟨SH,Sho,⟨Ssw,Spo⟩,SB,Sac⟩):=⟨by show _=_;rw[hW3];exact heap_new _ _,HT1.o.ok.below HA3.o⟩;have HB4:=hD (HB3.o.trans (HA3.o.mono HB3.o.size));have HC4:=hD (HC3.o.trans (HA3.o.mono HC3.o.size));have HL1:=hD (tr_len HT1.o);rw[<- hW3];clear hW3 HT1 HWS HB3 HC3 HA3;clear q0 q1 q2 q3 q4 q5 q6 q7 q8 q9 q10 q11 u0 u1 u2 v0 v1;obtain ⟨q0,q1,q2,q3,q4,q5,q6,q7,q8,q9,q10,q11⟩:=(HBX.o.below HC4.o).1.cells;obtain ⟨u0,u1,u2⟩:=(HBX.o.below HC4.o).2.1.cells;obtain ⟨v0,v1⟩:=(HBX.o.below HC4.o).2.2.cells;dsimp only at v0 v1;go_upto_region 5 with (go_at_call 14;(with_reducible refine (HWT.o _ HB4.o).mono ?_);rintro r w5 ⟨⟨k2,rfl,ht2⟩,hb5⟩;have HB5:=hD (HB4.o.trans (hb5.mono HB4.o.size));have HC5:=hD (HC4.o.trans (hb5.mono HC4.o.size));have HT2:=hD ht2;have HA5:=hD hb5;clear hb5 ht2;unfold trV;dsimp only);obtain ⟨hp2,hn2,hc2,bp2,bn2,bc2⟩:=k2;dsimp only;obtain ⟨W5,hW5⟩:=nm (w5.alloc (.cells #[.slice hp2 hn2 hc2, .int .u8 Tho, .int .i64 Tsw, .int .i64 Tpo, .slice bp2 bn2 bc2, .bool Tac] 59));have HA6:Hd (Bl w5 W5):=by show Below _ _ _;rw[hW5];exact br.alloc lr _
 have HT:Hd (TBx W5 w5.heap.size (.slice hp2 hn2 hc2) (.slice bp2 bn2 bc2) Tho ⟨Tsw,Tpo⟩ Tac/\TrOk W5 ⟨hp2,hn2,hc2,bp2,bn2,bc2⟩ ⟨TH,Tho,⟨Tsw,Tpo⟩,TB,Tac⟩):=⟨by show _=_;rw[hW5];exact heap_new _ _,HT2.o.ok.below HA6.o⟩;have HA7:=hD (HA5.o.trans (HA6.o.mono HA5.o.size));have HS:Hd (TBx W5 w3.heap.size (.slice hp1 hn1 hc1) (.slice bp1 bn1 bc1) Sho ⟨Ssw,Spo⟩ Sac/\TrOk W5 ⟨hp1,hn1,hc1,bp1,bn1,bc1⟩ ⟨SH,Sho,⟨Ssw,Spo⟩,SB,Sac⟩):=⟨HS3.o.1.below HA7.o,HS3.o.2.below HA7.o⟩;have HB6:=hD (HB5.o.trans (HA6.o.mono HB5.o.size));have HC6:=hD (HC5.o.trans (HA6.o.mono HC5.o.size));have HL2:=hD (tr_len HT2.o);rw[<- hW5];clear hW5 HT2 HWT HB5 HC5 HA5 HA6 HA7 HS3 HB4 HC4 HB1 HC1 HB2 HC2;clear q0 q1 q2 q3 q4 q5 q6 q7 q8 q9 q10 q11 u0 u1 u2 v0 v1;obtain ⟨c0,c1,c2,c3,c4,c5⟩:=HS.o.1.cells;obtain ⟨d0,d1,d2,d3,d4,d5⟩:=HT.o.1.cells;dsimp only at c2 c3 d2 d3;have HLS:Hd (hn1=SH.length/\bn1=SB.length):=HL1.o;have HLT:Hd (hn2=TH.length/\bn2=TB.length):=HL2.o;clear HL1 HL2;have hA:1<=hn1/\(hn1:Int)<=hops/\hn1<=hn2:=by
  have q1:=HLS.o.1;have q2:=HLT.o.1;have q3:=HM.o.l1;have q4:=HM.o.l2;have q5:=HK.o;dsimp only at q3 q4;refine ⟨om,om,?_⟩;by_cases q6:Sho=3
  ·have q7:=congrArg (fun z:Trc=>z.hops.length) (HM.o.more q6).2;simp only[List.length_append,List.length_cons,List.length_nil] at q7;omega
  have q7:=congrArg (fun z:Trc=>z.hops.length) (HM.o.same q6);dsimp only at q7;omega
 obtain ⟨hA1,hA2,hA3⟩:=hA;have f1:¬(hn1:Int)=0:=om;have f1b:((hn1:Int)==0)=false:=beq_false_of_ne f1;have f2:¬hops<(hn1:Int):=om;have f3:¬(hn2:Int)<(hn1:Int):=om;go_upto_region 7 with fail;by_cases h3:Sho=3;rotate_left
 ·have h3b:(Sho !=3)=true:=by simpa using h3
  have hsm:=HM.o.same h3;simp only[Trc.mk.injEq,Ed.mk.injEq] at hsm;obtain ⟨rfl,rfl,⟨rfl,rfl⟩,rfl,rfl⟩:=hsm;have HSA:Hd (∀ W,Bl W5 W->CR 15 #[.agg #[.slice hp1 hn1 hc1, .int .u8 Tho, .int .i64 Tsw, .int .i64 Tpo, .slice bp1 bn1 bc1, .bool Tac], .agg #[.slice hp2 hn2 hc2, .int .u8 Tho, .int .i64 Tsw, .int .i64 Tpo, .slice bp2 bn2 bc2, .bool Tac]] W (.bool true)):=fun W h=>same23_any ⟨hp1,hn1,hc1,bp1,bn1,bc1⟩ ⟨hp2,hn2,hc2,bp2,bn2,bc2⟩ ⟨TH,Tho,⟨Tsw,Tpo⟩,TB,Tac⟩ W (HS.o.2.below h) (HT.o.2.below h)
  clear f1 f1b f2 f3 hA1 hA2 hA3;go_wp2_with (first
   |(go_at_call 15;refine (HSA.o _ br).mono ?_;rintro r w6 ⟨rfl,hb6⟩;have HB7:=hD (HB6.o.trans (hb6.mono HB6.o.size));clear hb6)
   |(go_at_call 13;refine (HKN.o _).mono ?_;rintro r w9 ⟨rfl,hb9⟩;have HB9:=hD hb9;clear hb9))
  go_ret;exact ⟨rfl,HB7.o.trans (HB9.o.mono HB7.o.size)⟩
 subst h3;go_upto_region 9 with fail;obtain ⟨hln1,hmo⟩:=HM.o.more rfl;have hnx:=HM.o.next rfl;obtain ⟨L,hL⟩:=nm (walkF p ls n 1 ⟨Ssw,Spo⟩ SB [] false);dsimp only at hmo hln1 hnx;rw[<- hL] at hmo;have HWL:Hd (∀ W,Bl W5 W->Calls Tryz.prog 14 #[.agg (pA s), .slice lp ln lc, .agg #[.slice t.sp t.sn t.sc, .slice t.pp t.pn t.pc, .slice t.lp t.ln t.lc], .agg #[.int .i64 Ssw, .int .i64 Spo], .slice bp1 bn1 bc1, .int .i64 1] W fun r w'=>AnsW W.heap.size w' L 0 r/\Bl W w'):=fun W h=>by
  obtain ⟨⟨e1,he1,he2⟩,hl64⟩:=hnx;have ht:=next_there HSN.o.net.links he1;rw[<- he2] at ht;have hi:=there_in ht;have hw:=HW2.o W bp1 bn1 bc1 SB ⟨Ssw,Spo⟩ 1 (HB6.o.trans (h.mono HB6.o.size)) (HS.o.2.b.below keepU h) om (fun q=>by
   unfold walkBad at q;have h1:=HSN.o.len;have h2:=HSN.o.net.same;dsimp only at hi;rcases q with q|q|q|q|q|q
   ·omega
   ·omega
   ·exact q h1
   ·rw[there_next ht] at q;cases q
   ·have q:Ssw<0:=q;omega
   ·have q:(ls.length:Int)<=Ssw:=q;omega)
  rw[show (1:Int).toNat=1 from rfl, <-hL] at hw;exact hw
 clear hL hnx;obtain ⟨LH,Lho,⟨Lsw,Lpo⟩,LB,Lac⟩:=L;simp only[Trc.mk.injEq,Ed.mk.injEq] at hmo;obtain ⟨rfl,rfl,⟨rfl,rfl⟩,rfl,rfl⟩:=hmo;have hho:hops=(hn1:Int):=by have:=HK.o;have:=HLS.o.1;omega
 subst hho;obtain rfl:hn2=hn1+1:=by
  have q1:=HLS.o.1;have q2:=HLT.o.1;simp only[List.length_append,List.length_cons,List.length_nil] at q2;omega
 have hix:(hn1:Int)<(hn1:Int)+1:=om;have hwr:IntKind.i64.wrap ((hn1:Int)+1)=(hn1:Int)+1:=by rw[IntKind.wrap_i64];omega
 have hx:(SH++[(⟨⟨Ssw,Spo⟩,SB⟩:Hp)])[hn1]?=some ⟨⟨Ssw,Spo⟩,SB⟩:=by rw[List.getElem?_append_right (by have:=HLS.o.1;omega),show hn1-SH.length=0 by have:=HLS.o.1;omega];rfl
 obtain ⟨b2,o2,q2,m2,dd2,hps2,hb2,z0,z1,z2,hz⟩:=hop_at HT.o.2.h hx;dsimp only at z0 z1 hz hps2;subst hps2;have HCC:Hd (∀ W,Bl W5 W->(Cl W w3.heap.size 0 (.slice hp1 hn1 hc1)/\Cl W w3.heap.size 1 (.int .u8 3)/\Cl W w3.heap.size 2 (.int .i64 Ssw)/\Cl W w3.heap.size 3 (.int .i64 Spo)/\Cl W w3.heap.size 4 (.slice bp1 bn1 bc1)/\Cl W w3.heap.size 5 (.bool Sac))/\(Cl W w5.heap.size 0 (.slice (some ⟨b2,o2,none⟩) (hn1+1) hc2)/\Cl W w5.heap.size 1 (.int .u8 Tho)/\Cl W w5.heap.size 2 (.int .i64 Tsw)/\Cl W w5.heap.size 3 (.int .i64 Tpo)/\Cl W w5.heap.size 4 (.slice bp2 bn2 bc2)/\Cl W w5.heap.size 5 (.bool (Sac||Lac)))/\(Cl W b2 (o2+hn1*3) (.int .i64 Ssw)/\Cl W b2 (o2+hn1*3+1) (.int .i64 Spo)/\Cl W b2 (o2+hn1*3+2) (.slice q2 m2 dd2))/\(convert 35 9 (.slice bp1 bn1 bc1)).run Tryz.prog W= .ok (.string (strOfNums SB)) W/\(convert 35 9 (.slice q2 m2 dd2)).run Tryz.prog W= .ok (.string (strOfNums SB)) W):=fun W hW=>
  ⟨(HS.o.1.below hW).cells,(HT.o.1.below hW).cells,⟨(hW.cell (cell_there z0).1).trans z0,(hW.cell (cell_there z1).1).trans z1,(hW.cell (cell_there z2).1).trans z2⟩,uconv (HS.o.2.b.below keepU hW),uconv (hz.below keepU hW)⟩
 clear z0 z1 z2 hz hb2 hx c0 c1 c2 c3 c4 c5 d0 d1 d2 d3 d4 d5 f1 f1b f2 f3 hA1 hA2 hA3;cases Sac;rotate_left
 focus
  simp only[Bool.true_or] at HCC HT HM;refine roB W5 ?_;refine sq (fun aa ww ll hh=>by have:=hh.oL 13;exact ov gX) ?_;refine sq (fun aa ww ll hh=>by have:=hh.gt 0 0;exact ov (fC (HCC.o ww hh.inv))) ?_;refine sq (fun aa ww ll hh=>by have:=hh.gt 1 0;exact ov (fC (HCC.o ww hh.inv))) ?_;refine sq (fun aa ww ll hh=>by exact ov (xmv (hh.oL 5))) ?_;refine stq (.bool false) (fun aa ww ll hh=>?_) ?_
  ·have e101:=hh.gt 2 1;have e102:=hh.gt 3 0;refine ov ?_;clear hh;generalize aa.eval=ev at e101 e102⊢;go_simp
   try simp
  refine stm 4 0 ?_;refine sq (fun aa ww ll hh=>by have:=hh.oL 15;exact hh.og 0 gX) ?_;refine sq (fun aa ww ll hh=>by have:=hh.gt 6 0;exact hh.og 1 (fC (HCC.o ww hh.inv))) ?_;refine sq (fun aa ww ll hh=>by have:=hh.gt 7 0;exact hh.og 2 (fC (HCC.o ww hh.inv))) ?_;refine sq (fun aa ww ll hh=>by exact hh.og 3 (xmv (hh.oL 5))) ?_;refine sq (fun aa ww ll hh=>by have:=hh.gt 9 0;have ec:=evc aa;exact hh.og 4 gX) ?_;refine stq (.bool false) (fun aa ww ll hh=>?_) ?_
  ·have e107:=hh.gt 8 2;have e109:=hh.gt 10 0;refine hh.og 5 ?_;clear hh;generalize aa.eval=ev at e107 e109⊢;go_simp
   try simp[hwr]
  refine sq (fun aa ww ll hh=>by have:=hh.gt 5 6;have:=hh.gt 11 0;have ec:=evc aa;exact ov gX) ?_;refine stm 12 0 ?_;refine sq (fun aa ww ll hh=>by have:=hh.oL 15;exact hh.og 0 gX) ?_;refine sq (fun aa ww ll hh=>by have:=hh.gt 14 0;exact hh.og 1 (fC (HCC.o ww hh.inv))) ?_;refine sq (fun aa ww ll hh=>by exact hh.og 2 (xmv (hh.oL 5))) ?_;refine sq (fun aa ww ll hh=>by have:=hh.gt 15 1;have:=hh.gt 16 0;exact hh.og 3 gX) ?_;refine sq (fun aa ww ll hh=>by have:=hh.gt 17 0;exact hh.og 4 gX) ?_;refine sq (fun aa ww ll hh=>by have:=hh.gt 18 0;exact hh.og 5 (fC (HCC.o ww hh.inv))) ?_;refine sq (fun aa ww ll hh=>by have:=hh.oL 13;exact hh.og 6 gX) ?_;refine sq (fun aa ww ll hh=>by have:=hh.gt 20 0;exact hh.og 7 (fC (HCC.o ww hh.inv))) ?_;refine stq (.bool false) (fun aa ww ll hh=>?_) ?_
  ·have e118:=hh.gt 19 2;have e120:=hh.gt 21 0;have hq:=neqE Ssw Spo ww;refine hh.og 8 ?_;clear hh;generalize aa.eval=ev at e118 e120⊢;go_simp
   try simp
  refine sq (fun aa ww ll hh=>by have:=hh.gt 13 9;have:=hh.gt 22 0;have ec:=evc aa;exact ov gX) ?_;refine stm 23 0 ?_;refine sq (fun aa ww ll hh=>by have:=hh.oL 15;exact hh.og 0 gX) ?_;refine sq (fun aa ww ll hh=>by have:=hh.gt 25 0;exact hh.og 1 (fC (HCC.o ww hh.inv))) ?_;refine sq (fun aa ww ll hh=>by exact hh.og 2 (xmv (hh.oL 5))) ?_;refine sq (fun aa ww ll hh=>by have:=hh.gt 26 1;have:=hh.gt 27 0;exact hh.og 3 gX) ?_;refine sq (fun aa ww ll hh=>by have:=hh.gt 28 0;exact hh.og 4 gX) ?_;refine sq (fun aa ww ll hh=>by have:=hh.gt 29 0;exact hh.og 5 (fC (HCC.o ww hh.inv))) ?_;refine stq (.string (strOfNums SB)) (fun aa ww ll hh=>?_) ?_
  ·have e129:=hh.gt 30 0;exact hh.og 6 (fC (HCC.o ww hh.inv))
  refine sq (fun aa ww ll hh=>by have:=hh.oL 13;exact hh.og 7 gX) ?_;refine sq (fun aa ww ll hh=>by have:=hh.gt 32 0;exact hh.og 8 (fC (HCC.o ww hh.inv))) ?_;refine stq (.string (strOfNums SB)) (fun aa ww ll hh=>?_) ?_
  ·have e132:=hh.gt 33 0;exact hh.og 9 (fC (HCC.o ww hh.inv))
  refine stq (.bool false) (fun aa ww ll hh=>?_) ?_
  ·have e130:=hh.gt 31 3;have e133:=hh.gt 34 0;refine hh.og 10 ?_;clear hh;generalize aa.eval=ev at e130 e133⊢;go_simp
   try simp
  refine sq (fun aa ww ll hh=>by have:=hh.gt 24 11;have:=hh.gt 35 0;have ec:=evc aa;exact ov gX) ?_;refine stm 36 0 ?_;refine sq (fun aa ww ll hh=>by have:=hh.oL 13;exact hh.og 0 gX) ?_;refine sq (fun aa ww ll hh=>by have:=hh.gt 38 0;exact hh.og 1 (fC (HCC.o ww hh.inv))) ?_;refine stn 2 39 0 ?_;refine sq (fun aa ww ll hh=>by have:=hh.oL 15;exact hh.og 0 gX) ?_;refine sq (fun aa ww ll hh=>by have:=hh.gt 41 0;exact hh.og 1 (fC (HCC.o ww hh.inv))) ?_;refine sq (fun aa ww ll hh=>by have:=hh.gt 42 0;exact hh.og 2 gX) ?_;refine sq (fun aa ww ll hh=>by have:=hh.gt 40 3;have:=hh.gt 43 0;have ec:=evc aa;exact hh.og 6 gX) ?_;refine sq (fun aa ww ll hh=>by have:=hh.gt 37 7;have:=hh.gt 44 0;have ec:=evc aa;exact ov gX) ?_;intro ll w6 hS6 hok;clear hok;simp only[ly]
 rotate_left
 focus
  simp only[Bool.false_or] at HCC HT HM;refine roB W5 ?_;refine sq (fun aa ww ll hh=>by have:=hh.oL 13;exact ov gX) ?_;refine sq (fun aa ww ll hh=>by have:=hh.gt 0 0;exact ov (fC (HCC.o ww hh.inv))) ?_;refine sq (fun aa ww ll hh=>by have:=hh.gt 1 0;exact ov (fC (HCC.o ww hh.inv))) ?_;refine sq (fun aa ww ll hh=>by exact ov (xmv (hh.oL 5))) ?_;refine stq (.bool false) (fun aa ww ll hh=>?_) ?_
  ·have e101:=hh.gt 2 1;have e102:=hh.gt 3 0;refine ov ?_;clear hh;generalize aa.eval=ev at e101 e102⊢;go_simp
   try simp
  refine stm 4 0 ?_;refine sq (fun aa ww ll hh=>by have:=hh.oL 15;exact hh.og 0 gX) ?_;refine sq (fun aa ww ll hh=>by have:=hh.gt 6 0;exact hh.og 1 (fC (HCC.o ww hh.inv))) ?_;refine sq (fun aa ww ll hh=>by have:=hh.gt 7 0;exact hh.og 2 (fC (HCC.o ww hh.inv))) ?_;refine sq (fun aa ww ll hh=>by exact hh.og 3 (xmv (hh.oL 5))) ?_;refine sq (fun aa ww ll hh=>by have:=hh.gt 9 0;have ec:=evc aa;exact hh.og 4 gX) ?_;refine stq (.bool false) (fun aa ww ll hh=>?_) ?_
  ·have e107:=hh.gt 8 2;have e109:=hh.gt 10 0;refine hh.og 5 ?_;clear hh;generalize aa.eval=ev at e107 e109⊢;go_simp
   try simp[hwr]
  refine sq (fun aa ww ll hh=>by have:=hh.gt 5 6;have:=hh.gt 11 0;have ec:=evc aa;exact ov gX) ?_;refine stm 12 0 ?_;refine sq (fun aa ww ll hh=>by have:=hh.oL 15;exact hh.og 0 gX) ?_;refine sq (fun aa ww ll hh=>by have:=hh.gt 14 0;exact hh.og 1 (fC (HCC.o ww hh.inv))) ?_;refine sq (fun aa ww ll hh=>by exact hh.og 2 (xmv (hh.oL 5))) ?_;refine sq (fun aa ww ll hh=>by have:=hh.gt 15 1;have:=hh.gt 16 0;exact hh.og 3 gX) ?_;refine sq (fun aa ww ll hh=>by have:=hh.gt 17 0;exact hh.og 4 gX) ?_;refine sq (fun aa ww ll hh=>by have:=hh.gt 18 0;exact hh.og 5 (fC (HCC.o ww hh.inv))) ?_;refine sq (fun aa ww ll hh=>by have:=hh.oL 13;exact hh.og 6 gX) ?_;refine sq (fun aa ww ll hh=>by have:=hh.gt 20 0;exact hh.og 7 (fC (HCC.o ww hh.inv))) ?_;refine stq (.bool false) (fun aa ww ll hh=>?_) ?_
  ·have e118:=hh.gt 19 2;have e120:=hh.gt 21 0;have hq:=neqE Ssw Spo ww;refine hh.og 8 ?_;clear hh;generalize aa.eval=ev at e118 e120⊢;go_simp
   try simp
  refine sq (fun aa ww ll hh=>by have:=hh.gt 13 9;have:=hh.gt 22 0;have ec:=evc aa;exact ov gX) ?_;refine stm 23 0 ?_;refine sq (fun aa ww ll hh=>by have:=hh.oL 15;exact hh.og 0 gX) ?_;refine sq (fun aa ww ll hh=>by have:=hh.gt 25 0;exact hh.og 1 (fC (HCC.o ww hh.inv))) ?_;refine sq (fun aa ww ll hh=>by exact hh.og 2 (xmv (hh.oL 5))) ?_;refine sq (fun aa ww ll hh=>by have:=hh.gt 26 1;have:=hh.gt 27 0;exact hh.og 3 gX) ?_;refine sq (fun aa ww ll hh=>by have:=hh.gt 28 0;exact hh.og 4 gX) ?_;refine sq (fun aa ww ll hh=>by have:=hh.gt 29 0;exact hh.og 5 (fC (HCC.o ww hh.inv))) ?_;refine stq (.string (strOfNums SB)) (fun aa ww ll hh=>?_) ?_
  ·have e129:=hh.gt 30 0;exact hh.og 6 (fC (HCC.o ww hh.inv))
  refine sq (fun aa ww ll hh=>by have:=hh.oL 13;exact hh.og 7 gX) ?_;refine sq (fun aa ww ll hh=>by have:=hh.gt 32 0;exact hh.og 8 (fC (HCC.o ww hh.inv))) ?_;refine stq (.string (strOfNums SB)) (fun aa ww ll hh=>?_) ?_
  ·have e132:=hh.gt 33 0;exact hh.og 9 (fC (HCC.o ww hh.inv))
  refine stq (.bool false) (fun aa ww ll hh=>?_) ?_
  ·have e130:=hh.gt 31 3;have e133:=hh.gt 34 0;refine hh.og 10 ?_;clear hh;generalize aa.eval=ev at e130 e133⊢;go_simp
   try simp
  refine sq (fun aa ww ll hh=>by have:=hh.gt 24 11;have:=hh.gt 35 0;have ec:=evc aa;exact ov gX) ?_;refine stm 36 0 ?_;refine sq (fun aa ww ll hh=>by have:=hh.oL 13;exact hh.og 0 gX) ?_;refine sq (fun aa ww ll hh=>by have:=hh.gt 38 0;exact hh.og 1 (fC (HCC.o ww hh.inv))) ?_;refine stn 2 39 0 ?_;refine stk 0 ?_;refine stk 1 ?_;refine stk 2 ?_;refine sq (fun aa ww ll hh=>by have:=hh.gt 40 3;have:=hh.gt 43 0;have ec:=evc aa;exact hh.og 6 gX) ?_;refine sq (fun aa ww ll hh=>by have:=hh.gt 37 7;have:=hh.gt 44 0;have ec:=evc aa;exact ov gX) ?_;intro ll w6 hS6 hok;clear hok;simp only[ly]
 all_goals
  have HB7:=hD (HB6.o.trans (hS6.mono HB6.o.size));have HC7:=hD (HC6.o.trans (hS6.mono HC6.o.size));obtain ⟨q0,q1,q2,q3,q4,q5,q6,q7,q8,q9,q10,q11⟩:=(HBX.o.below HC7.o).1.cells;obtain ⟨u0,u1,u2⟩:=(HBX.o.below HC7.o).2.1.cells;obtain ⟨v0,v1⟩:=(HBX.o.below HC7.o).2.2.cells;dsimp only at v0 v1;obtain ⟨c0,c1,c2,c3,c4,c5⟩:=(HS.o.1.below hS6).cells;dsimp only at c2 c3;clear c0 c1 c5;go_upto_region 12 with (go_at_call 14;(with_reducible refine (HWL.o _ hS6).mono ?_);rintro r w7 ⟨⟨k3,rfl,ht3⟩,hb7⟩;have HB8:=hD (HB7.o.trans (hb7.mono HB7.o.size));have HT3:=hD ht3;have HA8:=hD (hS6.trans (hb7.mono hS6.size));clear hb7 ht3;unfold trV;dsimp only)
  obtain ⟨hp3,hn3,hc3,bp3,bn3,bc3⟩:=k3;dsimp only;obtain ⟨W8,hW8⟩:=nm (w7.alloc (.cells #[.slice hp3 hn3 hc3, .int .u8 Tho, .int .i64 Tsw, .int .i64 Tpo, .slice bp3 bn3 bc3, .bool Lac] 59));have HA9:Hd (Bl w7 W8):=by show Below _ _ _;rw[hW8];exact br.alloc lr _
  have HZ:Hd (TBx W8 w7.heap.size (.slice hp3 hn3 hc3) (.slice bp3 bn3 bc3) Tho ⟨Tsw,Tpo⟩ Lac/\URow W8 (.slice bp3 bn3 bc3) TB):=⟨by show _=_;rw[hW8];exact heap_new _ _,HT3.o.ok.b.below keepU HA9.o⟩;have HD8:=hD (HA8.o.trans (HA9.o.mono HA8.o.size));have HB9:=hD (HB8.o.trans (HA9.o.mono HB8.o.size));rw[<- hW8];clear hW8 HT3 HA8 HA9 HB8 HB7 HC7 hS6 c2 c3 c4;clear q0 q1 q2 q3 q4 q5 q6 q7 q8 q9 q10 q11 u0 u1 u2 v0 v1;obtain ⟨c0,c1,c2,c3,c4,c5⟩:=(HS.o.1.below HD8.o).cells;obtain ⟨d0,d1,d2,d3,d4,d5⟩:=(HT.o.1.below HD8.o).cells;obtain ⟨e0,e1,e2,e3,e4,e5⟩:=HZ.o.1.cells;dsimp only at c2 c3 d2 d3 e2 e3;have hq:=neqE Tsw Tpo W8;have hv1:=uconv HZ.o.2;have hv2:=uconv (HT.o.2.b.below keepU HD8.o);dsimp only at hv1 hv2;go_upto_region 14 with fail
  go_wp2_with fail;clear c0 c1 c2 c3 c4 c5 d0 d1 d2 d3 d4 d5 e0 e1 e2 e3 e4 e5 hq hv1 hv2;go_loopw [195] (fun i wq=>∃m:Nat,m<=hn1/\i= .int .i64 (m:Int)/\Hd (Bl W8 wq)) (fun i _=>hn1-(intOf i).toNat)
  case atStart=>exact ⟨0,zl,rfl,Below.refl _ _⟩
  case round=>
   obtain ⟨m,hm,rfl,HBW⟩:=hrel;by_cases hlt:m<hn1
   ·have hmi:(m:Int)<(hn1:Int):=om
    have hmi2:(m:Int)<(hn1:Int)+1:=om
    obtain ⟨x,hx⟩:∃x,SH[m]?=some x:=⟨_,gE_ (by have:=HLS.o.1;omega)⟩;have HD9:=HD8.o.trans (HBW.o.mono HD8.o.size);obtain ⟨b,o,q,mq,dq,hps,hb,y0,y1,y2,hy⟩:=hop_at (HS.o.2.below HD9).h hx;obtain ⟨b4,o4,q4,m4,d4,hps4,hb4,z0,z1,z2,hz⟩:=hop_at (HT.o.2.below HD9).h ((List.getElem?_append_left (by have:=HLS.o.1;omega)).trans hx);obtain ⟨⟨ha,hb9⟩,xb⟩:=x;dsimp only at y0 y1 hy z0 z1 hz hps hps4;simp only[Option.some.injEq,Addr.mk.injEq,and_true] at hps4;obtain ⟨rfl,rfl⟩:=hps4;obtain ⟨c0,c1,c2,c3,c4,c5⟩:=(HS.o.1.below HD9).cells;obtain ⟨d0,d1,d2,d3,d4,d5⟩:=(HT.o.1.below HD9).cells;clear c1 c2 c3 c4 c5 d1 d2 d3 d4 d5;subst hps;have HCD:Hd (∀ W,Bl wr W->(Cl W w3.heap.size 0 (.slice (some ⟨b,o,none⟩) hn1 hc1)/\Cl W w5.heap.size 0 (.slice (some ⟨b2,o2,none⟩) (hn1+1) hc2))/\(Cl W b (o+m*3) (.int .i64 ha)/\Cl W b (o+m*3+1) (.int .i64 hb9)/\Cl W b (o+m*3+2) (.slice q mq dq))/\(Cl W b2 (o2+m*3) (.int .i64 ha)/\Cl W b2 (o2+m*3+1) (.int .i64 hb9)/\Cl W b2 (o2+m*3+2) (.slice q4 m4 d4))/\(convert 35 9 (.slice q mq dq)).run Tryz.prog W= .ok (.string (strOfNums xb)) W/\(convert 35 9 (.slice q4 m4 d4)).run Tryz.prog W= .ok (.string (strOfNums xb)) W):=fun W hW=>
     ⟨⟨(hW.cell (cell_there c0).1).trans c0,(hW.cell (cell_there d0).1).trans d0⟩,⟨(hW.cell (cell_there y0).1).trans y0,(hW.cell (cell_there y1).1).trans y1,(hW.cell (cell_there y2).1).trans y2⟩,⟨(hW.cell (cell_there z0).1).trans z0,(hW.cell (cell_there z1).1).trans z1,(hW.cell (cell_there z2).1).trans z2⟩,uconv (hy.below keepU hW),uconv (hz.below keepU hW)⟩
    clear y0 y1 y2 z0 z1 z2 hy hz hb hb4 hx c0 d0 HD9;go_upto_region 17 with fail
    refine roB wr ?_;refine sq (fun aa ww ll hh=>by have:=hh.oL 13;exact ov gX) ?_;refine sq (fun aa ww ll hh=>by have:=hh.gt 0 0;exact ov (fC (HCD.o ww hh.inv))) ?_;refine sq (fun aa ww ll hh=>by exact ov (xmv (hh.oL 19))) ?_;refine sq (fun aa ww ll hh=>by have:=hh.gt 1 1;have:=hh.gt 2 0;exact ov gX) ?_;refine sq (fun aa ww ll hh=>by have:=hh.gt 3 0;exact ov gX) ?_;refine sq (fun aa ww ll hh=>by have:=hh.gt 4 0;exact ov (fC (HCD.o ww hh.inv))) ?_;refine sq (fun aa ww ll hh=>by have:=hh.oL 15;exact ov gX) ?_;refine sq (fun aa ww ll hh=>by have:=hh.gt 6 0;exact ov (fC (HCD.o ww hh.inv))) ?_;refine sq (fun aa ww ll hh=>by exact ov (xmv (hh.oL 19))) ?_;refine sq (fun aa ww ll hh=>by have:=hh.gt 7 1;have:=hh.gt 8 0;exact ov gX) ?_;refine sq (fun aa ww ll hh=>by have:=hh.gt 9 0;exact ov gX) ?_;refine sq (fun aa ww ll hh=>by have:=hh.gt 10 0;exact ov (fC (HCD.o ww hh.inv))) ?_;refine stq (.bool false) (fun aa ww ll hh=>?_) ?_
    ·have e203:=hh.gt 5 6;have e209:=hh.gt 11 0;have hq:=neqE ha hb9 ww;refine ov ?_;clear hh;generalize aa.eval=ev at e203 e209⊢;go_simp
     try simp
    refine stm 12 0 ?_;refine sq (fun aa ww ll hh=>by have:=hh.oL 13;exact hh.og 0 gX) ?_;refine sq (fun aa ww ll hh=>by have:=hh.gt 14 0;exact hh.og 1 (fC (HCD.o ww hh.inv))) ?_;refine sq (fun aa ww ll hh=>by exact hh.og 2 (xmv (hh.oL 19))) ?_;refine sq (fun aa ww ll hh=>by have:=hh.gt 15 1;have:=hh.gt 16 0;exact hh.og 3 gX) ?_;refine sq (fun aa ww ll hh=>by have:=hh.gt 17 0;exact hh.og 4 gX) ?_;refine sq (fun aa ww ll hh=>by have:=hh.gt 18 0;exact hh.og 5 (fC (HCD.o ww hh.inv))) ?_;refine stq (.string (strOfNums xb)) (fun aa ww ll hh=>?_) ?_
    ·have e217:=hh.gt 19 0;exact hh.og 6 (fC (HCD.o ww hh.inv))
    refine sq (fun aa ww ll hh=>by have:=hh.oL 15;exact hh.og 7 gX) ?_;refine sq (fun aa ww ll hh=>by have:=hh.gt 21 0;exact hh.og 8 (fC (HCD.o ww hh.inv))) ?_;refine sq (fun aa ww ll hh=>by exact hh.og 9 (xmv (hh.oL 19))) ?_;refine sq (fun aa ww ll hh=>by have:=hh.gt 22 1;have:=hh.gt 23 0;exact hh.og 10 gX) ?_;refine sq (fun aa ww ll hh=>by have:=hh.gt 24 0;exact hh.og 11 gX) ?_;refine sq (fun aa ww ll hh=>by have:=hh.gt 25 0;exact hh.og 12 (fC (HCD.o ww hh.inv))) ?_;refine stq (.string (strOfNums xb)) (fun aa ww ll hh=>?_) ?_
    ·have e224:=hh.gt 26 0;exact hh.og 13 (fC (HCD.o ww hh.inv))
    refine stq (.bool false) (fun aa ww ll hh=>?_) ?_
    ·have e218:=hh.gt 20 7;have e225:=hh.gt 27 0;refine hh.og 14 ?_;clear hh;generalize aa.eval=ev at e218 e225⊢;go_simp
     try simp
    refine sq (fun aa ww ll hh=>by have:=hh.gt 13 15;have:=hh.gt 28 0;have ec:=evc aa;exact ov gX) ?_;intro ll w9 hS9 hok;clear hok;simp only[ly];have HBX2:=hD (HBW.o.trans (hS9.mono HBW.o.size));clear hS9;go_wp2_with fail;go_roundw
    case rel=>exact ⟨m+1,om,by go_num,HBX2.o⟩
    case measure=>exact mz
   ·obtain rfl:m=hn1:=om
    have hmi:¬(m:Int)<(m:Int):=om
    have HBZ:=hD (HB9.o.trans (HBW.o.mono HB9.o.size));go_wp2_with (go_at_call 13;refine (HKN.o _).mono ?_;rintro r w10 ⟨rfl,hb10⟩;have HB10:=hD hb10;clear hb10);go_ret;exact ⟨rfl,HBZ.o.trans (HB10.o.mono HBZ.o.size)⟩
end Go.Proofs.YtikilcbpogfgkaaGreat
