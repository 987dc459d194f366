/-
  Closing scripts that stand more than once, as default arguments.
-/
import Derived.Test.YtikilcbpogfgkaaGreatRows
import Derived.BigQuiet
import Derived.Deep.AppendLies
import Derived.Deep.DeepCutAuto
import Derived.Deep.RegionHeld3
import Derived.Deep.RegionLaw
import Derived.Deep.Slices
import Derived.Laws.AppendOwnNone
import Derived.Lib.Hide
import Derived.OpenShut
import Derived.ProofKit
import Derived.StillTailTactics
import Derived.WalkLawsBesides
import Derived.WalkSpells
set_option maxRecDepth 100000
namespace Go.Proofs.YtikilcbpogfgkaaGreat
variable {P:Prop}
theorem gA (h:P:=by
 subst hta;obtain ⟨va,vc,rfl⟩:=HR2.o.s.shape;obtain ⟨sl,hsl⟩:=nm S2.length;have hsl2:sl<=6000:=by have:=HB2.o.len;have:=HN.o;have:=HSL.o;omega
 rw[<- hsl] at HR2⊢;have HVT:=hD hv;have HTT:=hD (And.intro ht htl);have HS2:=hD (And.intro hsl hsl2);clear hv ht htl hsl hsl2;by_cases e1:t=I
 ·subst e1;have e2:(t==t)=true:=by simp
  have hr:R=true:=by
   have h1:=HVT.o;rw[if_pos rfl] at h1;rw[HR.o];exact HC.o.found HNE.o (HV.o.symm.trans h1)
  have hbw:=HB0.o.trans (HW2.o.mono HB0.o.size);exact gC4
 have e2:(t==I)=false:=by rw[beq_eq_false_iff_ne];exact e1
 have hv2:=HVT.o;rw[if_neg e1] at hv2;by_cases e3:t<0
 ·have e4:¬0<=t:=om;rw[if_neg (fun h=>e4 h.1)] at hv2;have HV2:=hD hv2;clear hv2;go_wp2_with fail;go_roundw
  case rel=>exact ⟨q+1,_,_,om,by go_num,HV2.o,HB2.o,HR2.o,HW2.o⟩
  case measure=>exact mz
 have e4:0<=t:=om;obtain ⟨r,hr⟩:=nm (S2.contains t);have HIN:Hd (CR 80 #[.slice va sl vc, .int .i64 t] wr (.bool r)):=by rw[hr];exact in10_any S2 _ _ _ t wr HR2.o.s.row (by have:=HS2.o;omega)
 cases r
 ·have hv3:¬t∈S2:=fun h=>by rw[<- List.contains_iff_mem] at h;rw[h] at hr;cases hr
  rw[if_pos ⟨e4,hv3⟩] at hv2;have HV2:=hD hv2;have HBP:=hD (HB2.o.push hv3 e4 HTT.o.2);clear hv2 hv3 hr;go_upto_region 23 with (first
   |(go_at_call 80;refine HIN.o.mono ?_;rintro e w7 ⟨rfl,hb7⟩;have HR7:=hD (HR2.o.below hb7);have HW7:=hD (HW2.o.trans (hb7.mono HW2.o.size));clear hb7;obtain ⟨_,_,hta7,hc7⟩:=HR7.o.tcell HTT.o.1;cases hta7)
   |(refine app_int rfl (.tmp 83) (.tmp 88) rfl W0.heap.size (.slice va sl vc) _ rfl (HR7.o.alloc _).s w7.heap.size t rfl (by simp[go_sem]) (by have:=HS2.o;omega) (by have:=HW7.o.size;simp only[World.size_alloc];omega) ?_;intro v8 w8 h1 h2;have HR8:=hD ((HR7.o.alloc _).appS h1 h2);have HW8:Hd (Bl W0 w8):=h2.below (HR7.o.alloc _).s (HW7.o.alloc HW7.o.size _) lr (by have:=HW7.o.size;simp only[World.size_alloc];omega);clear h1 h2;obtain ⟨_,_,hta8,hc8⟩:=HR8.o.tcell HTT.o.1;cases hta8))
  go_wp2_with ((refine app_int rfl (.tmp 90) (.tmp 95) rfl W0.heap.size u7 _ rfl (HR8.o.alloc _).x w8.heap.size t rfl (by simp[go_sem]) (by have:=HS2.o;have:=HB2.o.xl;omega) (by have:=HW8.o.size;simp only[World.size_alloc];omega) ?_;intro v9 w9 h1 h2;have HR9:=hD ((HR8.o.alloc _).appX h1 h2);have HW9:Hd (Bl W0 w9):=h2.below (HR8.o.alloc _).x (HW8.o.alloc HW8.o.size _) lr (by have:=HW8.o.size;simp only[World.size_alloc];omega);clear h1 h2));go_roundw
  case rel=>exact ⟨q+1,_,_,om,by go_num,HV2.o,HBP.o,HR9.o,HW9.o⟩
  case measure=>exact mz
 ·have hv3:t∈S2:=by rw[<- List.contains_iff_mem];exact hr.symm
  rw[if_neg (fun h=>h.2 hv3)] at hv2;have HV2:=hD hv2;clear hv2 hv3 hr;go_wp2_with (go_at_call 80;refine HIN.o.mono ?_;rintro e w7 ⟨rfl,hb7⟩;have HR7:=hD (HR2.o.below hb7);have HW7:=hD (HW2.o.trans (hb7.mono HW2.o.size));clear hb7);go_roundw
  case rel=>exact ⟨q+1,_,_,om,by go_num,HV2.o,HB2.o,HR7.o,HW7.o⟩
  case measure=>exact mz):P:=h
theorem gB (h:P:=by
 have HY:Hd (∀ W,Bl W0 W->Cl W b (o+k) (.slice p1 n1 c1)):=fun W hw=>(hw.cell (p:=⟨b,o+k,none⟩) hb).trans y0
 have HR:Hd (T=R):=by
  show _=_;have hn:=HN.o;rw[HT.o,hR];unfold ntThere;rw[show decide (0<=(k:Int)/\(k:Int)<(n.ports.length:Int))=true by simp;omega];simp
 clear hR y0 hy hb;generalize s.pp=spp at*;subst hps;refine roB W0 ?_;refine sq (fun aa ww ll hh=>by have:=hh.oL 3;exact ov gX) ?_;refine sq (fun aa ww ll hh=>by have:=hh.gt 0 0;obtain ⟨n0,n1,n2,e0,e1⟩:=HCE.o ww hh.inv;have y0:=HY.o ww hh.inv;exact ov gX) ?_;refine sq (fun aa ww ll hh=>by have:=hh.gt 1 0;have ec:=evc aa;exact ov gX) ?_;refine stm 2 0 ?_;refine sq (fun aa ww ll hh=>by have:=hh.oL 3;exact hh.og 0 gX) ?_;refine sq (fun aa ww ll hh=>by have:=hh.gt 4 0;obtain ⟨n0,n1,n2,e0,e1⟩:=HCE.o ww hh.inv;have y0:=HY.o ww hh.inv;exact hh.og 1 gX) ?_;refine sq (fun aa ww ll hh=>by have:=hh.oL 2;exact hh.og 2 gX) ?_;refine sq (fun aa ww ll hh=>by have:=hh.gt 6 0;obtain ⟨n0,n1,n2,e0,e1⟩:=HCE.o ww hh.inv;have y0:=HY.o ww hh.inv;exact hh.og 3 gX) ?_;refine sq (fun aa ww ll hh=>by have:=hh.gt 7 0;obtain ⟨n0,n1,n2,e0,e1⟩:=HCE.o ww hh.inv;have y0:=HY.o ww hh.inv;exact hh.og 4 gX) ?_;refine sq (fun aa ww ll hh=>by have:=hh.gt 5 3;have:=hh.gt 8 0;exact hh.og 5 gX) ?_;refine sq (fun aa ww ll hh=>by have:=hh.gt 3 6;have:=hh.gt 9 0;have ec:=evc aa;exact ov gX) ?_;refine stm 10 0 ?_;refine sq (fun aa ww ll hh=>by have:=hh.oL 2;exact hh.og 0 gX) ?_;refine sq (fun aa ww ll hh=>by have:=hh.gt 12 0;obtain ⟨n0,n1,n2,e0,e1⟩:=HCE.o ww hh.inv;have y0:=HY.o ww hh.inv;exact hh.og 1 gX) ?_;refine sq (fun aa ww ll hh=>by have:=hh.oL 3;exact hh.og 2 gX) ?_;refine sq (fun aa ww ll hh=>by have:=hh.gt 14 0;obtain ⟨n0,n1,n2,e0,e1⟩:=HCE.o ww hh.inv;have y0:=HY.o ww hh.inv;exact hh.og 3 gX) ?_;refine sq (fun aa ww ll hh=>by have:=hh.gt 13 2;have:=hh.gt 15 0;exact hh.og 4 gX) ?_;refine sq (fun aa ww ll hh=>by have:=hh.gt 16 0;obtain ⟨n0,n1,n2,e0,e1⟩:=HCE.o ww hh.inv;have y0:=HY.o ww hh.inv;exact hh.og 5 gX) ?_;refine sq (fun aa ww ll hh=>by have:=hh.oL 3;exact hh.og 6 gX) ?_;refine sq (fun aa ww ll hh=>by have:=hh.gt 18 0;obtain ⟨n0,n1,n2,e0,e1⟩:=HCE.o ww hh.inv;have y0:=HY.o ww hh.inv;exact hh.og 7 gX) ?_;refine ⟨.eq (.bool R),trivial,rfl,fun aa ww ll hh=>?_,?_⟩
 ·have e22:=hh.gt 17 2;have e24:=hh.gt 19 0;have ef:=evf aa;refine out_call_eq (hh.go 8 rfl kq rfl rfl) ?_ (HC.o ww hh.inv);exact gX
 exact gD2):P:=h
theorem gC (h:P:=by
 by_cases e:j=i
 ·subst e;rw[hk] at hkj;cases hkj;rw[updO_self];cases k with
  |eq u=>exact hv
  |rel p=>exact hv
  |rell js p=>
   show p (js.map _) w' v;exact gS3
  |fn js F=>
   show v=F (js.map _);exact gS3
 rw[updO_ne e];have hokj:=h.ok j (hold j e hj) kj hkj;cases kj with
 |eq u=>exact hokj
 |rel p=>exact hkp _ (gM_ hkj) w w' _ hokj hb
 |rell js p=>
  show p (js.map _) w' (l j);have hjl:j<ops.size:=by rw[<- hlen];exact (gL_ hkj).1
  have cj:=hc j _ (Array.getElem?_eq_getElem hjl) _ hkj;rw[List.map_congr_left fun x hx=>updO_ne (l:=l) (v:=v) (fun q=>by have:=h.dp j _ (hold j e hj) (Array.getElem?_eq_getElem hjl) x (cj.js x hx);rw[q,hn] at this;cases this)];exact hkp _ (gM_ hkj) _ w w' _ hokj hb
 |fn js F=>
  show l j=F (js.map _);have hjl:j<ops.size:=by rw[<- hlen];exact (gL_ hkj).1
  have cj:=hc j _ (Array.getElem?_eq_getElem hjl) _ hkj;rw[List.map_congr_left fun x hx=>updO_ne (l:=l) (v:=v) (fun q=>by have:=h.dp j _ (hold j e hj) (Array.getElem?_eq_getElem hjl) x (cj.js x hx);rw[q,hn] at this;cases this)];exact hokj):P:=h
theorem gD (h:P:=by
 obtain ⟨s1,s2⟩:=layO_sz (l:=l) Ks ops.toList 0 a0;have ht:a.tmps=(layO a0 l Ks ops.toList 0).tmps:=by
  refine Array.ext_getElem? fun s=>?_
  by_cases hw:∃j,j<ops.size/\dstOf ops j=some s
  ·obtain ⟨j,hj,hjd⟩:=hw;have ho:=Array.getElem?_eq_getElem hj;obtain ⟨k,hk⟩:=hget j _ ho;have hd:(ops[j]).dst=some s:=by unfold dstOf at hjd;rw[ho] at hjd;exact hjd
   have cj:=hc j _ ho k hk;rw[hI.fr.new j s (hall j hj) hjd,layO_new Ks ops.toList 0 a0 j ops[j] k s hlen2 hk sm hd (cj.dst s hd).1 (fun y o' hy ho' e=>(cj.dst s hd).2 y hy (by
    unfold dstOf;have:ops[y]?=some o':=by simpa using ho'
    rw[this];exact e)),Nat.zero_add]
   have:=hok j k hk;cases k with
   |eq u=>have h2:l j=u:=this;rw[h2];rfl
   |rel p=>rfl
   |rell js p=>rfl
   |fn js F=>rfl
  rw[hI.fr.old s fun j hj e=>hw ⟨j,by
   unfold dstOf at e;cases q:ops[j]? with
   |none=>rw[q] at e;cases e
   |some o'=>exact (gA_ q).1,e⟩]
  rw[(layO_at (a0:=a0) Ks ops.toList 0 a0 s hlen2 fun x o ho e=>hw ⟨x,by
   have:ops[x]?=some o:=by simpa using ho
   exact ⟨(gA_ this).1,by unfold dstOf;rw[this];exact e⟩⟩).1]
 obtain ⟨t,df⟩:=a;have hdf:df=a0.defers:=hI.fr.df;generalize hX:layO a0 l Ks ops.toList 0=X at*;obtain ⟨t2,df2⟩:=X;simp only at ht s2;rw[ht,hdf,s2]):P:=h
theorem gE (h:P:=by
 go_wp2_with fail;all_goals
  go_ret;refine ⟨?_,by first|exact HB0.o|exact HB0.o.trans (HB1.o.mono HB0.o.size)|exact (HB0.o.trans (HB1.o.mono HB0.o.size)).trans (HB2.o.mono (Nat.le_trans HB0.o.size HB1.o.size))⟩;show Ending.returned (.int .i64 _)=_;congr 2;rw[HR.o];obtain ⟨g1,g2,g3⟩:=HRR.o;obtain ⟨d1,d2,d3⟩:=HL.o;clear HB0 HPB HNB HZB HP HS;simp only[bne_iff_ne,ne_eq,beq_iff_eq,beq_eq_false_iff_ne,bne_eq_false_iff_eq,Int.not_lt] at*
  first|(simp_all[plain0P];done)|(simp_all[plain0P];omega)):P:=h
theorem gF (h:P:=by
 go_enter Tryz.func64,Tryz.ntmps64;go_wp2_with (go_at_call 98;go_in);rw[HE.o];refine (numCut_any _ _ _ HC.o).mono ?_;rintro e w1 ⟨rfl,hb⟩;obtain ⟨hc,hf⟩:=bcell hb;have hz:=hb.size;simp at hz;have L1:w.heap.size+1<w1.heap.size:=om;obtain ⟨u,v,hm,-,-⟩:=numV_parts (n*2 ^ sh _%(B*B)%2 ^ sh j);have HM:=hD hm;rw[hm];clear hm;go_wp2_with fail;exact bodyPost_ret (v:= .agg #[.int .u64 (u:Int), .int .u64 (v:Int)]) (by simp[results,Tryz.results64,go_sem,hc,hf]) rfl ⟨by rw[<- HM.o],bL⟩):P:=h
theorem gG (h:P:=by
 go_wp2_with (first
 |(go_at_call 30;(with_reducible refine (HGR.o _ HB0.o).mono ?_);rintro e w1 ⟨⟨b1,rfl,ha1⟩,hb1⟩;have HB1:=hD (HB0.o.trans (hb1.mono HB0.o.size));have HC1:=hD (HC0.o.trans (hb1.mono HC0.o.size));have HA1:=hD ha1;clear ha1;clear hb1;clear q0 q1 q2 q3 q4 q5 q6 q7 q8 q9 q10 q11 u0 u1 u2;obtain ⟨q0,q1,q2,q3,q4,q5,q6,q7,q8,q9,q10,q11⟩:=(HCE.o w1 HC1.o).1.cells;obtain ⟨u0,u1,u2⟩:=(HCE.o w1 HC1.o).2.cells;cases b1)
 |(go_at_call 19;(with_reducible refine (HM19.o _ HB1.o (HA1.o (by trivial)).1).mono ?_);rintro e w2 ⟨⟨b2,rfl,-⟩,hb2⟩;have HB2:=hD (HB1.o.trans (hb2.mono HB1.o.size));have HC2:=hD (HC1.o.trans (hb2.mono HC1.o.size));clear hb2;clear q0 q1 q2 q3 q4 q5 q6 q7 q8 q9 q10 q11 u0 u1 u2;obtain ⟨q0,q1,q2,q3,q4,q5,q6,q7,q8,q9,q10,q11⟩:=(HCE.o w2 HC2.o).1.cells;obtain ⟨u0,u1,u2⟩:=(HCE.o w2 HC2.o).2.cells;cases b2)
 |(go_at_call 20;(with_reducible refine (HM10.o _ HB2.o (HA1.o (by trivial)).1).mono ?_);rintro e w3 ⟨rfl,hb3⟩;have HB3:=hD (HB2.o.trans (hb3.mono HB2.o.size));have HC3:=hD (HC2.o.trans (hb3.mono HC2.o.size));clear hb3;clear q0 q1 q2 q3 q4 q5 q6 q7 q8 q9 q10 q11 u0 u1 u2;obtain ⟨q0,q1,q2,q3,q4,q5,q6,q7,q8,q9,q10,q11⟩:=(HCE.o w3 HC3.o).1.cells;obtain ⟨u0,u1,u2⟩:=(HCE.o w3 HC3.o).2.cells;cases rm)
 |(go_at_call 31;(with_reducible refine (HM13.o _ HB3.o).mono ?_);rintro e w4 ⟨⟨b4,rfl,ha4⟩,hb4⟩;have HB4:=hD (HB3.o.trans (hb4.mono HB3.o.size));have HC4:=hD (HC3.o.trans (hb4.mono HC3.o.size));have HA4:=hD ha4;clear ha4;clear hb4;clear q0 q1 q2 q3 q4 q5 q6 q7 q8 q9 q10 q11 u0 u1 u2;obtain ⟨q0,q1,q2,q3,q4,q5,q6,q7,q8,q9,q10,q11⟩:=(HCE.o w4 HC4.o).1.cells;obtain ⟨u0,u1,u2⟩:=(HCE.o w4 HC4.o).2.cells;cases b4))
 all_goals
  go_ret;exact ⟨⟨_,rfl,fun h=>by cases h⟩,by first|exact HB4.o|exact HB3.o|exact HB2.o|exact HB1.o⟩):P:=h
theorem gH (h:P:=by
 have c0:W2.cell? ⟨gm,0,none⟩=some (.int .i64 (many:Int)):=by simp[World.cell?,HS2.o.hm]
 have f0:W2.frozen? ⟨gm,0,none⟩=false:=by simp[World.frozen?,HS2.o.hm]
 cases bit
 ·go_wp2_with fail;go_end0;refine ⟨rfl, .slice (some ⟨g,0,none⟩) (L+1) c,?_⟩;rw[HF.o,if_neg dq];exact HS2.o.count
 ·have hlast:=some_getD (l:=o1) (j:=L) 0 (by have:=HO1.o;omega);have HS3:Hd (LayX B gm gg W0 o1 many (.slice (some ⟨g,0,none⟩) o1.length c) W2):=by show LayX _ _ _ _ _ _ _ _;rw[HO1.o];exact HS2.o
  have z0:W2.cell? ⟨g,L,none⟩=some (.int .u8 (o1.getD L 0)):=own_get HS3.o.own (by rw[List.getElem?_map,hlast];rfl);have z1:W2.frozen? ⟨g,L,none⟩=false:=own_nofz HS3.o.own _;have c1:W2.cell? ⟨gg,0,none⟩=some (.slice (some ⟨g,0,none⟩) (L+1) c):=by simp[World.cell?,HS2.o.hy]
  have hk7:((many%8:Nat):Int)<=7:=om;have HN:Hd (o1.set L (orP (o1.getD L 0) (many%8))=R):=by show _=_;rw[HF.o,if_pos rfl,HO1.o,Nat.add_sub_cancel]
  clear HF hlast;generalize o1.getD L 0=q at*;go_wp2_with fail;go_region;have HS4:Hd (LayX B gm gg W0 R many (.slice (some ⟨g,0,none⟩) (L+1) c) (W2.setCell ⟨g,L,none⟩ (.int .u8 (bits .or .u8 q (2 ^ (7-many%8)%256)))).drew):=by
   have:=(HS3.o.put (i:=L) (by have:=HO1.o;omega) (orP q (many%8))).below (Below.drew br);rw[HO1.o,HN.o] at this;exact this
  generalize (W2.setCell ⟨g,L,none⟩ (.int .u8 (bits .or .u8 q (2 ^ (7-many%8)%256)))).drew=W3 at*;clear c0 f0 c1 z0 z1;have c0:W3.cell? ⟨gm,0,none⟩=some (.int .i64 (many:Int)):=by simp[World.cell?,HS4.o.hm]
  have f0:W3.frozen? ⟨gm,0,none⟩=false:=by simp[World.frozen?,HS4.o.hm]
  go_wp2_with fail;go_end0;exact ⟨rfl,_,HS4.o.count⟩):P:=h
theorem gI (h:P:=by
 refine sq (fun aa ww ll hh=>by have:=hh.gt 3 6;have:=hh.gt 9 0;have ec:=evc aa;exact ov gX) ?_;refine stm 10 0 ?_;refine stk 0 ?_;refine stk 1 ?_;refine stk 2 ?_;refine stk 3 ?_;refine stk 4 ?_;refine stk 5 ?_;refine stk 6 ?_;refine stk 7 ?_;refine stk 8 ?_;exact gD2):P:=h
theorem gJ (h:P:=by
 have hr:R=false:=HNO.o (by
  unfold instW;dsimp only;rw[if_neg sm,if_neg sm,if_neg sm,if_neg sm,if_pos sm,if_neg ha])
 rcases (show ¬a=0\/(a=0/\¬b=0) by omega) with ha1|⟨ha1,ha2⟩
 all_goals
  try have hb8:(b !=0)=true:=bne_iff_ne.2 om
  try have hb9:(b !=1)=true:=bne_iff_ne.2 om
  try have ha8:(a !=0)=true:=bne_iff_ne.2 om
  go_wp2_with fail
  all_goals
   go_ret;exact ⟨by first|rfl|(rw[hr];rfl),HB0.o⟩):P:=h
theorem gK (h:P:=by
 refine roB w5 ?_;refine sq (fun aa ww ll hh=>by have:=hh.oL 5;exact ov gX) ?_;refine sq (fun aa ww ll hh=>by have:=hh.gt 0 0;exact ov (fC (HCM.o ww hh.inv))) ?_;refine sq (fun aa ww ll hh=>by exact ov (xmv (hh.oL 7))) ?_;refine sq (fun aa ww ll hh=>by have:=hh.gt 1 1;have:=hh.gt 2 0;exact ov gX) ?_;refine sq (fun aa ww ll hh=>by have:=hh.gt 3 0;exact ov (fC (HCM.o ww hh.inv))) ?_;refine sq (fun aa ww ll hh=>by have:=hh.gt 4 0;have ec:=evc aa;exact ov gX) ?_;refine stm 5 0 ?_;refine stk 0 ?_;refine stk 1 ?_;refine stk 2 ?_;refine stk 3 ?_;refine stk 4 ?_;refine stk 5 ?_;refine stk 6 ?_;refine stk 7 ?_;refine stk 8 ?_;exact gE1):P:=h
theorem gL (h:P:=by
 have hlt:i<ops.size:=(gA_ ho).1;have hset:∀j,didO (L.setIfInBounds i true) j=(decide (j=i)||didO L j):=fun j=>didO_set (by rw[h.ls];exact hlt)
 have hme:didO (L.setIfInBounds i true) i=true:=by rw[hset];simp
 have hdi:dstOf ops i=o.dst:=by unfold dstOf;rw[ho];rfl
 have hold:∀j,j≠i->didO (L.setIfInBounds i true) j=true->didO L j=true:=fun j hj h2=>by rw[hset] at h2;simpa [hj] using h2
 have ci:=hc i o ho k hk;refine ⟨by simpa using h.ls,⟨put_defers.trans h.fr.df,put_size.trans h.fr.sz,fun s hs=>?_,fun j d hj hjd=>?_⟩,hst _ _ h.inv hb,fun j hj kj hkj=>?_,fun j oj hj hoj x hx=>?_⟩
 ·rw[put_at (by rw[<- hdi];exact hs i hme)];exact h.fr.old s fun j hj=>hs j (by rw[hset,hj];simp)
 ·exact gL2
 ·exact gC
 exact gD4):P:=h
theorem gM (h:P:=by
 refine OutD.out_val (fun w=>Fr.refl _ w) (hh.inv.quiet _ rfl) (wanted_none rfl) ?_;exact gX):P:=h
theorem gN (h:P:=by
 go_region_with (first|(go_at_call 131;refine (HAM.o _ HB0.o.drew).mono ?_;rintro e w3 ⟨rfl,hb3⟩;try rw[HE3.o];have HB3:Hd (Bl W0 w3):=Below.trans (Below.drew br) hb3;have HF3:Hd (Fr (·=X) w w3):=(Fr.of_below HB0.o).trans (Fr.of_below HB3.o);have HP3:Hd (PktB base w3 X (x.acc false) r v f mm fs):=(HP.o.below (HB0.o.trans (HB3.o.mono HB0.o.size))).acc0;have hX3:Bx2 w3 (w.heap.size+1) 0 0:=(hb3.block _ (lt_of_some HX0.o)).trans HX0.o;clear b0 b1 g0 g1;obtain ⟨b0,b1,g0,g1⟩:=hX3.cells;clear hX3));all_goals
  go_wp2_with fail;refine bodyPost_ret (v:= .tuple #[.agg #[.int .u64 (y3:Int), .int .u64 (z3:Int)], .bool true]) ?_ rfl ⟨by rw[HR3.o],?_,?_⟩
  ·simp[results,Tryz.results125,go_sem,b0,b1,g0,g1]
  ·exact HP3.o.kept fun k hk=>set2_other w3 (w.heap.size+1) 0 1 _ _ (by have:=(HP.o.blk hk).2;omega)
  ·exact (HF3.o.set (.inr om) _).set (.inr om) _):P:=h
theorem gO (h:P:=by
 have HR:Hd (T=false):=by
  show _=_;have hn:=HN.o;rw[HT.o];unfold ntThere;rw[show decide (0<=sw/\sw<(n.ports.length:Int))=false by simp;omega];rfl
 refine roB W0 ?_;refine sq (fun aa ww ll hh=>by have:=hh.oL 3;exact ov gX) ?_;refine sq (fun aa ww ll hh=>by have:=hh.gt 0 0;exact ov (fC (HCE.o ww hh.inv))) ?_;refine sq (fun aa ww ll hh=>by have:=hh.gt 1 0;have ec:=evc aa;exact ov gX) ?_;refine stm 2 0 ?_;refine sq (fun aa ww ll hh=>by have:=hh.oL 3;exact hh.og 0 gX) ?_;refine sq (fun aa ww ll hh=>by have:=hh.gt 4 0;exact hh.og 1 (fC (HCE.o ww hh.inv))) ?_;refine sq (fun aa ww ll hh=>by have:=hh.oL 2;exact hh.og 2 gX) ?_;refine sq (fun aa ww ll hh=>by have:=hh.gt 6 0;exact hh.og 3 (fC (HCE.o ww hh.inv))) ?_;refine sq (fun aa ww ll hh=>by have:=hh.gt 7 0;exact hh.og 4 (fC (HCE.o ww hh.inv))) ?_;refine sq (fun aa ww ll hh=>by have:=hh.gt 5 3;have:=hh.gt 8 0;exact hh.og 5 gX) ?_;exact gI):P:=h
theorem gP (h:P:=by
 have hjli:(j:Int)<(kn:Int):=om;have hk6:kn<=1048576:=by have:=HLK.o;omega
 obtain ⟨c,hc⟩:∃c,x.keys[j]?=some c:=⟨_,gE_ (by have:=HLK.o.1;omega)⟩;obtain ⟨kb,ko,cp,cn,cc,hkp,hkb,y6,hy6⟩:=CsRow.elG (HKR.o.below keepCs (HB0.o.trans (HWQ.o.mono HB0.o.size))) hc;obtain ⟨zz,hzz⟩:=nm (z1+sumL (fun c=>1+c.length) (x.keys.take j));have HY:Hd (zz+1+cn=z1+sumL (fun c=>1+c.length) (x.keys.take (j+1))):=by show _=_;rw[hzz,sumL_take hc,hy6.ln.1];omega
 have HYB:Hd (zz+1+cn<=5000000000000000000):=by
  show _<=_;rw[HY.o];have h1:=HZB.o;have h2:=sumL_takele (f:=fun c:List Nod=>1+c.length) (l:=x.keys) (k:=j+1);have h3:=HZK.o;unfold codesN at h3;omega
 rw[<- hzz];rw[hkp] at q4;clear hc hy6 hzz hkp;go_wp2_with fail;go_roundw
 case rel=>exact ⟨j+1,om,by go_num,by rw[<- HY.o];exact congrArg _ (wrap2 (a:=zz+1) om rfl HYB.o),HWQ.o⟩
 case measure=>exact mz):P:=h
theorem gQ (h:P:=by
 clear q0 q1 q2 q3;obtain ⟨q,hq,rfl,HQ⟩:=hrel;obtain ⟨q0,q1,q2,q3⟩:=(HPB.o.below HQ.o).cells;by_cases hql:(q:Int)<k
 ·obtain ⟨z,hz⟩:=HM.o (k-1-(q:Int));have HZ:=hD hz;clear hz;cases z
  ·go_wp2_with (go_at_call 112;(with_reducible refine (HZ.o _).mono ?_);rintro e w2 ⟨rfl,hb⟩;have HQ2:=hD (HQ.o.trans (hb.mono HQ.o.size));clear hb);go_roundw
   case rel=>exact ⟨q+1,om,by go_num,HQ2.o⟩
   case measure=>exact mz
  ·go_wp2_with (go_at_call 112;(with_reducible refine (HZ.o _).mono ?_);rintro e w2 ⟨rfl,hb⟩;have HQ2:=hD (HQ.o.trans (hb.mono HQ.o.size));clear hb);go_ret2;exact ⟨⟨_,_,rfl⟩,HB0.o.trans (HQ2.o.mono HB0.o.size)⟩
 go_wp2_with fail;go_ret2;exact ⟨⟨_,_,rfl⟩,HB0.o.trans (HQ.o.mono HB0.o.size)⟩):P:=h
theorem gR (h:P:=by
 rw[<- hyt] at hb1;have HSP:=hD hbp;rw[hbp] at x2;clear hy hyt hbp hbb hb0 hbr hbk;go_wp2_with (refine app_int rfl (.tmp 48) (.tmp 55) rfl W0.heap.size u10 _ rfl (HRK.o.alloc _).t wr.heap.size yt rfl (by simp[go_sem]) HTL.o (by have:=HBK.o.size;simp only[World.size_alloc];omega) ?_;intro v6 w6 h1 h2;have HR6:=hD ((HRK.o.alloc _).appT h1 h2);have HB6:Hd (Bl W0 w6):=h2.below (HRK.o.alloc _).t (HBK.o.alloc HBK.o.size _) lr (by have:=HBK.o.size;simp only[World.size_alloc];omega);have HS6:=hD ((HSK.o.below (br.alloc lr _)).grw h2 (HRK.o.alloc _).t);clear h1 h2);go_roundw
 case rel=>exact ⟨k+1,om,by go_num,by have:=HR6.o;rw[HTK.o] at this;exact this,HB6.o,HS6.o⟩
 case measure=>exact mz):P:=h
theorem gS (h:P:=by
 go_wp2_with (first
  |(go_at_call 11;(with_reducible refine (HMY.o _ HB0.o).mono ?_);rintro r w1 ⟨⟨b1,rfl,ha1⟩,hb1⟩;have HB1:=hD (HB0.o.trans (hb1.mono HB0.o.size));have HC1:=hD hb1;have HA1:=hD ha1;clear hb1 ha1;clear q0 q1 q2 q3 q4 q5 q6 q7 q8 q9 q10 q11 u0 u1 u2 v0 v1;obtain ⟨q0,q1,q2,q3,q4,q5,q6,q7,q8,q9,q10,q11⟩:=(HBX.o.below HC1.o).1.cells;obtain ⟨u0,u1,u2⟩:=(HBX.o.below HC1.o).2.1.cells;obtain ⟨v0,v1⟩:=(HBX.o.below HC1.o).2.2.cells;dsimp only at v0 v1;cases b1)
  |(go_at_call 13;refine (HKN.o _).mono ?_;rintro r w9 ⟨rfl,hb9⟩;have HB9:=hD hb9;clear hb9))
 all_goals
  go_ret;exact ⟨rfl,by first|exact HB2.o.trans (HB9.o.mono HB2.o.size)|exact HB1.o.trans (HB9.o.mono HB1.o.size)⟩):P:=h
theorem gT (h:P:=by
 by_cases ha:a=0/\b=0
 ·obtain ⟨rfl,rfl⟩:=ha;have HR:=hD (HSO.o 0 (by simp[instW]));cases o;all_goals
   go_wp2_with (go_at_call 82;refine (HWI.o _ HB0.o).mono ?_;rintro e w5 ⟨rfl,hb5⟩;unfold wRes;have HB5:=hD hb5;clear hb5)
   all_goals
    go_ret;refine ⟨?_,by first|exact HB0.o|exact (HB0.o).trans (HB5.o.mono (HB0.o).size)⟩;show Ending.returned (.bool _)=_;congr 2;rw[HR.o];clear HB0 HPB HIB HP HS HNO HSO HR
    try simp only[bne_iff_ne,ne_eq,beq_iff_eq,beq_eq_false_iff_ne,bne_eq_false_iff_eq,Int.not_lt] at*
    unfold tailP
    first|(simp_all;done)|(simp_all;omega)|(simp_all;rw[Bool.eq_iff_iff,beq_iff_eq,decide_eq_true_eq];try first|exact Iff.rfl|omega)
 exact gJ):P:=h
theorem gU (h:P:=by
 obtain ⟨vp,vn,vc,rfl⟩:∃p n c,r= .slice p n c:=by
  obtain ⟨-,q|⟨g,cap,cur,e,-⟩⟩:=h.hr
  ·exact ⟨_,_,_,q.1⟩
  exact ⟨_,_,_,e⟩
 obtain ⟨vp2,vn2,vc2,rfl⟩:∃p n c,v= .slice p n c:=by
  obtain ⟨-,q|⟨g,cap,cur,e,-⟩⟩:=h.hv
  ·exact ⟨_,_,_,q.1⟩
  exact ⟨_,_,_,e⟩
 obtain ⟨vp3,vn3,vc3,rfl⟩:∃p n c,f= .slice p n c:=by
  obtain ⟨-,q|⟨g,cap,cur,e,-⟩⟩:=h.hf
  ·exact ⟨_,_,_,q.1⟩
  exact ⟨_,_,_,e⟩
 obtain ⟨vp4,vn4,vc4,rfl⟩:∃p n c,m= .slice p n c:=by
  obtain ⟨-,q|⟨g,cap,cur,e,-⟩⟩:=h.hm.1
  ·exact ⟨_,_,_,q.1⟩
  exact ⟨_,_,_,e⟩
 unfold World.cell?;rw[h.st];unfold pktCells;match i with
 |0|1|2|3|4|5|6|7|8=>simp
 |i+9=>simp):P:=h
theorem gV (h:P:=by
 have hsz:=hh.inv.size;clear hh;refine out_new (wanted_none rfl) (w':=ww.alloc (.cells #[.slice none 0 0, .int .u8 0, .int .i64 0, .int .i64 0, .slice none 0 0, .bool false] 59)) (v:= .pointer (some ⟨ww.heap.size,0,none⟩)) ?_ (TR.of_below hsz (br.alloc lr _)) ⟨_,rfl,hsz, .inl (heap_new _ _)⟩;go_simp;try rfl):P:=h
theorem gW (h:P:=by
 have ec:=evc aa;have hsz:=hh.inv.size;have ec:=evc aa;clear hh;refine out_new (wanted_none rfl) (w':=ww.alloc (.cells #[.slice none 0 0] 34)) (v:= .slice (some ⟨ww.heap.size,0,none⟩) 1 1) ?_ (TR.of_below hsz (br.alloc lr _)) ⟨_,rfl,hsz,heap_new _ _⟩;generalize aa.eval=ev at ec⊢;go_simp;try rfl):P:=h
theorem gY (h:P:=by
 refine ⟨hI.inv,fun t ht=>eval_of (hI.fr.old t fun j _ e=>?_),fun j hj d hjd=>eval_some (hI.fr.new j d (hd' j (by simpa using hj)) hjd),fun j hj kj hkj=>hI.ok j (hd' j (by simpa using hj)) kj hkj,fun g b hg=>?_⟩
 ·exact gF2
 exact gO1):P:=h
theorem gZ (h:P:=by
 show _=_;rw[hW0];exact hq2 _ _ _):P:=h
theorem gA1 (h:P:=by
 refine out_call_eq (wanted_none rfl) ?_ (HC.o ww hh.inv);exact gX):P:=h
theorem gB1 (h:P:=by
 unfold chkAll at hchk⊢;simp only[Bool.and_eq_true,decide_eq_true_eq,List.length_map,List.size_toArray,List.all_eq_true,List.mem_range] at hchk⊢;refine ⟨h2,fun i hi=>?_⟩;have hc:=hchk.2 i hi;have ho:os[i]?=some os[i]:=gE_ hi;have hk:Kf[i]?=some (Kf[i]'(by rw[h2];exact hi)):=gE_ _;have hj:=(h5 i _ _ ho (by rw[List.length_nil,Nat.zero_add];exact hk)).1;simp only[List.getElem?_toArray,ho,List.getD_eq_getElem?_getD,List.getElem?_map,hk,Option.map_some,Option.getD_some] at hc⊢;exact chkO_js hc hj):P:=h
theorem gC1 (h:P:=by
 refine sq (fun aa ww ll hh=>by have:=hh.gt 5 6;have:=hh.gt 11 0;have ec:=evc aa;exact ov gX) ?_;refine stm 12 0 ?_;refine stk 0 ?_;refine stk 1 ?_;refine stk 2 ?_;refine stk 3 ?_;refine stk 4 ?_;refine stk 5 ?_;refine stk 6 ?_;refine stk 7 ?_;refine sq (fun aa ww ll hh=>by have:=hh.gt 13 8;have:=hh.gt 21 0;have ec:=evc aa;exact ov gX) ?_;intro ll w3 hS hok;clear hok;simp only[ly];go_wp2_with fail;go_ret;refine ⟨?_,HB.o.trans (hS.mono HB.o.size)⟩;have e:listsP below [] l=false:=by rw[HST.o,decide_eq_false om];rfl
 rw[e];rfl):P:=h
theorem gD1 (h:P:=by
 refine sq (fun aa ww ll hh=>by have:=hh.gt 7 9;have:=hh.gt 16 0;have ec:=evc aa;exact ov gX) ?_;refine stm 17 0 ?_;refine stk 0 ?_;refine stk 1 ?_;refine stk 2 ?_;refine stk 3 ?_;refine stk 4 ?_;refine stk 5 ?_;refine stk 6 ?_;refine sq (fun aa ww ll hh=>by have:=hh.gt 18 7;have:=hh.gt 25 0;have ec:=evc aa;exact ov gX) ?_;intro ll w3 hS3 hok;clear hok;simp only[ly];have HB3:=hD (HB.o.trans (hS3.mono HB.o.size));clear hS3;exact gU4):P:=h
theorem gE1 (h:P:=by
 refine sq (fun aa ww ll hh=>by have:=hh.gt 6 9;have:=hh.gt 15 0;have ec:=evc aa;exact ov gX) ?_;intro ll w6 hS hok;clear hok;simp only[ly];have HZ6:Hd (Bl w w6/\Bl W1 w6):=⟨HZ5.o.1.trans (hS.mono HZ5.o.1.size),HZ5.o.2.trans (hS.mono HZ5.o.2.size)⟩;obtain ⟨⟨c2,c3,c4⟩,d0,d1,d2,d3,d4,d5⟩:=HCM.o w6 hS;clear hS;go_wp2_with fail;all_goals first
  |(go_ret;exact ⟨⟨_,rfl,fun h=>by cases h⟩,HZ6.o.1⟩)
  |(
   go_roundw
   case rel=>exact ⟨k+1,_,om,by go_num,rfl,HZ6.o.2⟩
   case measure=>simp[intOf];omega)):P:=h
theorem gF1 (h:P:=by
 intro i o ho e he hb;obtain ⟨k,hk⟩:=hget i o ho;exact (hc i o ho k hk).back e.on (by unfold depsOf;exact List.mem_map.2 ⟨e,List.mem_filter.2 ⟨by simpa using he,hb⟩,rfl⟩)):P:=h
theorem gG1 (h:P:=by
 have ef:=evf aa;have ec:=evc aa;have ec:=evc aa;have HI:=hh.inv;refine out_call (wanted_none rfl) ?_ ((all_any ww).mono fun e w9 h=>by obtain ⟨⟨s,h1,h2⟩,h3⟩:=h;exact ⟨_,h1,⟨s,rfl,h2.lower HI.size⟩,TR.of_below HI.size h3⟩);try clear HI;exact gX):P:=h
theorem gH1 (h:P:=by
 have HR:Hd (T=false):=by
  show _=_;rw[HT.o];unfold ntThere;rw[show decide (0<=sw/\sw<(n.ports.length:Int))=false by simp;omega];rfl
 refine roB W0 ?_;refine sq (fun aa ww ll hh=>by have:=hh.oL 3;exact ov gX) ?_;refine sq (fun aa ww ll hh=>by have:=hh.gt 0 0;exact ov (fC (HCE.o ww hh.inv))) ?_;refine sq (fun aa ww ll hh=>by have:=hh.gt 1 0;have ec:=evc aa;exact ov gX) ?_;refine stm 2 0 ?_;refine stk 0 ?_;refine stk 1 ?_;refine stk 2 ?_;refine stk 3 ?_;refine stk 4 ?_;refine stk 5 ?_;exact gI):P:=h
theorem gI1 (h:P:=by
 refine sq (fun aa ww ll hh=>by have:=hh.gt 4 4;have:=hh.gt 8 0;have ec:=evc aa;exact ov gX) ?_;refine stm 9 0 ?_;refine stk 0 ?_;refine stk 1 ?_;refine stk 2 ?_;refine stk 3 ?_;refine stk 4 ?_;refine stk 5 ?_;refine stk 6 ?_;refine stk 7 ?_;refine sq (fun aa ww ll hh=>by have:=hh.gt 10 8;have:=hh.gt 18 0;have ec:=evc aa;exact ov gX) ?_;refine stm 19 0 ?_;exact gE4):P:=h
theorem gJ1 (h:P:=by
 go_wp2_with (refine wpList_store_row rfl 146 (.tmp 5) (.tmp 7) rfl w1.heap.size (rowA f) rfl rfl 146 _ HNW.o (by rw[rowA_size];exact infoRow) (by rw[rowA_size];exact HZS.o) (rowA_one _) ?_);go_ret;exact ⟨by rw[HE.o];rfl,HB2.o⟩):P:=h
theorem gK1 (h:P:=by
 have hsn:=sumI_snoc (l:=hd) (k:=z) (by have:=HNR.o;omega);obtain ⟨v,hv⟩:=nm (hd.getD z 0);rw[<- hv] at hrc hsn;have HSN:=hD hsn;obtain ⟨S,hSq⟩:=nm (sumI (hd.take z));rw[<- hSq];have HSQ:=hD hSq;have hwa:=wrap_add S v;clear hsn hSq hv;go_wp2_with fail;go_roundw
 case rel=>exact ⟨z+1,om,by go_num,by rw[HSN.o, <-HSQ.o];first|rfl|simp[hwa],(by first|trivial|rfl)⟩
 case measure=>exact mz):P:=h
theorem gL1 (h:P:=by
 have ec:=evc aa;have hsz:=hh.inv.size;have ec:=evc aa;clear hh;refine out_new (wanted_none rfl) (w':=ww.alloc (.cells #[.int .u8 7] 5)) (v:= .slice (some ⟨ww.heap.size,0,none⟩) 1 1) ?_ (TR.of_below hsz (br.alloc lr _)) (own_base (own_one (heap_new ww (.cells #[.int .u8 7] 5)) rfl lr) hsz);generalize aa.eval=ev at ec⊢;go_simp;try rfl):P:=h
theorem gM1 (h:P:=by
 rw[hd] at h6;simp only[Bool.and_eq_true,decide_eq_true_eq,List.all_eq_true,Bool.or_eq_true,Bool.not_eq_true',beq_eq_false_iff_ne,List.mem_range] at h6;refine ⟨h6.1,fun j hj e=>?_⟩;have hlt:j<ops.size:=by
  unfold dstOf at e;cases q:ops[j]? with
  |none=>rw[q] at e;cases e
  |some o'=>exact (gA_ q).1
 rcases h6.2 j hlt with h|h
 ·exact hj h
 exact h e):P:=h
theorem gN1 (h:P:=by
 refine sq (fun aa ww ll hh=>by have:=hh.gt 6 0;exact ov gX) ?_;intro ll w9 hS hok;clear hok;simp only[ly];go_wp2_with fail;go_roundw
 case rel=>exact ⟨k+1,om,by go_num,HW.o.trans (hS.mono HW.o.size),fun j y hj hy=>by
  rcases Nat.lt_or_ge j k with h|h
  ·exact HQ.o j y h hy
  ·obtain rfl:j=k:=om
   rw[HX.o.1] at hy;cases hy;exact HX.o.2.symm⟩
 case measure=>exact mz):P:=h
theorem gO1 (h:P:=by
 obtain ⟨h1,d,h2⟩:=ci.guard g b hg;have:=hI.fr.new g d (hd' g h1) h2;unfold yielded;have e2:(ops[g]?).bind (·.dst)=some d:=h2;rw[e2];simp only[Option.bind_some,this];cases l g<;>rfl):P:=h
theorem gP1 (h:P:=by
 obtain ⟨hl,h|⟨g',cap',cur,h1,h2,h3,h4,h5,h6,h7⟩⟩:=h
 ·simp at h
 simp only[Value.slice.injEq,Option.some.injEq,Addr.mk.injEq,and_true,true_and] at h1;obtain ⟨rfl,rfl⟩:=h1;rw[<- h7] at hv;have hi:i<n*k:=by
  have:=(gL_ hv).1;simp at this;omega
 rw[List.getElem?_take_of_lt hi] at hv;simp only[World.cell?,h3];simpa using hv):P:=h
theorem gQ1 (h:P:=by
 obtain rfl:q=ln:=om;have hql':¬(q:Int)<(q:Int):=om;have hv:=HVQ.o;rw[HLN.o,visT_end] at hv;have HV3:Hd (V=visN p I (N.drop (j+1)) (S2,X2)):=hv;have HR3':=hD HR2.o.noT;have hn6:nn<=6000:=HNB.o;clear hv;go_wp2_with fail;go_roundw
 case rel=>exact ⟨j+1,_,_,om,by go_num,HV3.o,HB2.o,HR3'.o,HW2.o⟩
 case measure=>exact mz):P:=h
theorem gR1 (h:P:=by
 have e20:=hh.gt 12 2;have e22:=hh.gt 14 0;have ef:=evf aa;refine out_call_eq (hh.go 3 rfl kq rfl rfl) ?_ (HIN.o ww (HB0.o.trans (hh.inv.mono HB0.o.size)));exact gX):P:=h
theorem gS1 (h:P:=by
 go_wp2_with fail;go_ret;exact ⟨rfl,Below.refl _ _⟩):P:=h
theorem gT1 (h:P:=by
 clear hok;simp only[ly];go_wp2_with fail;go_ret;exact ⟨by first|rfl|(rw[hr];rfl),hbw.trans (hS.mono hbw.size)⟩):P:=h
theorem gU1 (h:P:=by
 rintro L a w hall ⟨l,hI⟩;have hok:∀(i:Nat) (k:Out),Ks[i]?=some k->k.ok l w (l i):=fun i k hk=>hI.ok i (hall i (by rw[<- hlen];exact (gL_ hk).1)) k hk
 have hlen2:Ks.length=ops.toList.length:=by simpa using hlen
 have e:a=layO a0 l Ks ops.toList 0:=by
  exact gD
 rw[e];exact hend l w hI.inv hok):P:=h
theorem gV1 (h:P:=by
 have hs:=hstep i _ k ho hk a w l hat;refine wpOp_step ho fun K hK=>?_
 unfold OutStep at hs;split
 ·rename_i hw;rw[if_pos hw] at hs;exact hs K fun v w' hb hv=>hK _ _ ⟨_,hI.step hst hkp hc hlen ho hk hn hd' hb hv⟩
 rename_i hw;rw[if_neg hw] at hs;exact hK _ _ ⟨_,hI.step hst hkp hc hlen ho hk hn hd' (hR _) hs⟩):P:=h
theorem gW1 (h:P:=by
 refine sq (fun aa ww ll hh=>by have:=hh.gt 6 9;have:=hh.gt 15 0;have ec:=evc aa;exact ov gX) ?_;intro ll w2 hS hok;clear hok;simp only[ly];have HB2:=hD (HB0.o.trans ((HW.o.trans (hS.mono HW.o.size)).mono HB0.o.size));clear hS;go_wp2_with fail;go_ret;exact ⟨⟨_,rfl,trivial⟩,HB2.o⟩):P:=h
theorem gY1 (h:P:=by
 refine sq (fun aa ww ll hh=>by have:=hh.gt 7 10;have:=hh.gt 17 0;have ec:=evc aa;exact ov gX) ?_;intro ll w3 hS hok;clear hok;simp only[ly];have hr:R=false:=HNO.o (HW.o.trans (if_neg om));go_wp2_with fail;go_ret;exact ⟨by first|rfl|(rw[hr];rfl),HB0.o.trans (hS.mono HB0.o.size)⟩):P:=h
theorem gZ1 (h:P:=by
 have h1:Below B W9 W10:=by rw[hW10];exact ((((br.setCell (p:=⟨B,1,none⟩) lr _).setCell (p:=⟨B,2,none⟩) lr _).setCell (p:=⟨B,3,none⟩) lr _).setCell (p:=⟨B,4,none⟩) lr _).drew
 exact HB10.o.trans h1):P:=h
theorem gA2 (h:P:=by
 have:=(h5 i o k (by simpa using ho) (by simpa using hk)).2 a w l;rw[List.length_nil,Nat.zero_add] at this;exact this ⟨hat.inv,hat.old,hat.dep,fun j hj k' hk'=>hat.ok j hj k' (by
  rw[List.getElem?_take] at hk';split at hk'
  ·exact hk'
  ·cases hk'),hat.yield⟩):P:=h
theorem gB2 (h:P:=by
 have ef:=evf aa;refine out_call_eq (hh.go 2 rfl kq rfl rfl) ?_ (HOI.o ww hh.inv);exact gX):P:=h
theorem gC2 (h:P:=by
 go_wp2_with fail;refine bodyPost_ret (results_tmp2 rfl _ _ _) rfl ⟨?_,HB0.o.trans (HW.o.mono HB0.o.size)⟩;rw[HWP.o];rfl):P:=h
theorem gD2 (h:P:=by
 refine sq (fun aa ww ll hh=>by have:=hh.gt 11 9;have:=hh.gt 20 0;have ec:=evc aa;exact ov gX) ?_;refine stm 21 0 ?_;intro ll w2 hS hok;clear hok;simp only[ly];go_wp2_with fail;go_ret;exact ⟨by rw[HR.o];rfl,HB0.o.trans (hS.mono HB0.o.size)⟩):P:=h
theorem gE2 (h:P:=by
 exact Nat.le_trans (List.length_filter_le _ _) sm):P:=h
theorem gF2 (h:P:=by
 unfold writes at ht;rw[List.any_eq_false] at ht;unfold dstOf at e;cases q:ops[j]? with
 |none=>rw[q] at e;cases e
 |some o'=>
  rw[q] at e;have:=ht o' (by rw[Array.mem_toList_iff];exact Array.mem_of_getElem? q);rw[beq_iff_eq] at this;exact this e):P:=h
theorem gG2 (h:P:=by
 have HX:=hD hx;clear hx;generalize l.getD k 0=z at*;go_wp2_with fail;go_roundw
 case rel=>exact ⟨k+1,om,by go_num,by show _=_;rw[HE.o,contains_drop (by have:=HN.o;omega) (fun e=>HX.o e.symm)],HB.o⟩
 case measure=>exact mz):P:=h
theorem gH2 (h:P:=by
 have HST:=hD hst;clear hst hv0;rcases hlohi with hlo|⟨hlo,hhi⟩
 all_goals
  go_wp2_with fail;refine bodyPost_ret (results_tmp2 rfl _ _ _) rfl ⟨?_,HBB.o _ br⟩;rw[HNO.o _ (HFK.o.trans HST.o)];rfl):P:=h
theorem gI2 (h:P:=by
 have e6:=hh.gt 1 1;have e7:=hh.gt 2 0;have ef:=evf aa;refine out_call_eq (wanted_none rfl) ?_ (HF1.o ww);exact gX):P:=h
theorem gJ2 (h:P:=by
 have e:(if m-i<=k/\k<m-i+(m+j-m) then f (k-(m-i)+m) else if m-i+(m+j-m)<=k/\k<m+j then f (k-(m-i+(m+j-m))+(m-i)) else f k)=f k:=by rw[if_neg om,if_neg om]
 rw[e,if_neg om,if_neg om];unfold swr;rw[if_neg om,if_neg om]):P:=h
theorem gK2 (h:P:=by
 rw[setCell_row _ h1];congr 2;apply rowA_congr;intro i _;simp only[put];by_cases e:i=k
 ·subst e;rw[if_pos rfl,if_pos om,hc]
 rw[if_neg e];by_cases e2:i<k
 ·rw[if_pos e2,if_pos om]
 rw[if_neg e2,if_neg om]):P:=h
theorem gL2 (h:P:=by
 by_cases e:j=i
 ·subst e;rw[hdi] at hjd;rw[hjd,updO_self];exact put_self (by rw[h.fr.sz];exact (ci.dst d hjd).1)
 rw[put_at (fun q=>(ci.dst d q).2 j e hjd),updO_ne e];exact h.fr.new j d (hold j e hj) hjd):P:=h
theorem gM2 (h:P:=by
 refine ⟨fun _=>undef,by simp,⟨rfl,rfl,fun _ _=>rfl,fun j d hj=>?_⟩,h0,fun i hi=>?_,fun i o hi=>?_⟩
 ·rw[didO_none] at hj;cases hj
 ·exact gZ4
 exact gZ4):P:=h
theorem gN2 (h:P:=by
 have e38:=hh.gt 8 5;have e43:=hh.gt 13 0;have ef:=evf aa;refine out_call_eq (hh.go 6 rfl kq rfl rfl) ?_ (HFK.o ww (HB0.o.trans ((HB.o.trans (hh.inv.mono HB.o.size)).mono HB0.o.size)));exact gX):P:=h
theorem gO2 (h:P:=by
 rw[Nat.mul_one] at h2;exact ⟨b,o,p1,n1,c1,e,h1,h2,h3⟩):P:=h
theorem gP2 (h:P:=by
 have e4:=(hh.old 4 kq).trans (evalO rfl);simp only[nthO] at e4;have b0:=HPT.o _ _ hh.inv;exact gM):P:=h
theorem gQ2 (h:P:=by
 have e:decide (x=z/\y=u)=(decide ((x:Int)=z)&&decide ((y:Int)=u)):=by rw[<- Bool.decide_and,decide_eq_decide];omega
 rw[e];by_cases h1:(x:Int)=z<;>by_cases h2:(y:Int)=u<;>simp[go_sem,h1,h2]):P:=h
theorem gR2 (h:P:=by
 have e34:=hh.gt 4 0;have ef:=evf aa;refine out_call_eq (wanted_none rfl) ?_ (HNM.o ww);exact gX):P:=h
theorem gS2 (h:P:=by
 rw[Below.heap_alloc _ _ _ (by simp;omega),Below.heap_alloc _ _ _ sm];exact heap_new _ _):P:=h
theorem gT2 (h:P:=by
 show _<=_;have h1:=HBN.o;have h2:(x.brs.take k).length<=k:=List.length_take_le ..;simp only[List.length_append,List.length_map,List.length_cons,List.length_nil];omega):P:=h
theorem gU2 (h:P:=by
 unfold chkO at h⊢;simp only[Bool.and_eq_true] at h⊢;obtain ⟨⟨⟨⟨⟨h1,-⟩,h3⟩,h4⟩,h5⟩,h6⟩:=h;exact ⟨⟨⟨⟨⟨h1,hj⟩,h3⟩,h4⟩,h5⟩,h6⟩):P:=h
theorem gV2 (h:P:=by
 exact ⟨f0,k0,k1,⟨hfr,fun _=> .inr hP,fun _=>hP⟩,hP⟩):P:=h
theorem gW2 (h:P:=by
 rw[Below.heap_setCell _ _ _ _ (by show k≠N+1;omega),Below.heap_setCell _ _ _ _ (by show k≠N+1;omega),Below.heap_setCell _ _ _ _ (by show k≠N+1+1;omega)]):P:=h
theorem gY2 (h:P:=by
 intro j u hu;match j,hu with
 |0,hu=>simp at hu;subst hu;simpa [Addr.add] using hc):P:=h
theorem gZ2 (h:P:=by
 unfold execOp;rw[h];dsimp only;rw[hx];go_simp):P:=h
theorem gA3 (h:P:=by
 intro u54 u55 u56 u57 u58 u59 u60 u61 u62 u63 u64 u65 u66 u67 u68 u69 w9 h9 hb9;dsimp only;go_wp2_with fail;go_end0;exact ⟨rfl,h9,HBN6.o.trans hb9⟩):P:=h
theorem gB3 (h:P:=by
 rw[List.getElem?_append_right sm];simpa using h1):P:=h
theorem gC3 (h:P:=by
 exact hk k this.1 this.2):P:=h
theorem gD3 (h:P:=by
 go_wp2_with fail;refine bodyPost_ret (results_tmp2 rfl _ _ _) rfl ⟨?_,HBB.o _ br⟩;rw[HNO.o _ (HFK.o.trans HST.o)];rfl):P:=h
theorem gE3 (h:P:=by
 rw[Bool.and_eq_true,decide_eq_true_eq,List.length_map] at hchk;exact hchk.1):P:=h
theorem gF3 (h:P:=by
 go_wp2_with fail;all_goals
  go_ret;refine ⟨congrArg (fun b=>Ending.returned (.bool b)) ?_,rfl⟩;rw[HR.o,Bool.eq_iff_iff];simp;try omega):P:=h
theorem gG3 (h:P:=by
 refine ⟨?_,?_,?_,?_,?_,?_⟩<;>simp[World.cell?,h]):P:=h
theorem gH3 (h:P:=by
 exact ((below_dN HW5.o _).setCell (by show w.heap.size<=w.heap.size+1+1;omega) _).setCell (by show w.heap.size<=w.heap.size+1+1;omega) _):P:=h
theorem gI3 (h:P:=by
 have ef:=evf aa;have ec:=evc aa;exact gA1):P:=h
theorem gJ3 (h:P:=by
 exact ⟨⟨a+1,_,om,by go_num,HRS.o,HCX.o.step HF3.o HP2.o HOK.o.1 HOK.o.2,HFR.o.trans HF3.o⟩,by simp[intOf];omega⟩):P:=h
theorem gK3 (h:P:=by
 have e28:=hh.gt 16 4;have e32:=hh.gt 20 0;have ef:=evf aa;refine out_call_eq (hh.go 7 rfl kq rfl rfl) ?_ (HIN.o ww hh.inv);exact gX):P:=h
theorem gL3 (h:P:=by
 unfold nextI;split
 ·rename_i h1;have:=hc at' _ (istAt_some h) (by rcases h1 with h1|h1;exact .inr h1;exact .inl h1.1);omega
 omega):P:=h
theorem gM3 (h:P:=by
 show _=_;have e:LK=some ⟨xs,xp⟩:=by rw[HE.o,HDR.o];exact (if_neg HDA.o).trans (if_pos (by rw[h2.1,h2.2]))
 rw[HRR.o,e];rfl):P:=h
theorem gN3 (h:P:=by
 rw[Bool.and_eq_true,List.all_eq_true] at h;have:=h.2 i (List.mem_range.2 (gA_ ho).1);simpa [ho] using this):P:=h
theorem gO3 (h:P:=by
 unfold Oper.wp;simp[execOp,ho,resolve,invoke,builtin,hs,hx,hrun,Result.andThen];exact hK _ _ (hg v' w' r1 r2).1 (hg v' w' r1 r2).2):P:=h
theorem gP3 (h:P:=by
 have e7:=hh.oL 7;refine OutE.out_val (YR.refl _ _ _) (wanted_none rfl) ?_;rw[ex_moveO (by first|exact .inl rfl|exact .inr rfl) e7]):P:=h
theorem gQ3 (h:P:=by
 refine ⟨?_,?_,?_,?_,?_⟩<;>simp[World.cell?,h]):P:=h
theorem gR3 (h:P:=by
 exact ⟨_,rfl,h0,by rw[hB.block _ om];exact heap_new w _,Below.trans (br.alloc lr _) (hB.mono om)⟩):P:=h
theorem gS3 (h:P:=by
 rw[List.map_congr_left fun x hx=>updO_ne (l:=l) (v:=v) (fun q=>by have:=hd x (ci.js x hx);rw[q,hn] at this;cases this)];exact hv):P:=h
theorem gT3 (h:P:=by
 have e17:=hh.gt 0 8;have e18:=hh.gt 1 7;have e22:=hh.gt 5 3;have e23:=hh.gt 6 2;have e25:=hh.gt 8 0;have ef:=evf aa;exact gA1):P:=h
theorem gU3 (h:P:=by
 have e16:=hh.gt 0 1;have e17:=hh.gt 1 0;have ef:=evf aa;refine out_call_eq (wanted_none rfl) ?_ (HHAS.o ww hh.inv);exact gX):P:=h
theorem gV3 (h:P:=by
 rintro (h|h|h|h|h|h)
 ·omega
 ·omega
 ·exact h rfl
 ·rw[h4] at h;cases h
 ·exact absurd h dq
 exact absurd h dq):P:=h
theorem gW3 (h:P:=by
 have e11:=hh.gt 6 1;have e12:=hh.gt 7 0;have ef:=evf aa;refine out_call_eq (hh.go 3 rfl kq rfl rfl) ?_ (HF2.o ww);exact gX):P:=h
theorem gY3 (h:P:=by
 refine sq (fun aa ww ll hh=>by have:=hh.gt 6 9;have:=hh.gt 15 0;have ec:=evc aa;exact ov gX) ?_;intro ll w3 hS hok;exact gT1):P:=h
theorem gZ3 (h:P:=by
 exfalso;obtain ⟨p,hp,e1,e2⟩:=UMap.keys h1 (gM_ f2);rw[f3] at e1;exact hx p hp (by simpa using e1.symm)):P:=h
theorem gA4 (h:P:=by
 by_cases h:i=j
 ·subst h;simp[hi]
 rw[getD_set_ne false h];have:decide (j=i)=false:=by simp;omega
 rw[this,Bool.false_or]):P:=h
theorem gB4 (h:P:=by
 constructor
 ·rintro rfl;exact ⟨rfl,rfl⟩
 rintro ⟨h1,h2⟩;rw[<- Nat.div_add_mod a B, <-Nat.div_add_mod b B,h1,h2]):P:=h
theorem gC4 (h:P:=by
 go_wp2_with fail;go_ret;exact ⟨by first|rfl|(rw[hr];rfl),hbw⟩):P:=h
theorem gD4 (h:P:=by
 by_cases e:j=i
 ·subst e;rw[ho] at hoj;cases hoj;rw[hset,hd x hx];simp
 rw[hset,h.dp j oj (hold j e hj) hoj x hx];simp):P:=h
theorem gE4 (h:P:=by
 intro ll w3 hS hok;clear hok;simp only[ly];go_wp2_with fail;go_ret;exact ⟨rfl,HB0.o.trans (hS.mono HB0.o.size)⟩):P:=h
theorem gF4 (h:P:=by
 have e51:=hh.gt 4 10;have e61:=hh.gt 14 0;have ef:=evf aa;refine out_call_eq (wanted_none rfl) ?_ (HFI.o ww);exact gX):P:=h
theorem gG4 (h:P:=by
 exact h.same ho hd rfl hg [] rfl (fun j hj=>by cases hj) dq dq dq (ex_field_n hop ((h.old (s:=3) rfl dq).trans h.c.t3))):P:=h
theorem gH4 (h:P:=by
 rw[Bool.eq_false_iff];intro h;rw[List.all_eq_true] at h;have:=h x (gM_ hj);rw[hf] at this;cases this):P:=h
theorem gI4 (h:P:=by
 go_wp2_with fail;go_ret;exact ⟨⟨_,rfl,trivial⟩,HB0.o⟩):P:=h
theorem gJ4 (h:P:=by
 show Below _ _ _;rw[hW2];exact ((br.alloc lr _).trans (HB1.o.mono sm)).alloc om _):P:=h
theorem gK4 (h:P:=by
 rw[hr];clear hr;go_wp2_with fail;go_roundw
 case rel=>exact ⟨k+1,om,by go_num,rfl,HWQ.o⟩
 case measure=>exact mz):P:=h
theorem gL4 (h:P:=by
 exact h.same ho hd rfl hg [] rfl (fun j hj=>by cases hj) dq dq dq (ex_move hop ((h.old (s:=0) rfl dq).trans h.c.t0))):P:=h
theorem gM4 (h:P:=by
 show NodeAt _ _ _ _ _ _ _ _;rw[hW2];exact (HNA.o.below HB1.o).below (br.alloc lr _)):P:=h
theorem gN4 (h:P:=by
 show _=_;rw[List.drop_eq_getElem_cons (gL_ hx).1,linkP,(gL_ hx).2]):P:=h
theorem gO4 (h:P:=by
 go_wp2_with fail;go_ret;exact ⟨by rw[HR.o];rfl,HB.o⟩):P:=h
theorem gP4 (h:P:=by
 have e23:=hh.gt 7 0;have ef:=evf aa;refine out_call_eq (hh.go 3 rfl kq rfl rfl) ?_ (HOH.o ww hh.inv);exact gX):P:=h
theorem gQ4 (h:P:=by
 go_wp2_with fail;go_roundg 1
 case measure=>omega
 case rel=>exact ⟨f2,HS, .inr ⟨rfl,Nat.le_refl _,HM2⟩⟩):P:=h
theorem gR4 (h:P:=by
 show _=_;have e:LK=some ⟨ys,yp⟩:=by rw[HE.o,HDR.o];exact if_pos (by rw[h1.1,h1.2])
 rw[HRR.o,e];rfl):P:=h
theorem gS4 (h:P:=by
 exact ⟨g,e1,e2,(hb.block g (lt_of_block e3)).trans e3⟩):P:=h
theorem gT4 (h:P:=by
 show _=_;have e:LK=none:=by rw[HE.o,List.drop_eq_nil_of_le (by have:=HN.o;omega)];rfl
 rw[HRR.o,e];rfl):P:=h
theorem gU4 (h:P:=by
 go_wp2_with fail;go_ret;exact ⟨⟨_,rfl,fun h=>by cases h⟩,HB0.o.trans (HB3.o.mono HB0.o.size)⟩):P:=h
theorem gV4 (h:P:=by
 go_wp2_with fail;go_ret;exact ⟨⟨_,rfl,fun h=>by cases h⟩,HB0.o.trans (HB5.o.mono HB0.o.size)⟩):P:=h
theorem gW4 (h:P:=by
 go_roundw
 case rel=>exact ⟨k+1,om,by go_num,by show _=_;rw[HI2.o];rfl,HB.o⟩
 case measure=>exact mz):P:=h
theorem gY4 (h:P:=by
 simp[results,Tryz.results34,go_sem,m0,m1]):P:=h
theorem gZ4 (h:P:=by
 rw[didO_none] at hi;cases hi):P:=h
theorem gA5 (h:P:=by
 go_wp2_with fail;refine wp_loop_rounds 1 ?_;rw[rounds_succ];go_wp2_with fail;go_end0;exact ⟨rfl,rfl⟩):P:=h
theorem gB5 (h:P:=by
 obtain ⟨b,o,e,h1,p1,n1,c1,h2,h3⟩:=h.get hj;exact gO2):P:=h
theorem gC5 (h:P:=by
 have:=bitsN_lt x.rest at0 j;rw[hn, <-pow_BB];exact Nat.lt_of_lt_of_le this (Nat.pow_le_pow_right om om)):P:=h
end Go.Proofs.YtikilcbpogfgkaaGreat
