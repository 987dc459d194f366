/-
  Layer 10's document, walked: a code's width.
-/
import Derived.Test.YtikilcbpogfgkaaGreatJI04
set_option maxHeartbeats 6400000
set_option maxRecDepth 100000
namespace Go.Proofs.YtikilcbpogfgkaaGreat
open Go.RowKit
variable {act:Int} {c:List Nod} {d:Nod} {st:List Int}
theorem foldW_snoc {p:Prg} {k:Nat} (h:c[k]?=some d):foldW p act [] (c.take (k+1))=(foldW p act [] (c.take k)).bind fun st=>stepW p act st d:=by
 rw[List.take_add_one,h,foldW_app];congr 1;funext st;show foldW p act st [d]=_;rw[foldW];cases stepW p act st d<;>rfl
theorem foldW_none {p:Prg} {k:Nat} (h:foldW p act [] (c.take k)=none):widthP p act c=none:=by
 have:foldW p act [] c=none:=by
  have e:=foldW_app p act (c.take k) (c.drop k) [];rw[List.take_append_drop,h] at e;exact e
 unfold widthP;rw[this];split<;>rfl
theorem stepW_ok {p:Prg} {st':List Int} (h:stepW p act st d=some st') (hs:∀x∈st,0<x/\x<129):(∀ x∈st',0<x/\x<129)/\st'.length<=st.length+1:=by
 have key:∀(w:Int) (r:List Int),(∀ x∈r,x∈st)->r.length<=st.length->(if w=d.w/\okP w=true then some (w::r) else none)=some st'->(∀ x∈st',0<x/\x<129)/\st'.length<=st.length+1:=by
  intro w r h1 h2 h3;split at h3
  ·rename_i hc;cases h3;refine ⟨fun x hx=>?_,by simp;omega⟩;rcases List.mem_cons.1 hx with rfl|hx
   ·exact okP_iff.1 hc.2
   ·exact hs x (h1 x hx)
  cases h3
 unfold stepW at h;dsimp only at h;split at h
 ·exact key _ _ (fun x hx=>hx) lr h
 split at h
 ·cases h
 split at h
 ·split at h
  ·cases h
  exact key _ _ (fun x hx=>List.mem_cons_of_mem _ hx) sm h
 split at h
 ·exact key _ _ (fun x hx=>List.mem_cons_of_mem _ (List.mem_cons_of_mem _ hx)) (by simp;omega) h
 cases h
theorem foldW_ok {p:Prg} :∀{k:Nat} {st:List Int},foldW p act [] (c.take k)=some st->(∀ x∈st,0<x/\x<129)/\st.length<=k
 |0,st,h=>by
  simp only[List.take_zero,foldW,Option.some.injEq] at h;subst h;exact ⟨fun x hx=>by simp at hx,Nat.le_refl _⟩
 |k+1,st,h=>by
  by_cases hk:k<c.length
  ·rw[foldW_snoc (gE_ hk)] at h;cases h1:foldW p act [] (c.take k) with
   |none=>rw[h1] at h;cases h
   |some s1=>
    rw[h1] at h;obtain ⟨a1,a2⟩:=foldW_ok h1;obtain ⟨b1,b2⟩:=stepW_ok h a1;exact ⟨b1,om⟩
  ·rw[List.take_of_length_le om] at h;have h':foldW p act [] (c.take k)=some st:=by rw[List.take_of_length_le om];exact h
   obtain ⟨a1,a2⟩:=foldW_ok h';exact ⟨a1,om⟩
def wRes:Option Int->Value
 |some x=> .tuple #[.int .i64 x, .bool true]
 |none=> .tuple #[.int .i64 0, .bool false]
def lastW:List Int->Option Int
 |[x]=>some x
 |_=>none
theorem width_last {p:Prg} (hl:c.length<=6000) (h:foldW p act [] c=some st):widthP p act c=lastW st:=by
 unfold widthP;rw[if_neg om,h];cases st with
 |nil=>rfl
 |cons a st=>cases st<;>rfl
theorem width_any (s:PgS) (p:Prg) (act:Int) (c:List Nod) (cp:Option Addr) (n cc:Nat) (w:World) (hp:PgOk w s p) (hS:Sm p) (hc:CRow w (.slice cp n cc) c) (hn:n<=6000):
 Calls Tryz.prog 82 #[pgV s, .int .i64 act, .slice cp n cc] w fun e w'=>e= .returned (wRes (widthP p act c))/\Bl w w':=by
 obtain ⟨hcn,hcc,hcm,-⟩:=hc.ln;have HPL:Hd (∀ W d,Bl w W->d.v<B*B->CR 108 #[pgV s, .int .i64 act,ndV d] W (.int .i64 (plain0P p act d))):=fun W d h hv=>plain0_any s p act d W (hp.below h) hS hv
 have HNO:Hd (∀ k,foldW p act [] (c.take k)=none->widthP p act c=none):=fun k h=>foldW_none h
 have HC:=hD hc;have HCN:=hD hcn;have hbig:¬(65536:Int)<(n:Int):=om;clear hp hS hc hcn;unfold pgV at HPL⊢;go_enter Tryz.func82,Tryz.ntmps82;go_wp2_with fail;obtain ⟨W0,hW0⟩:=nm ((w.alloc (.cells (pA s) 33)).alloc (.cells #[.int .u64 0, .int .u64 0] 82));have HB0:Hd (Bl w W0):=by show Below _ _ _;rw[hW0];exact bL
 have HPB:Hd (PBox W0 w.heap.size s):=by show _=_;rw[hW0,Below.heap_alloc _ _ _ sm];exact heap_new _ _
 have HZB:Hd (ZBox W0 (w.heap.size+1)):=by
  exact gZ
 rw[<- hW0];clear hW0;go_loopw [9,10] (fun u i wr=>∃(k:Nat) (sp:Option Addr) (sn sc:Nat) (st:List Int),k<=n/\i= .int .i64 k/\u= .slice sp sn sc/\Hd (IRow wr (.slice sp sn sc) st.reverse)/\Hd (foldW p act [] (c.take k)=some st)/\Hd (Bl W0 wr)) (fun _ i _=>n-(intOf i).toNat)
 case atStart=>exact ⟨0,none,0,0,[],zl,rfl,rfl,RowAt.nil,rfl,Below.refl _ _⟩
 case round=>
  obtain ⟨k,sp,sn,sc,st,hk,rfl,rfl,HI,HF,HW⟩:=hrel;obtain ⟨hs1,hs2⟩:=foldW_ok HF.o;have HS1:=hD hs1;clear hs1;obtain ⟨hi1,hi2,hi3,-⟩:=HI.o.ln;have hsn:sn=st.length:=by rw[hi1,List.length_reverse]
  have hsk:sn<=k:=om;have HSN:=hD hsn;clear hi1 hsn hs2;by_cases hlt:k<n
  ·obtain ⟨d,hd⟩:∃d,c[k]?=some d:=⟨_,gE_ (by have:=HCN.o;omega)⟩;obtain ⟨bb,oo,rfl,hbb,c0,c1,c2,c3,hv,c4,c5⟩:=(HC.o.below keepNd (HB0.o.trans (HW.o.mono HB0.o.size))).get hd;have hfk:foldW p act [] (c.take (k+1))=stepW p act st d:=by rw[foldW_snoc hd,HF.o];rfl
   obtain ⟨op,kk,a,b,v⟩:=d;simp only at c0 c1 c2 c3 c4 c5 hv;have HFK:=hD hfk;replace HPL:Hd (∀ W,Bl w W->CR 108 #[.agg (pA s), .int .i64 act, .agg #[.int .u8 op, .int .i64 kk, .int .i64 a, .int .i64 b, .int .u64 ((v/B:Nat):Int), .int .u64 ((v%B:Nat):Int)]] W (.int .i64 (plain0P p act ⟨op,kk,a,b,v⟩))):=fun W h=>HPL.o W ⟨op,kk,a,b,v⟩ h hv
   have HSI0:Hd (∀ W x,0<x/\x<129->CR 109 #[.agg #[.int .u8 op, .int .i64 kk, .int .i64 a, .int .i64 b, .int .u64 ((v/B:Nat):Int), .int .u64 ((v%B:Nat):Int)], .int .i64 x] W (.int .i64 (single0P ⟨op,kk,a,b,v⟩ x))):=fun W x hx=>single0_any ⟨op,kk,a,b,v⟩ x W hx
   have HPA0:Hd (∀ W x y,0<x/\x<129->0<y/\y<129->CR 110 #[.agg #[.int .u8 op, .int .i64 kk, .int .i64 a, .int .i64 b, .int .u64 ((v/B:Nat):Int), .int .u64 ((v%B:Nat):Int)], .int .i64 x, .int .i64 y] W (.int .i64 (pair0P ⟨op,kk,a,b,v⟩ x y))):=fun W x y hx hy=>pair0_any ⟨op,kk,a,b,v⟩ x y W hx hy
   have hz:∀W,(Go.binOp .neq 82 (.agg #[.int .u64 ((v/B:Nat):Int), .int .u64 ((v%B:Nat):Int)]) (.agg #[.int .u64 0, .int .u64 0])).run Tryz.prog W= .ok (.bool (decide (v≠0))) W:=fun W=>neqz v W
   obtain ⟨r3,h3⟩:=nm (decide (v≠0));rw[<- h3] at hz;have HR3:=hD h3;generalize ((v/B:Nat):Int)=x at*;generalize ((v%B:Nat):Int)=y at*;have hw1:wrap64 ((sn:Int)-1)=(sn:Int)-1:=wrapS om om;clear hfk hd hv h3;go_upto_region 15 with fail;obtain ⟨W1,hW1⟩:=nm (wr.alloc (.cells #[.int .u8 op, .int .i64 kk, .int .i64 a, .int .i64 b, .int .u64 x, .int .u64 y] 84));have HW1:Hd (Bl W0 W1):=by show Below _ _ _;rw[hW1];exact HW.o.alloc HW.o.size _
   have HNB:Hd (NBox W1 wr.heap.size op kk a b x y):=by show _=_;rw[hW1];exact heap_new _ _
   have HI1:Hd (∀ W,Bl W1 W->IRow W (.slice sp sn sc) st.reverse):=fun W h=>(HI.o.below keepI (by rw[hW1];exact br.alloc lr _)).below keepI h
   rw[<- hW1];clear hW1 c0 c1 c2 c3 c4 c5;generalize wr.heap.size=G at*;obtain ⟨n0,n1,n2,n3,n4,n5⟩:=HNB.o.cells;have HBA:Hd (∀ W,Bl W1 W->Bl W0 W):=fun W h=>HW1.o.trans (h.mono HW1.o.size)
   have HBB:Hd (∀ W,Bl W1 W->Bl w W):=fun W h=>HB0.o.trans ((HW1.o.trans (h.mono HW1.o.size)).mono HB0.o.size)
   have pb:=HPB.o.below HW1.o;have zb:=HZB.o.below HW1.o;obtain ⟨q0,q1,q2,q3,q4,q5,q6,q7,q8,q9,q10,q11⟩:=pb.cells;obtain ⟨z0,z1⟩:=zb.cells;clear pb zb;by_cases hA:1<=op/\op<=6
   ·obtain ⟨hA1,hA2⟩:=hA;obtain ⟨Z,hZ⟩:=nm (plain0P p act ⟨op,kk,a,b,v⟩);have hst:stepW p act st ⟨op,kk,a,b,v⟩=if Z=kk/\okP Z=true then some (Z::st) else none:=by
     unfold stepW;dsimp only;rw[if_pos ⟨hA1,hA2⟩, <-hZ]
    rw[<- hZ] at HPL;have HST:=hD hst;have TLEN:Hd (sn=st.reverse.length):=by show _=_;rw[List.length_reverse];exact HSN.o
    have HTS:=HI1;clear hst hZ;obtain ⟨ro,hro⟩:=nm (okP Z);have HOK:Hd (∀ W,CR 79 #[.int .i64 Z] W (.bool ro)):=fun W=>by rw[hro];exact ok10_any Z W
    have HRO:=hD hro;clear hro;by_cases hzk:Z=kk
    ·subst hzk;cases ro
     ·go_wp2_with (first
      |(go_at_call 108;refine (HPL.o _ (HBB.o _ br)).mono ?_;rintro e w2 ⟨rfl,hb2⟩;have HV2:=hD hb2;have nb:=HNB.o.below hb2;obtain ⟨m0,m1,m2,m3,m4,m5⟩:=nb.cells;clear nb hb2)
      |(go_at_call 79;refine (HOK.o _).mono ?_;rintro e w3 ⟨rfl,hb3⟩;have HV3:=hD (HV2.o.trans (hb3.mono HV2.o.size));clear hb3))
      refine bodyPost_ret (results_tmp2 rfl _ _ _) rfl ⟨?_,HBB.o _ HV3.o⟩;rw[HNO.o _ (HFK.o.trans (by rw[HST.o,if_neg (by rw[<- HRO.o];simp)]))];rfl
     ·have SRC:Hd (∀ W,Bl W1 W->SrcAt W 1 (.slice sp sn sc) sn (st.reverse.flatMap (fun n=>[Value.int .i64 n]))):=fun W hW=>by have q:=(HTS.o W hW).src flatI.toFlatG;rwa [<- TLEN.o] at q
      go_wp2_with (first
      |(go_at_call 108;refine (HPL.o _ (HBB.o _ br)).mono ?_;rintro e w2 ⟨rfl,hb2⟩;have HV2:=hD hb2;have nb:=HNB.o.below hb2;obtain ⟨m0,m1,m2,m3,m4,m5⟩:=nb.cells;clear nb hb2)
      |(go_at_call 79;refine (HOK.o _).mono ?_;rintro e w3 ⟨rfl,hb3⟩;have HV3:=hD (HV2.o.trans (hb3.mono HV2.o.size));clear hb3)
      |(at_builtin;(refine append_gen elemInt rfl (.tmp 110) (.tmp 111) rfl w3.heap.size (.slice (some ⟨w3.heap.size,0,none⟩) 0 0) 0 [] rfl (owns_made0 w3 3 1) (.slice sp sn sc) sn _ rfl (SRC.o _ (HV3.o.alloc HV3.o.size _)) om (by unfold maxLen;omega) sm ?_;intro y1 w4 h1 h2;have HO1:=hD h1;have HB4:Hd (Bl w3 w4):=below_grown (br.alloc lr _) (owns_made0 w3 3 1) h2 lr sm;clear h1 h2))
      |(at_builtin;refine append_gen elemInt rfl (.tmp 112) (.tmp 114) rfl w3.heap.size y1 _ _ rfl (HO1.o.alloc _) _ 1 [.int .i64 Z] rfl (src_one (g:=w4.heap.size) rfl (fun u hu=>by simp at hu;subst hu;rfl) (fun j u hj=>by match j,hj with|0,hj=>cases hj;simp[go_sem])) om (by unfold maxLen;omega) (by have:=HB4.o.size;simp;omega) ?_;intro y2 w5 h1 h2;have HB5:Hd (Bl w3 w5):=below_grown (HB4.o.alloc HB4.o.size _) (HO1.o.alloc _) h2 lr (by have:=HB4.o.size;simp;omega);have hy:IRow w5 y2 (st.reverse++[Z]):=RowAt.of_flat (base:=w3.heap.size) (E:=3) (n:=0+sn+1) flatI (by rw[List.length_append, <-TLEN.o];simp) (by simpa using h1);obtain ⟨pz,cz,rfl,-,-⟩:=hy.shape;have hll:(st.reverse++[Z]).length=sn+1:=(by rw[List.length_append, <-TLEN.o];rfl);rw[hll] at hy⊢;have HY:=hD hy;clear hll;clear h1 h2 hy))
      go_roundw
      case rel=>
       refine ⟨k+1,pz,sn+1,cz,Z::st,om,by go_num,(by first|trivial|rfl),?_,HFK.o.trans (by rw[HST.o,if_pos ⟨(by first|trivial|rfl),HRO.o.symm⟩]),HBA.o _ (HV3.o.trans (HB5.o.mono HV3.o.size))⟩;show IRow _ _ (Z::st).reverse;rw[List.reverse_cons];exact HY.o
      case measure=>exact mz
    go_wp2_with (first
     |(go_at_call 108;refine (HPL.o _ (HBB.o _ br)).mono ?_;rintro e w2 ⟨rfl,hb2⟩;have HV2:=hD hb2;have nb:=HNB.o.below hb2;obtain ⟨m0,m1,m2,m3,m4,m5⟩:=nb.cells;clear nb hb2))
    refine bodyPost_ret (results_tmp2 rfl _ _ _) rfl ⟨?_,HBB.o _ HV2.o⟩;rw[HNO.o _ (HFK.o.trans (by rw[HST.o,if_neg (fun q=>hzk q.1)]))];rfl
   have hA':¬(1<=op/\op<=6):=hA;clear q0 q1 q2 q3 q4 q5 q6 q7 q8 q9 q10 q11;cases r3
   ·have hv0:v=0:=by have:=HR3.o;simpa using this
    by_cases hu:isUn op
    ·cases st with
     |nil=>
      obtain rfl:sn=0:=HSN.o;have hst:stepW p act [] ⟨op,kk,a,b,v⟩=none:=by
       unfold stepW;dsimp only;rw[if_neg hA',if_neg (by simpa using hv0),if_pos hu]
      have HST:=hD hst;clear hst hv0;rcases hu with rfl|rfl|rfl|rfl|rfl
      all_goals
       go_wp2_with fail;refine bodyPost_ret (results_tmp2 rfl _ _ _) rfl ⟨?_,HBB.o _ br⟩;rw[HNO.o _ (HFK.o.trans HST.o)];rfl
     |cons t r=>
      obtain ⟨m,rfl⟩:∃m,sn=m+1:=⟨r.length,by simpa using HSN.o⟩;have hm:m=r.length:=by simpa using HSN.o
      obtain ⟨Z,hZ⟩:=nm (single0P ⟨op,kk,a,b,v⟩ t);have hst:stepW p act (t::r) ⟨op,kk,a,b,v⟩=if Z=kk/\okP Z=true then some (Z::r) else none:=by
       unfold stepW;dsimp only;rw[if_neg hA',if_neg (by simpa using hv0),if_pos hu, <-hZ]
      have HST:=hD hst;have HSI:Hd (∀ W,CR 109 #[.agg #[.int .u8 op, .int .i64 kk, .int .i64 a, .int .i64 b, .int .u64 x, .int .u64 y], .int .i64 t] W (.int .i64 Z)):=fun W=>by rw[hZ];exact HSI0.o W t (HS1.o t sm)
      have hrev:(t::r).reverse=r.reverse++[t]:=by simp
      rw[hrev] at HI1;obtain ⟨sb,so,rfl,hsb,hcell⟩:=IRow.el (HI1.o W1 br) (j:=m) (by simp;omega);have hgt:(r.reverse++[t]).getD m 0=t:=by rw[hm];simp[List.getD_eq_getElem?_getD]
      rw[hgt] at hcell;have HCE:Hd (∀ W,Bl W1 W->Cl W G 0 (.int .u8 op)/\Cl W G 1 (.int .i64 kk)/\Cl W G 2 (.int .i64 a)/\Cl W G 3 (.int .i64 b)/\Cl W G 4 (.int .u64 x)/\Cl W G 5 (.int .u64 y)/\Cl W sb (so+m) (.int .i64 t)):=fun W h=>by
       obtain ⟨a0,a1,a2,a3,a4,a5⟩:=(HNB.o.below h).cells;exact ⟨a0,a1,a2,a3,a4,a5,(h.cell (p:=⟨sb,so+m,none⟩) hsb).trans hcell⟩
      have HTS:Hd (∀ W,Bl W1 W->IRow W (.slice (some ⟨sb,so,none⟩) m sc) r.reverse):=fun W h=>by
       have q:=RowAt.hi' (HI1.o W h) (k:=m) (by simp;omega)
       rwa [List.take_left' (by simp[hm])] at q
      have TLEN:Hd (m=r.reverse.length):=by show _=_;rw[List.length_reverse];exact hm
      rw[show (((m+1:Nat):Int)-1)=(m:Int) by omega];have hm0:¬(m:Int)<0:=om;have hmi:(m:Int)<(m:Int)+1:=om;clear hst hZ hv0 hgt hcell hrev hm HSI0 HPA0 hw1;rcases hu with rfl|rfl|rfl|rfl|rfl
      all_goals
       go_upto_region 22 with fail
       clear n0 n1 n2 n3 n4 n5 z0 z1;refine roB W1 ?_;refine sq (fun aa ww ll hh=>by have:=hh.oL 11;exact ov (fC (HCE.o ww hh.inv))) ?_;refine sq (fun aa ww ll hh=>by exact ov (xmv (hh.oL 9))) ?_;refine sq (fun aa ww ll hh=>by exact ov (xmv (hh.oL 13))) ?_;refine sq (fun aa ww ll hh=>by have:=hh.gt 1 1;have:=hh.gt 2 0;exact ov gX) ?_;refine sq (fun aa ww ll hh=>by have:=hh.gt 3 0;exact ov (fC (HCE.o ww hh.inv))) ?_;refine ⟨.eq (.int .i64 Z),trivial,rfl,fun aa ww ll hh=>?_,?_⟩
       ·have e92:=hh.gt 0 4;have e96:=hh.gt 4 0;have ef:=evf aa;refine out_call_eq (wanted_none rfl) ?_ (HSI.o ww);exact gX
       refine stm 5 0 ?_;intro ll w2 hS hok;clear hok;simp only[ly];have HV2:=hD hS;obtain ⟨m0,m1,m2,m3,m4,m5⟩:=(HNB.o.below hS).cells;clear hS;obtain ⟨ro,hro⟩:=nm (okP Z);have HOK:Hd (∀ W,CR 79 #[.int .i64 Z] W (.bool ro)):=fun W=>by rw[hro];exact ok10_any Z W
       have HRO:=hD hro;clear hro;by_cases hzk:Z=kk
       ·subst hzk;cases ro
        ·go_wp2_with (first
         |(go_at_call 79;refine (HOK.o _).mono ?_;rintro e w3 ⟨rfl,hb3⟩;have HV3:=hD (HV2.o.trans (hb3.mono HV2.o.size));clear hb3))
         refine bodyPost_ret (results_tmp2 rfl _ _ _) rfl ⟨?_,HBB.o _ HV3.o⟩;rw[HNO.o _ (HFK.o.trans (by rw[HST.o,if_neg (by rw[<- HRO.o];simp)]))];rfl
        ·have SRC:Hd (∀ W,Bl W1 W->SrcAt W 1 (.slice (some ⟨sb,so,none⟩) m sc) m (r.reverse.flatMap (fun n=>[Value.int .i64 n]))):=fun W hW=>by have q:=(HTS.o W hW).src flatI.toFlatG;rwa [<- TLEN.o] at q
         go_wp2_with (first
         |(go_at_call 79;refine (HOK.o _).mono ?_;rintro e w3 ⟨rfl,hb3⟩;have HV3:=hD (HV2.o.trans (hb3.mono HV2.o.size));clear hb3)
         |(at_builtin;(refine append_gen elemInt rfl (.tmp 110) (.tmp 111) rfl w3.heap.size (.slice (some ⟨w3.heap.size,0,none⟩) 0 0) 0 [] rfl (owns_made0 w3 3 1) (.slice (some ⟨sb,so,none⟩) m sc) m _ rfl (SRC.o _ (HV3.o.alloc HV3.o.size _)) om (by unfold maxLen;omega) sm ?_;intro y1 w4 h1 h2;have HO1:=hD h1;have HB4:Hd (Bl w3 w4):=below_grown (br.alloc lr _) (owns_made0 w3 3 1) h2 lr sm;clear h1 h2))
         |(at_builtin;refine append_gen elemInt rfl (.tmp 112) (.tmp 114) rfl w3.heap.size y1 _ _ rfl (HO1.o.alloc _) _ 1 [.int .i64 Z] rfl (src_one (g:=w4.heap.size) rfl (fun u hu=>by simp at hu;subst hu;rfl) (fun j u hj=>by match j,hj with|0,hj=>cases hj;simp[go_sem])) om (by unfold maxLen;omega) (by have:=HB4.o.size;simp;omega) ?_;intro y2 w5 h1 h2;have HB5:Hd (Bl w3 w5):=below_grown (HB4.o.alloc HB4.o.size _) (HO1.o.alloc _) h2 lr (by have:=HB4.o.size;simp;omega);have hy:IRow w5 y2 (r.reverse++[Z]):=RowAt.of_flat (base:=w3.heap.size) (E:=3) (n:=0+m+1) flatI (by rw[List.length_append, <-TLEN.o];simp) (by simpa using h1);obtain ⟨pz,cz,rfl,-,-⟩:=hy.shape;have hll:(r.reverse++[Z]).length=m+1:=(by rw[List.length_append, <-TLEN.o];rfl);rw[hll] at hy⊢;have HY:=hD hy;clear hll;clear h1 h2 hy))
         go_roundw
         case rel=>
          refine ⟨k+1,pz,m+1,cz,Z::r,om,by go_num,(by first|trivial|rfl),?_,HFK.o.trans (by rw[HST.o,if_pos ⟨(by first|trivial|rfl),HRO.o.symm⟩]),HBA.o _ (HV3.o.trans (HB5.o.mono HV3.o.size))⟩;show IRow _ _ (Z::r).reverse;rw[List.reverse_cons];exact HY.o
         case measure=>exact mz
       ·go_wp2_with fail;refine bodyPost_ret (results_tmp2 rfl _ _ _) rfl ⟨?_,HBB.o _ HV2.o⟩;rw[HNO.o _ (HFK.o.trans (by rw[HST.o,if_neg (fun q=>hzk q.1)]))];rfl
    have u7:¬op=7:=fun e=>hu (by simp[isUn,e])
    have v7:(op==7)=false:=by simpa using u7
    have u8:¬op=8:=fun e=>hu (by simp[isUn,e])
    have v8:(op==8)=false:=by simpa using u8
    have u9:¬op=9:=fun e=>hu (by simp[isUn,e])
    have v9:(op==9)=false:=by simpa using u9
    have u13:¬op=13:=fun e=>hu (by simp[isUn,e])
    have v13:(op==13)=false:=by simpa using u13
    have u14:¬op=14:=fun e=>hu (by simp[isUn,e])
    have v14:(op==14)=false:=by simpa using u14
    have hlohi:op<1\/1<=op/\6<op:=om;cases st with
    |nil=>
     obtain rfl:sn=0:=HSN.o;have hst:stepW p act [] ⟨op,kk,a,b,v⟩=none:=by
      unfold stepW;dsimp only;rw[if_neg hA',if_neg (by simpa using hv0),if_neg hu]
     exact gH2
    |cons t2 st=>
    cases st with
    |nil=>
     obtain rfl:sn=1:=HSN.o;have hst:stepW p act [t2] ⟨op,kk,a,b,v⟩=none:=by
      unfold stepW;dsimp only;rw[if_neg hA',if_neg (by simpa using hv0),if_neg hu]
     exact gH2
    |cons t r=>
     obtain ⟨M,rfl⟩:∃M,sn=M+1:=⟨r.length+1,by simpa using HSN.o⟩;obtain ⟨m,hm⟩:=nm r.length;have hMm:M=m+1:=by have:=HSN.o;simp at this;omega
     have HMM:=hD hMm;obtain ⟨Z,hZ⟩:=nm (pair0P ⟨op,kk,a,b,v⟩ t t2);have hst:stepW p act (t2::t::r) ⟨op,kk,a,b,v⟩=if Z=kk/\okP Z=true then some (Z::r) else none:=by
      unfold stepW;dsimp only;rw[if_neg hA',if_neg (by simpa using hv0),if_neg hu, <-hZ]
     have HST:=hD hst;have HPA:Hd (∀ W,CR 110 #[.agg #[.int .u8 op, .int .i64 kk, .int .i64 a, .int .i64 b, .int .u64 x, .int .u64 y], .int .i64 t, .int .i64 t2] W (.int .i64 Z)):=fun W=>by rw[hZ];exact HPA0.o W t t2 (HS1.o t sm) (HS1.o t2 sm)
     have hrev:(t2::t::r).reverse=r.reverse++[t,t2]:=by simp
     rw[hrev] at HI1;obtain ⟨sb,so,rfl,hsb,hcell⟩:=IRow.el (HI1.o W1 br) (j:=m) (by simp;omega);obtain ⟨sb',so',he',-,hcell2⟩:=IRow.el (HI1.o W1 br) (j:=M) (by simp;omega);cases he';have hgt:(r.reverse++[t,t2]).getD m 0=t:=by rw[hm];simp[List.getD_eq_getElem?_getD]
     have hgt2:(r.reverse++[t,t2]).getD M 0=t2:=by rw[hMm,hm];simp[List.getD_eq_getElem?_getD]
     rw[hgt] at hcell;rw[hgt2] at hcell2;have HCE:Hd (∀ W,Bl W1 W->Cl W G 0 (.int .u8 op)/\Cl W G 1 (.int .i64 kk)/\Cl W G 2 (.int .i64 a)/\Cl W G 3 (.int .i64 b)/\Cl W G 4 (.int .u64 x)/\Cl W G 5 (.int .u64 y)/\Cl W sb (so+m) (.int .i64 t)/\Cl W sb (so+M) (.int .i64 t2)):=fun W h=>by
      obtain ⟨a0,a1,a2,a3,a4,a5⟩:=(HNB.o.below h).cells;exact ⟨a0,a1,a2,a3,a4,a5,(h.cell (p:=⟨sb,so+m,none⟩) hsb).trans hcell,(h.cell (p:=⟨sb,so+M,none⟩) hsb).trans hcell2⟩
     have HTS:Hd (∀ W,Bl W1 W->IRow W (.slice (some ⟨sb,so,none⟩) m sc) r.reverse):=fun W h=>by
      have q:=RowAt.hi' (HI1.o W h) (k:=m) (by simp;omega)
      rwa [List.take_left' (by simp[hm])] at q
     have TLEN:Hd (m=r.reverse.length):=by show _=_;rw[List.length_reverse];exact hm
     rw[show (((M+1:Nat):Int)-1)=(M:Int) by omega];have hm0:¬(M:Int)<1:=om;have hmi:(m:Int)<(M:Int)+1:=om;have hmj:(M:Int)<(M:Int)+1:=om;have hmk:wrap64 ((M:Int)-1)=(m:Int):=by rw[show (M:Int)-1=(m:Int) by omega];exact wrapS om om
     have hml:IntKind.i64.wrap ((M:Int)-1)=(m:Int):=by rw[IntKind.wrap_i64];omega
     have hmc:(m:Int)<=(sc:Int):=om;clear hst hZ hv0 hgt hgt2 hcell hcell2 hrev hm hMm HSI0 HPA0 hw1;rcases hlohi with hlo|⟨hlo,hhi⟩
     all_goals
      go_upto_region 13 with fail
      clear n0 n1 n2 n3 n4 n5 z0 z1;refine roB W1 ?_;refine sq (fun aa ww ll hh=>by have:=hh.oL 11;exact ov (fC (HCE.o ww hh.inv))) ?_;refine sq (fun aa ww ll hh=>by exact ov (xmv (hh.oL 9))) ?_;refine sq (fun aa ww ll hh=>by exact ov (xmv (hh.oL 13))) ?_;refine ⟨.eq (.int .i64 (m:Int)),trivial,rfl,fun aa ww ll hh=>?_,?_⟩
      ·have e35:=hh.gt 2 0;have ec:=evc aa;exact ov gX
      refine sq (fun aa ww ll hh=>by have:=hh.gt 1 2;have:=hh.gt 3 0;exact ov gX) ?_;refine sq (fun aa ww ll hh=>by have:=hh.gt 4 0;exact ov (fC (HCE.o ww hh.inv))) ?_;refine sq (fun aa ww ll hh=>by exact ov (xmv (hh.oL 9))) ?_;refine sq (fun aa ww ll hh=>by exact ov (xmv (hh.oL 13))) ?_;refine sq (fun aa ww ll hh=>by have:=hh.gt 6 1;have:=hh.gt 7 0;exact ov gX) ?_;refine sq (fun aa ww ll hh=>by have:=hh.gt 8 0;exact ov (fC (HCE.o ww hh.inv))) ?_;refine ⟨.eq (.int .i64 Z),trivial,rfl,fun aa ww ll hh=>?_,?_⟩
      ·have e33:=hh.gt 0 9;have e38:=hh.gt 5 4;have e42:=hh.gt 9 0;have ef:=evf aa;refine out_call_eq (wanted_none rfl) ?_ (HPA.o ww);exact gX
      refine stm 10 0 ?_;intro ll w2 hS hok;clear hok;simp only[ly];have HV2:=hD hS;obtain ⟨m0,m1,m2,m3,m4,m5⟩:=(HNB.o.below hS).cells;clear hS;obtain ⟨ro,hro⟩:=nm (okP Z);have HOK:Hd (∀ W,CR 79 #[.int .i64 Z] W (.bool ro)):=fun W=>by rw[hro];exact ok10_any Z W
      have HRO:=hD hro;clear hro;by_cases hzk:Z=kk
      ·subst hzk;cases ro
       ·go_wp2_with (first
        |(go_at_call 79;refine (HOK.o _).mono ?_;rintro e w3 ⟨rfl,hb3⟩;have HV3:=hD (HV2.o.trans (hb3.mono HV2.o.size));clear hb3))
        refine bodyPost_ret (results_tmp2 rfl _ _ _) rfl ⟨?_,HBB.o _ HV3.o⟩;rw[HNO.o _ (HFK.o.trans (by rw[HST.o,if_neg (by rw[<- HRO.o];simp)]))];rfl
       ·have SRC:Hd (∀ W,Bl W1 W->SrcAt W 1 (.slice (some ⟨sb,so,none⟩) m sc) m (r.reverse.flatMap (fun n=>[Value.int .i64 n]))):=fun W hW=>by have q:=(HTS.o W hW).src flatI.toFlatG;rwa [<- TLEN.o] at q
        go_wp2_with (first
        |(go_at_call 79;refine (HOK.o _).mono ?_;rintro e w3 ⟨rfl,hb3⟩;have HV3:=hD (HV2.o.trans (hb3.mono HV2.o.size));clear hb3)
        |(at_builtin;(refine append_gen elemInt rfl (.tmp 110) (.tmp 111) rfl w3.heap.size (.slice (some ⟨w3.heap.size,0,none⟩) 0 0) 0 [] rfl (owns_made0 w3 3 1) (.slice (some ⟨sb,so,none⟩) m sc) m _ rfl (SRC.o _ (HV3.o.alloc HV3.o.size _)) om (by unfold maxLen;omega) sm ?_;intro y1 w4 h1 h2;have HO1:=hD h1;have HB4:Hd (Bl w3 w4):=below_grown (br.alloc lr _) (owns_made0 w3 3 1) h2 lr sm;clear h1 h2))
        |(at_builtin;refine append_gen elemInt rfl (.tmp 112) (.tmp 114) rfl w3.heap.size y1 _ _ rfl (HO1.o.alloc _) _ 1 [.int .i64 Z] rfl (src_one (g:=w4.heap.size) rfl (fun u hu=>by simp at hu;subst hu;rfl) (fun j u hj=>by match j,hj with|0,hj=>cases hj;simp[go_sem])) om (by unfold maxLen;omega) (by have:=HB4.o.size;simp;omega) ?_;intro y2 w5 h1 h2;have HB5:Hd (Bl w3 w5):=below_grown (HB4.o.alloc HB4.o.size _) (HO1.o.alloc _) h2 lr (by have:=HB4.o.size;simp;omega);have hy:IRow w5 y2 (r.reverse++[Z]):=RowAt.of_flat (base:=w3.heap.size) (E:=3) (n:=0+m+1) flatI (by rw[List.length_append, <-TLEN.o];simp) (by simpa using h1);obtain ⟨pz,cz,rfl,-,-⟩:=hy.shape;have hll:(r.reverse++[Z]).length=m+1:=(by rw[List.length_append, <-TLEN.o];rfl);rw[hll] at hy⊢;have HY:=hD hy;clear hll;clear h1 h2 hy))
        go_roundw
        case rel=>
         refine ⟨k+1,pz,m+1,cz,Z::r,om,by go_num,(by first|trivial|rfl),?_,HFK.o.trans (by rw[HST.o,if_pos ⟨(by first|trivial|rfl),HRO.o.symm⟩]),HBA.o _ (HV3.o.trans (HB5.o.mono HV3.o.size))⟩;show IRow _ _ (Z::r).reverse;rw[List.reverse_cons];exact HY.o
        case measure=>exact mz
      ·go_wp2_with fail;refine bodyPost_ret (results_tmp2 rfl _ _ _) rfl ⟨?_,HBB.o _ HV2.o⟩;rw[HNO.o _ (HFK.o.trans (by rw[HST.o,if_neg (fun q=>hzk q.1)]))];rfl
   ·have hst:stepW p act st ⟨op,kk,a,b,v⟩=none:=by
     unfold stepW;dsimp only;rw[if_neg hA',if_pos (by have:=HR3.o;simpa using this)]
    have HST:=hD hst;clear hst;have hA2:op<1\/6<op:=om;rcases hA2 with hA2|hA2
    ·exact gD3
    have hA3:1<=op:=om;exact gD3
  obtain rfl:k=n:=om;have hfc:foldW p act [] c=some st:=by have q:=HF.o;rwa [List.take_of_length_le (by have:=HCN.o;omega)] at q
  have hwp:widthP p act c=lastW st:=width_last (by have:=HCN.o;omega) hfc;have HWP:=hD hwp;clear hwp hfc;cases st with
  |nil=>
   obtain rfl:sn=0:=HSN.o;exact gC2
  |cons a st=>
  cases st with
  |nil=>
   obtain rfl:sn=1:=HSN.o;obtain ⟨sb,so,rfl,hsb,hcell⟩:=IRow.el HI.o (j:=0) sm;replace hcell:wr.cell? ⟨sb,so,none⟩=some (.int .i64 a):=hcell;exact gC2
  |cons b st=>
   have hne:¬sn=1:=by have:=HSN.o;simp at this;omega
   exact gC2
end Go.Proofs.YtikilcbpogfgkaaGreat
