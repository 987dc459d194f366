/-
  Layer 10's document, walked: a code's width.
-/
import Derived.Test.YtjfhfaodbjecdaaGreatJC04
import Derived.Test.YtjfhfaodbjecdaaGreatJC01
import Derived.Deep.QuietTactic
import Derived.BigQuiet
set_option maxHeartbeats 6400000
set_option maxRecDepth 100000
namespace Go.Proofs.YtjfhfaodbjecdaaGreat
open Go.RowKit
theorem foldW_snoc {p:Prg} {act:Int} {c:List Nod} {k:Nat} {d:Nod} (h:c[k]?=some d):foldW p act [] (c.take (k+1))=(foldW p act [] (c.take k)).bind fun st=>stepW p act st d:=by
 rw[List.take_add_one,h,foldW_app];congr 1;funext st;show foldW p act st [d]=_;rw[foldW];cases stepW p act st d<;>rfl
theorem foldW_none {p:Prg} {act:Int} {c:List Nod} {k:Nat} (h:foldW p act [] (c.take k)=none):widthP p act c=none:=by
 have:foldW p act [] c=none:=by
  have e:=foldW_app p act (c.take k) (c.drop k) [];rw[List.take_append_drop,h] at e;exact e
 unfold widthP;rw[this];split<;>rfl
theorem stepW_ok {p:Prg} {act:Int} {st st':List Int} {d:Nod} (h:stepW p act st d=some st') (hs:∀x∈st,0<x/\x<129):(∀ x∈st',0<x/\x<129)/\st'.length<=st.length+1:=by
 have key:∀(w:Int) (r:List Int),(∀ x∈r,x∈st)->r.length<=st.length->(if w=d.w/\okP w=true then some (w::r) else none)=some st'->(∀ x∈st',0<x/\x<129)/\st'.length<=st.length+1:=by
  intro w r h1 h2 h3;split at h3
  ·rename_i hc;cases h3;refine ⟨fun x hx=>?_,by simp;omega⟩;rcases List.mem_cons.1 hx with rfl|hx
   ·exact okP_iff.1 hc.2
   ·exact hs x (h1 x hx)
  ·cases h3
 unfold stepW at h;dsimp only at h;split at h
 ·exact key _ _ (fun x hx=>hx) (Nat.le_refl _) h
 ·split at h
  ·cases h
  ·split at h
   ·split at h
    ·cases h
    ·exact key _ _ (fun x hx=>List.mem_cons_of_mem _ hx) (by simp) h
   ·split at h
    ·exact key _ _ (fun x hx=>List.mem_cons_of_mem _ (List.mem_cons_of_mem _ hx)) (by simp;omega) h
    ·cases h
theorem foldW_ok {p:Prg} {act:Int} {c:List Nod}:∀{k:Nat} {st:List Int},foldW p act [] (c.take k)=some st->(∀ x∈st,0<x/\x<129)/\st.length<=k
 |0,st,h=>by
  simp only[List.take_zero,foldW,Option.some.injEq] at h;subst h;exact ⟨fun x hx=>by simp at hx,Nat.le_refl _⟩
 |k+1,st,h=>by
  by_cases hk:k<c.length
  ·rw[foldW_snoc (List.getElem?_eq_getElem hk)] at h;cases h1:foldW p act [] (c.take k) with
   |none=>rw[h1] at h;cases h
   |some s1=>
    rw[h1] at h;obtain ⟨a1,a2⟩:=foldW_ok h1;obtain ⟨b1,b2⟩:=stepW_ok h a1;exact ⟨b1,by omega⟩
  ·rw[List.take_of_length_le (by omega)] at h;have h':foldW p act [] (c.take k)=some st:=by rw[List.take_of_length_le (by omega)];exact h
   obtain ⟨a1,a2⟩:=foldW_ok h';exact ⟨a1,by omega⟩
def wRes:Option Int->Value
 |some x=> .tuple #[.int .i64 x, .bool true]
 |none=> .tuple #[.int .i64 0, .bool false]
def lastW:List Int->Option Int
 |[x]=>some x
 |_=>none
theorem width_last {p:Prg} {act:Int} {c:List Nod} {st:List Int} (hl:c.length<=6000) (h:foldW p act [] c=some st):widthP p act c=lastW st:=by
 unfold widthP;rw[if_neg (by omega),h];cases st with
 |nil=>rfl
 |cons a st=>cases st<;>rfl
theorem width_any (s:PgS) (p:Prg) (act:Int) (c:List Nod) (cp:Option Addr) (n cc:Nat) (w:World) (hp:PgOk w s p) (hS:Sm p) (hc:CRow w (.slice cp n cc) c) (hn:n<=6000):
 Calls Tryz.prog 60 #[pgV s, .int .i64 act, .slice cp n cc] w fun e w'=>e= .returned (wRes (widthP p act c))/\Below w.heap.size w w':=by
 obtain ⟨hcn,hcc,hcm,-⟩:=hc.ln;have HPL:Hid (∀ W d,Below w.heap.size w W->d.v<B*B->Calls Tryz.prog 84 #[pgV s, .int .i64 act,ndV d] W fun e w'=>e= .returned (.int .i64 (plain0P p act d))/\Below W.heap.size W w'):=fun W d h hv=>plain0_any s p act d W (hp.below h) hS hv
 have HNO:Hid (∀ k,foldW p act [] (c.take k)=none->widthP p act c=none):=fun k h=>foldW_none h
 have HC:=hD hc;have HCN:=hD hcn;have hbig:¬(65536:Int)<(n:Int):=by omega
 clear hp hS hc hcn;unfold pgV at HPL⊢;go_enter Tryz.func60,Tryz.ntmps60;go_wp2_with fail;obtain ⟨W0,hW0⟩:∃W0,W0=(w.alloc (.cells (pA s) 33)).alloc (.cells #[.int .u64 0, .int .u64 0] 60):=⟨_,rfl⟩;have HB0:Hid (Below w.heap.size w W0):=by show Below _ _ _;rw[hW0];exact (by repeat (first|exact Below.refl _ _|assumption|refine Below.drew ?_|refine blA ?_|refine blS ?_|refine blT ?_ (by assumption)))
 have HPB:Hid (PBox W0 w.heap.size s):=by show _=_;rw[hW0,Below.heap_alloc _ _ _ (by simp)];exact heap_new _ _
 have HZB:Hid (ZBox W0 (w.heap.size+1)):=by
  show _=_;rw[hW0];have:=heap_new (w.alloc (.cells (pA s) 33)) (.cells #[.int .u64 0, .int .u64 0] 60);simp only[World.size_alloc] at this;exact this
 rw[<- hW0];clear hW0;go_loopw [9,10] (fun u i wr=>∃(k:Nat) (sp:Option Addr) (sn sc:Nat) (st:List Int),k<=n/\i= .int .i64 k/\u= .slice sp sn sc/\Hid (IRow wr (.slice sp sn sc) st.reverse)/\Hid (foldW p act [] (c.take k)=some st)/\Hid (Below W0.heap.size W0 wr)) (fun _ i _=>n-(intOf i).toNat)
 case atStart=>exact ⟨0,none,0,0,[],Nat.zero_le _,rfl,rfl,RowAt.nil,rfl,Below.refl _ _⟩
 case round=>
  obtain ⟨k,sp,sn,sc,st,hk,rfl,rfl,HI,HF,HW⟩:=hrel;obtain ⟨hs1,hs2⟩:=foldW_ok HF.out;have HS1:=hD hs1;clear hs1;obtain ⟨hi1,hi2,hi3,-⟩:=HI.out.ln;have hsn:sn=st.length:=by rw[hi1,List.length_reverse]
  have hsk:sn<=k:=by omega
  have HSN:=hD hsn;clear hi1 hsn hs2;by_cases hlt:k<n
  ·obtain ⟨d,hd⟩:∃d,c[k]?=some d:=⟨_,List.getElem?_eq_getElem (by have:=HCN.out;omega)⟩;obtain ⟨bb,oo,rfl,hbb,c0,c1,c2,c3,hv,c4,c5⟩:=(HC.out.below keepNd (HB0.out.trans (HW.out.mono HB0.out.size))).get hd;have hfk:foldW p act [] (c.take (k+1))=stepW p act st d:=by rw[foldW_snoc hd,HF.out];rfl
   obtain ⟨op,kk,a,b,v⟩:=d;simp only at c0 c1 c2 c3 c4 c5 hv;have HFK:=hD hfk;replace HPL:Hid (∀ W,Below w.heap.size w W->Calls Tryz.prog 84 #[.agg (pA s), .int .i64 act, .agg #[.int .u8 op, .int .i64 kk, .int .i64 a, .int .i64 b, .int .u64 ((v/B:Nat):Int), .int .u64 ((v%B:Nat):Int)]] W fun e w'=>e= .returned (.int .i64 (plain0P p act ⟨op,kk,a,b,v⟩))/\Below W.heap.size W w'):=fun W h=>HPL.out W ⟨op,kk,a,b,v⟩ h hv
   have HSI0:Hid (∀ W x,0<x/\x<129->Calls Tryz.prog 85 #[.agg #[.int .u8 op, .int .i64 kk, .int .i64 a, .int .i64 b, .int .u64 ((v/B:Nat):Int), .int .u64 ((v%B:Nat):Int)], .int .i64 x] W fun e w'=>e= .returned (.int .i64 (single0P ⟨op,kk,a,b,v⟩ x))/\Below W.heap.size W w'):=fun W x hx=>single0_any ⟨op,kk,a,b,v⟩ x W hx
   have HPA0:Hid (∀ W x y,0<x/\x<129->0<y/\y<129->Calls Tryz.prog 86 #[.agg #[.int .u8 op, .int .i64 kk, .int .i64 a, .int .i64 b, .int .u64 ((v/B:Nat):Int), .int .u64 ((v%B:Nat):Int)], .int .i64 x, .int .i64 y] W fun e w'=>e= .returned (.int .i64 (pair0P ⟨op,kk,a,b,v⟩ x y))/\Below W.heap.size W w'):=fun W x y hx hy=>pair0_any ⟨op,kk,a,b,v⟩ x y W hx hy
   have hz:∀W,(Go.binOp .neq 60 (.agg #[.int .u64 ((v/B:Nat):Int), .int .u64 ((v%B:Nat):Int)]) (.agg #[.int .u64 0, .int .u64 0])).run Tryz.prog W= .ok (.bool (decide (v≠0))) W:=fun W=>neqz v W
   obtain ⟨r3,h3⟩:∃r,r=decide (v≠0):=⟨_,rfl⟩;rw[<- h3] at hz;have HR3:=hD h3;generalize ((v/B:Nat):Int)=x at*;generalize ((v%B:Nat):Int)=y at*;have hw1:wrap64 ((sn:Int)-1)=(sn:Int)-1:=wrapS (by omega) (by omega);clear hfk hd hv h3;go_upto_region 15 with fail
   obtain ⟨W1,hW1⟩:∃W1,W1=wr.alloc (.cells #[.int .u8 op, .int .i64 kk, .int .i64 a, .int .i64 b, .int .u64 x, .int .u64 y] 65):=⟨_,rfl⟩;have HW1:Hid (Below W0.heap.size W0 W1):=by show Below _ _ _;rw[hW1];exact HW.out.alloc HW.out.size _
   have HNB:Hid (NBox W1 wr.heap.size op kk a b x y):=by show _=_;rw[hW1];exact heap_new _ _
   have HI1:Hid (∀ W,Below W1.heap.size W1 W->IRow W (.slice sp sn sc) st.reverse):=fun W h=>(HI.out.below keepI (by rw[hW1];exact (Below.refl _ _).alloc (Nat.le_refl _) _)).below keepI h
   rw[<- hW1];clear hW1 c0 c1 c2 c3 c4 c5;generalize wr.heap.size=G at*;obtain ⟨n0,n1,n2,n3,n4,n5⟩:=HNB.out.cells;have HBA:Hid (∀ W,Below W1.heap.size W1 W->Below W0.heap.size W0 W):=fun W h=>HW1.out.trans (h.mono HW1.out.size)
   have HBB:Hid (∀ W,Below W1.heap.size W1 W->Below w.heap.size w W):=fun W h=>HB0.out.trans ((HW1.out.trans (h.mono HW1.out.size)).mono HB0.out.size)
   have pb:=HPB.out.below HW1.out;have zb:=HZB.out.below HW1.out;obtain ⟨q0,q1,q2,q3,q4,q5,q6,q7,q8,q9,q10,q11⟩:=pb.cells;obtain ⟨z0,z1⟩:=zb.cells;clear pb zb;by_cases hA:1<=op/\op<=6
   ·obtain ⟨hA1,hA2⟩:=hA;obtain ⟨Z,hZ⟩:∃Z,Z=plain0P p act ⟨op,kk,a,b,v⟩:=⟨_,rfl⟩;have hst:stepW p act st ⟨op,kk,a,b,v⟩=if Z=kk/\okP Z=true then some (Z::st) else none:=by
     unfold stepW;dsimp only;rw[if_pos ⟨hA1,hA2⟩, <-hZ]
    rw[<- hZ] at HPL;have HST:=hD hst;have TLEN:Hid (sn=st.reverse.length):=by show _=_;rw[List.length_reverse];exact HSN.out
    have HTS:=HI1;clear hst hZ;obtain ⟨ro,hro⟩:∃ro,ro=okP Z:=⟨_,rfl⟩;have HOK:Hid (∀ W,Calls Tryz.prog 57 #[.int .i64 Z] W fun e w'=>e= .returned (.bool ro)/\Below W.heap.size W w'):=fun W=>by rw[hro];exact ok10_any Z W
    have HRO:=hD hro;clear hro;by_cases hzk:Z=kk
    ·subst hzk;cases ro
     ·go_wp2_with (first
      |(go_at_call 84;refine (HPL.out _ (HBB.out _ (Below.refl _ _))).mono ?_;rintro e w2 ⟨rfl,hb2⟩;have HV2:=hD hb2;have nb:=HNB.out.below hb2;obtain ⟨m0,m1,m2,m3,m4,m5⟩:=nb.cells;clear nb hb2)
      |(go_at_call 57;refine (HOK.out _).mono ?_;rintro e w3 ⟨rfl,hb3⟩;have HV3:Hid (Below W1.heap.size W1 w3):=HV2.out.trans (hb3.mono HV2.out.size);clear hb3))
      refine bodyPost_ret (results_tmp2 rfl _ _ _) rfl ⟨?_,HBB.out _ HV3.out⟩;rw[HNO.out _ (HFK.out.trans (by rw[HST.out,if_neg (by rw[<- HRO.out];simp)]))];rfl
     ·have SRC:Hid (∀ W,Below W1.heap.size W1 W->SrcAt W 1 (.slice sp sn sc) sn (st.reverse.flatMap (fun n=>[Value.int .i64 n]))):=fun W hW=>by have q:=(HTS.out W hW).src flatI.toFlatG;rwa [<- TLEN.out] at q
      go_wp2_with (first
      |(go_at_call 84;refine (HPL.out _ (HBB.out _ (Below.refl _ _))).mono ?_;rintro e w2 ⟨rfl,hb2⟩;have HV2:=hD hb2;have nb:=HNB.out.below hb2;obtain ⟨m0,m1,m2,m3,m4,m5⟩:=nb.cells;clear nb hb2)
      |(go_at_call 57;refine (HOK.out _).mono ?_;rintro e w3 ⟨rfl,hb3⟩;have HV3:Hid (Below W1.heap.size W1 w3):=HV2.out.trans (hb3.mono HV2.out.size);clear hb3)
      |(at_builtin;(refine append_gen elemInt rfl (.tmp 110) (.tmp 111) rfl w3.heap.size (.slice (some ⟨w3.heap.size,0,none⟩) 0 0) 0 [] rfl (owns_made0 w3 3 1) (.slice sp sn sc) sn _ rfl (SRC.out _ (HV3.out.alloc HV3.out.size _)) (by omega) (by unfold maxLen;omega) (by simp) ?_;intro y1 w4 h1 h2;have HO1:=hD h1;have HB4:Hid (Below w3.heap.size w3 w4):=below_grown ((Below.refl _ _).alloc (Nat.le_refl _) _) (owns_made0 w3 3 1) h2 (Nat.le_refl _) (by simp);clear h1 h2))
      |(at_builtin;refine append_gen elemInt rfl (.tmp 112) (.tmp 114) rfl w3.heap.size y1 _ _ rfl (HO1.out.alloc _) _ 1 [.int .i64 Z] rfl (src_one (g:=w4.heap.size) rfl (fun u hu=>by simp at hu;subst hu;rfl) (fun j u hj=>by match j,hj with|0,hj=>cases hj;simp[go_sem])) (by omega) (by unfold maxLen;omega) (by have:=HB4.out.size;simp;omega) ?_;intro y2 w5 h1 h2;have HB5:Hid (Below w3.heap.size w3 w5):=below_grown (HB4.out.alloc HB4.out.size _) (HO1.out.alloc _) h2 (Nat.le_refl _) (by have:=HB4.out.size;simp;omega);have hy:IRow w5 y2 (st.reverse++[Z]):=RowAt.of_flat (base:=w3.heap.size) (E:=3) (n:=0+sn+1) flatI (by rw[List.length_append, <-TLEN.out];simp) (by simpa using h1);obtain ⟨pz,cz,rfl,-,-⟩:=hy.shape;have hll:(st.reverse++[Z]).length=sn+1:=(by rw[List.length_append, <-TLEN.out];rfl);rw[hll] at hy⊢;have HY:=hD hy;clear hll;clear h1 h2 hy))
      go_roundw
      case rel=>
       refine ⟨k+1,pz,sn+1,cz,Z::st,by omega,by go_num,(by first|trivial|rfl),?_,HFK.out.trans (by rw[HST.out,if_pos ⟨(by first|trivial|rfl),HRO.out.symm⟩]),HBA.out _ (HV3.out.trans (HB5.out.mono HV3.out.size))⟩;show IRow _ _ (Z::st).reverse;rw[List.reverse_cons];exact HY.out
      case measure=>simp[intOf];omega
    ·go_wp2_with (first
      |(go_at_call 84;refine (HPL.out _ (HBB.out _ (Below.refl _ _))).mono ?_;rintro e w2 ⟨rfl,hb2⟩;have HV2:=hD hb2;have nb:=HNB.out.below hb2;obtain ⟨m0,m1,m2,m3,m4,m5⟩:=nb.cells;clear nb hb2))
     refine bodyPost_ret (results_tmp2 rfl _ _ _) rfl ⟨?_,HBB.out _ HV2.out⟩;rw[HNO.out _ (HFK.out.trans (by rw[HST.out,if_neg (fun q=>hzk q.1)]))];rfl
   have hA':¬(1<=op/\op<=6):=hA;clear q0 q1 q2 q3 q4 q5 q6 q7 q8 q9 q10 q11;cases r3
   ·have hv0:v=0:=by have:=HR3.out;simpa using this
    by_cases hu:isUn op
    ·cases st with
     |nil=>
      obtain rfl:sn=0:=HSN.out;have hst:stepW p act [] ⟨op,kk,a,b,v⟩=none:=by
       unfold stepW;dsimp only;rw[if_neg hA',if_neg (by simpa using hv0),if_pos hu]
      have HST:=hD hst;clear hst hv0;rcases hu with rfl|rfl|rfl|rfl|rfl
      all_goals
       go_wp2_with fail;refine bodyPost_ret (results_tmp2 rfl _ _ _) rfl ⟨?_,HBB.out _ (Below.refl _ _)⟩;rw[HNO.out _ (HFK.out.trans HST.out)];rfl
     |cons t r=>
      obtain ⟨m,rfl⟩:∃m,sn=m+1:=⟨r.length,by simpa using HSN.out⟩;have hm:m=r.length:=by simpa using HSN.out
      obtain ⟨Z,hZ⟩:∃Z,Z=single0P ⟨op,kk,a,b,v⟩ t:=⟨_,rfl⟩;have hst:stepW p act (t::r) ⟨op,kk,a,b,v⟩=if Z=kk/\okP Z=true then some (Z::r) else none:=by
       unfold stepW;dsimp only;rw[if_neg hA',if_neg (by simpa using hv0),if_pos hu, <-hZ]
      have HST:=hD hst;have HSI:Hid (∀ W,Calls Tryz.prog 85 #[.agg #[.int .u8 op, .int .i64 kk, .int .i64 a, .int .i64 b, .int .u64 x, .int .u64 y], .int .i64 t] W fun e w'=>e= .returned (.int .i64 Z)/\Below W.heap.size W w'):=fun W=>by rw[hZ];exact HSI0.out W t (HS1.out t (by simp))
      have hrev:(t::r).reverse=r.reverse++[t]:=by simp
      rw[hrev] at HI1;obtain ⟨sb,so,rfl,hsb,hcell⟩:=IRow.el (HI1.out W1 (Below.refl _ _)) (j:=m) (by simp;omega);have hgt:(r.reverse++[t]).getD m 0=t:=by rw[hm];simp[List.getD_eq_getElem?_getD]
      rw[hgt] at hcell;have HCE:Hid (∀ W,Below W1.heap.size W1 W->W.cell? ⟨G,0,none⟩=some (.int .u8 op)/\W.cell? ⟨G,1,none⟩=some (.int .i64 kk)/\W.cell? ⟨G,2,none⟩=some (.int .i64 a)/\W.cell? ⟨G,3,none⟩=some (.int .i64 b)/\W.cell? ⟨G,4,none⟩=some (.int .u64 x)/\W.cell? ⟨G,5,none⟩=some (.int .u64 y)/\W.cell? ⟨sb,so+m,none⟩=some (.int .i64 t)):=fun W h=>by
       obtain ⟨a0,a1,a2,a3,a4,a5⟩:=(HNB.out.below h).cells;exact ⟨a0,a1,a2,a3,a4,a5,(h.cell (p:=⟨sb,so+m,none⟩) hsb).trans hcell⟩
      have HTS:Hid (∀ W,Below W1.heap.size W1 W->IRow W (.slice (some ⟨sb,so,none⟩) m sc) r.reverse):=fun W h=>by
       have q:=RowAt.hi' (HI1.out W h) (k:=m) (by simp;omega)
       rwa [List.take_left' (by simp[hm])] at q
      have TLEN:Hid (m=r.reverse.length):=by show _=_;rw[List.length_reverse];exact hm
      rw[show (((m+1:Nat):Int)-1)=(m:Int) by omega];have hm0:¬(m:Int)<0:=by omega
      have hmi:(m:Int)<(m:Int)+1:=by omega
      clear hst hZ hv0 hgt hcell hrev hm HSI0 HPA0 hw1;rcases hu with rfl|rfl|rfl|rfl|rfl
      all_goals
       go_upto_region 22 with fail
       clear n0 n1 n2 n3 n4 n5 z0 z1;refine roB W1 ?_;refine stq ?_ (fun aa ww ll hh=>?_) ?_;rotate_left
       ·have e11:=hh.oL 11;obtain ⟨n0,n1,n2,n3,n4,n5,e0⟩:=HCE.out ww hh.inv;exact ov gX
       refine stq ?_ (fun aa ww ll hh=>?_) ?_;rotate_left
       ·have e9:=hh.oL 9;refine ov ?_;rw[xmv e9]
       refine stq ?_ (fun aa ww ll hh=>?_) ?_;rotate_left
       ·have e13:=hh.oL 13;refine ov ?_;rw[xmv e13]
       refine stq ?_ (fun aa ww ll hh=>?_) ?_;rotate_left
       ·have e93:=hh.gt 1 1;have e94:=hh.gt 2 0;exact ov gX
       refine stq ?_ (fun aa ww ll hh=>?_) ?_;rotate_left
       ·have e95:=hh.gt 3 0;obtain ⟨n0,n1,n2,n3,n4,n5,e0⟩:=HCE.out ww hh.inv;exact ov gX
       refine ⟨.eq (.int .i64 Z),trivial,rfl,fun aa ww ll hh=>?_,?_⟩
       ·have e92:=hh.gt 0 4;have e96:=hh.gt 4 0;have ef:=evf aa;refine out_call_eq (wanted_none rfl) ?_ (HSI.out ww);exact gX
       refine stm 5 0 ?_;intro ll w2 hS hok;clear hok;simp only[List.reverse_cons,List.reverse_nil,List.nil_append,List.cons_append,layO,Out.val,Act.put,List.setIfInBounds_toArray,List.set_cons_zero,List.set_cons_succ];have HV2:=hD hS;obtain ⟨m0,m1,m2,m3,m4,m5⟩:=(HNB.out.below hS).cells;clear hS;obtain ⟨ro,hro⟩:∃ro,ro=okP Z:=⟨_,rfl⟩;have HOK:Hid (∀ W,Calls Tryz.prog 57 #[.int .i64 Z] W fun e w'=>e= .returned (.bool ro)/\Below W.heap.size W w'):=fun W=>by rw[hro];exact ok10_any Z W
       have HRO:=hD hro;clear hro;by_cases hzk:Z=kk
       ·subst hzk;cases ro
        ·go_wp2_with (first
         |(go_at_call 57;refine (HOK.out _).mono ?_;rintro e w3 ⟨rfl,hb3⟩;have HV3:Hid (Below W1.heap.size W1 w3):=HV2.out.trans (hb3.mono HV2.out.size);clear hb3))
         refine bodyPost_ret (results_tmp2 rfl _ _ _) rfl ⟨?_,HBB.out _ HV3.out⟩;rw[HNO.out _ (HFK.out.trans (by rw[HST.out,if_neg (by rw[<- HRO.out];simp)]))];rfl
        ·have SRC:Hid (∀ W,Below W1.heap.size W1 W->SrcAt W 1 (.slice (some ⟨sb,so,none⟩) m sc) m (r.reverse.flatMap (fun n=>[Value.int .i64 n]))):=fun W hW=>by have q:=(HTS.out W hW).src flatI.toFlatG;rwa [<- TLEN.out] at q
         go_wp2_with (first
         |(go_at_call 57;refine (HOK.out _).mono ?_;rintro e w3 ⟨rfl,hb3⟩;have HV3:Hid (Below W1.heap.size W1 w3):=HV2.out.trans (hb3.mono HV2.out.size);clear hb3)
         |(at_builtin;(refine append_gen elemInt rfl (.tmp 110) (.tmp 111) rfl w3.heap.size (.slice (some ⟨w3.heap.size,0,none⟩) 0 0) 0 [] rfl (owns_made0 w3 3 1) (.slice (some ⟨sb,so,none⟩) m sc) m _ rfl (SRC.out _ (HV3.out.alloc HV3.out.size _)) (by omega) (by unfold maxLen;omega) (by simp) ?_;intro y1 w4 h1 h2;have HO1:=hD h1;have HB4:Hid (Below w3.heap.size w3 w4):=below_grown ((Below.refl _ _).alloc (Nat.le_refl _) _) (owns_made0 w3 3 1) h2 (Nat.le_refl _) (by simp);clear h1 h2))
         |(at_builtin;refine append_gen elemInt rfl (.tmp 112) (.tmp 114) rfl w3.heap.size y1 _ _ rfl (HO1.out.alloc _) _ 1 [.int .i64 Z] rfl (src_one (g:=w4.heap.size) rfl (fun u hu=>by simp at hu;subst hu;rfl) (fun j u hj=>by match j,hj with|0,hj=>cases hj;simp[go_sem])) (by omega) (by unfold maxLen;omega) (by have:=HB4.out.size;simp;omega) ?_;intro y2 w5 h1 h2;have HB5:Hid (Below w3.heap.size w3 w5):=below_grown (HB4.out.alloc HB4.out.size _) (HO1.out.alloc _) h2 (Nat.le_refl _) (by have:=HB4.out.size;simp;omega);have hy:IRow w5 y2 (r.reverse++[Z]):=RowAt.of_flat (base:=w3.heap.size) (E:=3) (n:=0+m+1) flatI (by rw[List.length_append, <-TLEN.out];simp) (by simpa using h1);obtain ⟨pz,cz,rfl,-,-⟩:=hy.shape;have hll:(r.reverse++[Z]).length=m+1:=(by rw[List.length_append, <-TLEN.out];rfl);rw[hll] at hy⊢;have HY:=hD hy;clear hll;clear h1 h2 hy))
         go_roundw
         case rel=>
          refine ⟨k+1,pz,m+1,cz,Z::r,by omega,by go_num,(by first|trivial|rfl),?_,HFK.out.trans (by rw[HST.out,if_pos ⟨(by first|trivial|rfl),HRO.out.symm⟩]),HBA.out _ (HV3.out.trans (HB5.out.mono HV3.out.size))⟩;show IRow _ _ (Z::r).reverse;rw[List.reverse_cons];exact HY.out
         case measure=>simp[intOf];omega
       ·go_wp2_with fail;refine bodyPost_ret (results_tmp2 rfl _ _ _) rfl ⟨?_,HBB.out _ HV2.out⟩;rw[HNO.out _ (HFK.out.trans (by rw[HST.out,if_neg (fun q=>hzk q.1)]))];rfl
    ·have u7:¬op=7:=fun e=>hu (by simp[isUn,e])
     have v7:(op==7)=false:=by simpa using u7
     have u8:¬op=8:=fun e=>hu (by simp[isUn,e])
     have v8:(op==8)=false:=by simpa using u8
     have u9:¬op=9:=fun e=>hu (by simp[isUn,e])
     have v9:(op==9)=false:=by simpa using u9
     have u13:¬op=13:=fun e=>hu (by simp[isUn,e])
     have v13:(op==13)=false:=by simpa using u13
     have u14:¬op=14:=fun e=>hu (by simp[isUn,e])
     have v14:(op==14)=false:=by simpa using u14
     have hlohi:op<1\/1<=op/\6<op:=by omega
     cases st with
     |nil=>
      obtain rfl:sn=0:=HSN.out;have hst:stepW p act [] ⟨op,kk,a,b,v⟩=none:=by
       unfold stepW;dsimp only;rw[if_neg hA',if_neg (by simpa using hv0),if_neg hu]
      have HST:=hD hst;clear hst hv0;rcases hlohi with hlo|⟨hlo,hhi⟩
      all_goals
       go_wp2_with fail;refine bodyPost_ret (results_tmp2 rfl _ _ _) rfl ⟨?_,HBB.out _ (Below.refl _ _)⟩;rw[HNO.out _ (HFK.out.trans HST.out)];rfl
     |cons t2 st=>
     cases st with
     |nil=>
      obtain rfl:sn=1:=HSN.out;have hst:stepW p act [t2] ⟨op,kk,a,b,v⟩=none:=by
       unfold stepW;dsimp only;rw[if_neg hA',if_neg (by simpa using hv0),if_neg hu]
      have HST:=hD hst;clear hst hv0;rcases hlohi with hlo|⟨hlo,hhi⟩
      all_goals
       go_wp2_with fail;refine bodyPost_ret (results_tmp2 rfl _ _ _) rfl ⟨?_,HBB.out _ (Below.refl _ _)⟩;rw[HNO.out _ (HFK.out.trans HST.out)];rfl
     |cons t r=>
      obtain ⟨M,rfl⟩:∃M,sn=M+1:=⟨r.length+1,by simpa using HSN.out⟩;obtain ⟨m,hm⟩:∃m,m=r.length:=⟨_,rfl⟩;have hMm:M=m+1:=by have:=HSN.out;simp at this;omega
      have HMM:=hD hMm;obtain ⟨Z,hZ⟩:∃Z,Z=pair0P ⟨op,kk,a,b,v⟩ t t2:=⟨_,rfl⟩;have hst:stepW p act (t2::t::r) ⟨op,kk,a,b,v⟩=if Z=kk/\okP Z=true then some (Z::r) else none:=by
       unfold stepW;dsimp only;rw[if_neg hA',if_neg (by simpa using hv0),if_neg hu, <-hZ]
      have HST:=hD hst;have HPA:Hid (∀ W,Calls Tryz.prog 86 #[.agg #[.int .u8 op, .int .i64 kk, .int .i64 a, .int .i64 b, .int .u64 x, .int .u64 y], .int .i64 t, .int .i64 t2] W fun e w'=>e= .returned (.int .i64 Z)/\Below W.heap.size W w'):=fun W=>by rw[hZ];exact HPA0.out W t t2 (HS1.out t (by simp)) (HS1.out t2 (by simp))
      have hrev:(t2::t::r).reverse=r.reverse++[t,t2]:=by simp
      rw[hrev] at HI1;obtain ⟨sb,so,rfl,hsb,hcell⟩:=IRow.el (HI1.out W1 (Below.refl _ _)) (j:=m) (by simp;omega);obtain ⟨sb',so',he',-,hcell2⟩:=IRow.el (HI1.out W1 (Below.refl _ _)) (j:=M) (by simp;omega);cases he';have hgt:(r.reverse++[t,t2]).getD m 0=t:=by rw[hm];simp[List.getD_eq_getElem?_getD]
      have hgt2:(r.reverse++[t,t2]).getD M 0=t2:=by rw[hMm,hm];simp[List.getD_eq_getElem?_getD]
      rw[hgt] at hcell;rw[hgt2] at hcell2;have HCE:Hid (∀ W,Below W1.heap.size W1 W->W.cell? ⟨G,0,none⟩=some (.int .u8 op)/\W.cell? ⟨G,1,none⟩=some (.int .i64 kk)/\W.cell? ⟨G,2,none⟩=some (.int .i64 a)/\W.cell? ⟨G,3,none⟩=some (.int .i64 b)/\W.cell? ⟨G,4,none⟩=some (.int .u64 x)/\W.cell? ⟨G,5,none⟩=some (.int .u64 y)/\W.cell? ⟨sb,so+m,none⟩=some (.int .i64 t)/\W.cell? ⟨sb,so+M,none⟩=some (.int .i64 t2)):=fun W h=>by
       obtain ⟨a0,a1,a2,a3,a4,a5⟩:=(HNB.out.below h).cells;exact ⟨a0,a1,a2,a3,a4,a5,(h.cell (p:=⟨sb,so+m,none⟩) hsb).trans hcell,(h.cell (p:=⟨sb,so+M,none⟩) hsb).trans hcell2⟩
      have HTS:Hid (∀ W,Below W1.heap.size W1 W->IRow W (.slice (some ⟨sb,so,none⟩) m sc) r.reverse):=fun W h=>by
       have q:=RowAt.hi' (HI1.out W h) (k:=m) (by simp;omega)
       rwa [List.take_left' (by simp[hm])] at q
      have TLEN:Hid (m=r.reverse.length):=by show _=_;rw[List.length_reverse];exact hm
      rw[show (((M+1:Nat):Int)-1)=(M:Int) by omega];have hm0:¬(M:Int)<1:=by omega
      have hmi:(m:Int)<(M:Int)+1:=by omega
      have hmj:(M:Int)<(M:Int)+1:=by omega
      have hmk:wrap64 ((M:Int)-1)=(m:Int):=by rw[show (M:Int)-1=(m:Int) by omega];exact wrapS (by omega) (by omega)
      have hml:IntKind.i64.wrap ((M:Int)-1)=(m:Int):=by rw[IntKind.wrap_i64];omega
      have hmc:(m:Int)<=(sc:Int):=by omega
      clear hst hZ hv0 hgt hgt2 hcell hcell2 hrev hm hMm HSI0 HPA0 hw1;rcases hlohi with hlo|⟨hlo,hhi⟩
      all_goals
       go_upto_region 13 with fail
       clear n0 n1 n2 n3 n4 n5 z0 z1;refine roB W1 ?_;refine stq ?_ (fun aa ww ll hh=>?_) ?_;rotate_left
       ·have e11:=hh.oL 11;obtain ⟨n0,n1,n2,n3,n4,n5,e0,e1'⟩:=HCE.out ww hh.inv;exact ov gX
       refine stq ?_ (fun aa ww ll hh=>?_) ?_;rotate_left
       ·have e9:=hh.oL 9;refine ov ?_;rw[xmv e9]
       refine stq ?_ (fun aa ww ll hh=>?_) ?_;rotate_left
       ·have e13:=hh.oL 13;refine ov ?_;rw[xmv e13]
       refine ⟨.eq (.int .i64 (m:Int)),trivial,rfl,fun aa ww ll hh=>?_,?_⟩
       ·have e35:=hh.gt 2 0;have ec:=evc aa;exact ov gX
       refine stq ?_ (fun aa ww ll hh=>?_) ?_;rotate_left
       ·have e34:=hh.gt 1 2;have e36:=hh.gt 3 0;exact ov gX
       refine stq ?_ (fun aa ww ll hh=>?_) ?_;rotate_left
       ·have e37:=hh.gt 4 0;obtain ⟨n0,n1,n2,n3,n4,n5,e0,e1'⟩:=HCE.out ww hh.inv;exact ov gX
       refine stq ?_ (fun aa ww ll hh=>?_) ?_;rotate_left
       ·have e9:=hh.oL 9;refine ov ?_;rw[xmv e9]
       refine stq ?_ (fun aa ww ll hh=>?_) ?_;rotate_left
       ·have e13:=hh.oL 13;refine ov ?_;rw[xmv e13]
       refine stq ?_ (fun aa ww ll hh=>?_) ?_;rotate_left
       ·have e39:=hh.gt 6 1;have e40:=hh.gt 7 0;exact ov gX
       refine stq ?_ (fun aa ww ll hh=>?_) ?_;rotate_left
       ·have e41:=hh.gt 8 0;obtain ⟨n0,n1,n2,n3,n4,n5,e0,e1'⟩:=HCE.out ww hh.inv;exact ov gX
       refine ⟨.eq (.int .i64 Z),trivial,rfl,fun aa ww ll hh=>?_,?_⟩
       ·have e33:=hh.gt 0 9;have e38:=hh.gt 5 4;have e42:=hh.gt 9 0;have ef:=evf aa;refine out_call_eq (wanted_none rfl) ?_ (HPA.out ww);exact gX
       refine stm 10 0 ?_;intro ll w2 hS hok;clear hok;simp only[List.reverse_cons,List.reverse_nil,List.nil_append,List.cons_append,layO,Out.val,Act.put,List.setIfInBounds_toArray,List.set_cons_zero,List.set_cons_succ];have HV2:=hD hS;obtain ⟨m0,m1,m2,m3,m4,m5⟩:=(HNB.out.below hS).cells;clear hS;obtain ⟨ro,hro⟩:∃ro,ro=okP Z:=⟨_,rfl⟩;have HOK:Hid (∀ W,Calls Tryz.prog 57 #[.int .i64 Z] W fun e w'=>e= .returned (.bool ro)/\Below W.heap.size W w'):=fun W=>by rw[hro];exact ok10_any Z W
       have HRO:=hD hro;clear hro;by_cases hzk:Z=kk
       ·subst hzk;cases ro
        ·go_wp2_with (first
         |(go_at_call 57;refine (HOK.out _).mono ?_;rintro e w3 ⟨rfl,hb3⟩;have HV3:Hid (Below W1.heap.size W1 w3):=HV2.out.trans (hb3.mono HV2.out.size);clear hb3))
         refine bodyPost_ret (results_tmp2 rfl _ _ _) rfl ⟨?_,HBB.out _ HV3.out⟩;rw[HNO.out _ (HFK.out.trans (by rw[HST.out,if_neg (by rw[<- HRO.out];simp)]))];rfl
        ·have SRC:Hid (∀ W,Below W1.heap.size W1 W->SrcAt W 1 (.slice (some ⟨sb,so,none⟩) m sc) m (r.reverse.flatMap (fun n=>[Value.int .i64 n]))):=fun W hW=>by have q:=(HTS.out W hW).src flatI.toFlatG;rwa [<- TLEN.out] at q
         go_wp2_with (first
         |(go_at_call 57;refine (HOK.out _).mono ?_;rintro e w3 ⟨rfl,hb3⟩;have HV3:Hid (Below W1.heap.size W1 w3):=HV2.out.trans (hb3.mono HV2.out.size);clear hb3)
         |(at_builtin;(refine append_gen elemInt rfl (.tmp 110) (.tmp 111) rfl w3.heap.size (.slice (some ⟨w3.heap.size,0,none⟩) 0 0) 0 [] rfl (owns_made0 w3 3 1) (.slice (some ⟨sb,so,none⟩) m sc) m _ rfl (SRC.out _ (HV3.out.alloc HV3.out.size _)) (by omega) (by unfold maxLen;omega) (by simp) ?_;intro y1 w4 h1 h2;have HO1:=hD h1;have HB4:Hid (Below w3.heap.size w3 w4):=below_grown ((Below.refl _ _).alloc (Nat.le_refl _) _) (owns_made0 w3 3 1) h2 (Nat.le_refl _) (by simp);clear h1 h2))
         |(at_builtin;refine append_gen elemInt rfl (.tmp 112) (.tmp 114) rfl w3.heap.size y1 _ _ rfl (HO1.out.alloc _) _ 1 [.int .i64 Z] rfl (src_one (g:=w4.heap.size) rfl (fun u hu=>by simp at hu;subst hu;rfl) (fun j u hj=>by match j,hj with|0,hj=>cases hj;simp[go_sem])) (by omega) (by unfold maxLen;omega) (by have:=HB4.out.size;simp;omega) ?_;intro y2 w5 h1 h2;have HB5:Hid (Below w3.heap.size w3 w5):=below_grown (HB4.out.alloc HB4.out.size _) (HO1.out.alloc _) h2 (Nat.le_refl _) (by have:=HB4.out.size;simp;omega);have hy:IRow w5 y2 (r.reverse++[Z]):=RowAt.of_flat (base:=w3.heap.size) (E:=3) (n:=0+m+1) flatI (by rw[List.length_append, <-TLEN.out];simp) (by simpa using h1);obtain ⟨pz,cz,rfl,-,-⟩:=hy.shape;have hll:(r.reverse++[Z]).length=m+1:=(by rw[List.length_append, <-TLEN.out];rfl);rw[hll] at hy⊢;have HY:=hD hy;clear hll;clear h1 h2 hy))
         go_roundw
         case rel=>
          refine ⟨k+1,pz,m+1,cz,Z::r,by omega,by go_num,(by first|trivial|rfl),?_,HFK.out.trans (by rw[HST.out,if_pos ⟨(by first|trivial|rfl),HRO.out.symm⟩]),HBA.out _ (HV3.out.trans (HB5.out.mono HV3.out.size))⟩;show IRow _ _ (Z::r).reverse;rw[List.reverse_cons];exact HY.out
         case measure=>simp[intOf];omega
       ·go_wp2_with fail;refine bodyPost_ret (results_tmp2 rfl _ _ _) rfl ⟨?_,HBB.out _ HV2.out⟩;rw[HNO.out _ (HFK.out.trans (by rw[HST.out,if_neg (fun q=>hzk q.1)]))];rfl
   ·have hst:stepW p act st ⟨op,kk,a,b,v⟩=none:=by
     unfold stepW;dsimp only;rw[if_neg hA',if_pos (by have:=HR3.out;simpa using this)]
    have HST:=hD hst;clear hst;have hA2:op<1\/6<op:=by omega
    rcases hA2 with hA2|hA2
    ·go_wp2_with fail;refine bodyPost_ret (results_tmp2 rfl _ _ _) rfl ⟨?_,HBB.out _ (Below.refl _ _)⟩;rw[HNO.out _ (HFK.out.trans HST.out)];rfl
    ·have hA3:1<=op:=by omega
     go_wp2_with fail;refine bodyPost_ret (results_tmp2 rfl _ _ _) rfl ⟨?_,HBB.out _ (Below.refl _ _)⟩;rw[HNO.out _ (HFK.out.trans HST.out)];rfl
  ·obtain rfl:k=n:=by omega
   have hfc:foldW p act [] c=some st:=by have q:=HF.out;rwa [List.take_of_length_le (by have:=HCN.out;omega)] at q
   have hwp:widthP p act c=lastW st:=width_last (by have:=HCN.out;omega) hfc;have HWP:=hD hwp;clear hwp hfc;cases st with
   |nil=>
    obtain rfl:sn=0:=HSN.out;go_wp2_with fail;refine bodyPost_ret (results_tmp2 rfl _ _ _) rfl ⟨?_,HB0.out.trans (HW.out.mono HB0.out.size)⟩;rw[HWP.out];rfl
   |cons a st=>
   cases st with
   |nil=>
    obtain rfl:sn=1:=HSN.out;obtain ⟨sb,so,rfl,hsb,hcell⟩:=IRow.el HI.out (j:=0) (by simp);replace hcell:wr.cell? ⟨sb,so,none⟩=some (.int .i64 a):=hcell;go_wp2_with fail;refine bodyPost_ret (results_tmp2 rfl _ _ _) rfl ⟨?_,HB0.out.trans (HW.out.mono HB0.out.size)⟩;rw[HWP.out];rfl
   |cons b st=>
    have hne:¬sn=1:=by have:=HSN.out;simp at this;omega
    go_wp2_with fail;refine bodyPost_ret (results_tmp2 rfl _ _ _) rfl ⟨?_,HB0.out.trans (HW.out.mono HB0.out.size)⟩;rw[HWP.out];rfl
end Go.Proofs.YtjfhfaodbjecdaaGreat
