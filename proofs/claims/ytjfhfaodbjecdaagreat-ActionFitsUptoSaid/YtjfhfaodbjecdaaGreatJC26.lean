/-
  Lemmas, joined: OwnA, ValH, SetV, RowV, ValidV, TabO1, TabX, RetA, RunA, SeenP.
-/
import Derived.Test.YtjfhfaodbjecdaaGreatJC24
import Derived.Test.YtjfhfaodbjecdaaGreatJC25
import Derived.BigRegion
import Derived.Test.YtjfhfaodbjecdaaGreatJC21
import Derived.Test.YtjfhfaodbjecdaaGreatJC15
import Derived.Laws.OwnMore
import Derived.Test.YtjfhfaodbjecdaaGreatJC20
import Derived.LoopN
import Derived.Test.YtjfhfaodbjecdaaGreatJC23
set_option maxHeartbeats 12800000
set_option maxRecDepth 100000
namespace Go.Proofs.YtjfhfaodbjecdaaGreat
open Go.RowKit
theorem own_sh {w:World} {b E sz n:Nat} {v:Value} {xs:List Value} (h:w.ownsRow b E sz v n xs):∃p c,v= .slice p n c:=by
 obtain ⟨-,⟨rfl,rfl⟩|⟨g,cap,cur,rfl,-⟩⟩:=h
 ·exact ⟨_,_,rfl⟩
 ·exact ⟨_,_,rfl⟩
theorem own_fix {w:World} {b E sz m:Nat} {v:Value} {xs:List Value} (h:w.ownsRow b E sz v (0+m) ([]++xs)):w.ownsRow b E sz v m xs:=by
 rw[Nat.zero_add,List.nil_append] at h;exact h
theorem far_put {B:Nat} {W W1:World} {g i:Nat} {z:Value} (hb:Below W.heap.size W W1) (hg:g<B):∀k,B<=k->k<W.heap.size->(W1.setCell ⟨g,i,none⟩ z).heap[k]?=W.heap[k]?:=
 fun k h1 h2=>(heap_setCell_other W1 _ k z (by show k≠g;omega)).trans (hb.block k h2)
def AnsO (po eg:Int) (dr se ac:Bool) (base:Nat) (w:World) (x:Pkt) (e:Ending):Prop:=∃r v f m fs,e= .returned (.agg #[.int .i64 po,r,v,f,m, .bool dr, .bool se, .int .i64 eg, .bool ac])/\PktO base w x r v f m fs
theorem own19_any (q:KS) (x:Pkt) (po eg:Int) (dr se ac:Bool) (w:World) (hq:KOk w q x) (hS:PktSm x):
 Calls Tryz.prog 7 #[kV q po dr se eg ac] w fun e w'=>AnsO po eg dr se ac w.heap.size w' x e/\Below w.heap.size w w':=by
 have HQ:=hD hq;have HSM:=hD hS;have HN:Hid (q.rn=x.rest.length/\q.vn=x.valid.length/\q.fn=x.fields.length/\q.mn=x.metas.length):=⟨hq.r.ln.1,hq.v.ln.1,hq.f.ln.1,hq.m.ln.1⟩;clear hq hS;unfold kV;go_enter Tryz.func7,Tryz.ntmps7;go_upto_region 1 with fail
 obtain ⟨W0,hW0⟩:∃W0,W0=(w.alloc (.cells #[.int .i64 po, .slice q.rp q.rn q.rc, .slice q.vp q.vn q.vc, .slice q.fp q.fn q.fc, .slice q.mp q.mn q.mc, .bool dr, .bool se, .int .i64 eg, .bool ac] 40)).alloc (.cells #[.int .i64 0, .slice none 0 0, .slice none 0 0, .slice none 0 0, .slice none 0 0, .bool false, .bool false, .int .i64 0, .bool false] 40):=⟨_,rfl⟩;have HB0:Hid (Below w.heap.size w W0):=by show Below _ _ _;rw[hW0];exact (by repeat (first|exact Below.refl _ _|assumption|refine Below.drew ?_|refine blA ?_|refine blS ?_|refine blT ?_ (by assumption)))
 have HX0:Hid (Bx W0 w.heap.size [.int .i64 po, .slice q.rp q.rn q.rc, .slice q.vp q.vn q.vc, .slice q.fp q.fn q.fc, .slice q.mp q.mn q.mc, .bool dr, .bool se, .int .i64 eg, .bool ac]):=by show _=_;rw[hW0,Below.heap_alloc _ _ _ (by simp)];exact heap_new _ _
 have HZ0:Hid (Bx W0 (w.heap.size+1) [.int .i64 0, .slice none 0 0, .slice none 0 0, .slice none 0 0, .slice none 0 0, .bool false, .bool false, .int .i64 0, .bool false]):=by
  show _=_;rw[hW0];have:=heap_new (w.alloc (.cells #[.int .i64 po, .slice q.rp q.rn q.rc, .slice q.vp q.vn q.vc, .slice q.fp q.fn q.fc, .slice q.mp q.mn q.mc, .bool dr, .bool se, .int .i64 eg, .bool ac] 40)) (.cells #[.int .i64 0, .slice none 0 0, .slice none 0 0, .slice none 0 0, .slice none 0 0, .bool false, .bool false, .int .i64 0, .bool false] 40);simp only[World.size_alloc] at this;exact this
 have HSZ:Hid (W0.heap.size=w.heap.size+2):=by show _=_;rw[hW0];simp
 rw[<- hW0];clear hW0;have HRS:=hD (HQ.out.r.below keepU HB0.out);have q1:=(HX0.out.below ((Below.refl _ _).alloc (Nat.le_refl _) (.cells #[] 5))).cell (i:=1) rfl;go_upto_region 2 with (at_builtin;(refine append_at elemU8 rfl (.tmp 5) (.tmp 7) rfl W0.heap.size (.slice (some ⟨W0.heap.size,0,none⟩) 0 0) 0 [] rfl (owns_made0 W0 5 1) (.slice q.rp q.rn q.rc) x.rest.length _ rfl ((HRS.out.below keepU ((Below.refl _ _).alloc (Nat.le_refl _) _)).src flatU.toFlatG) (by have:=HSM.out.r;omega) (by have:=HSM.out.r;unfold maxLen;omega) (by simp) ?_;intro y1 w1 h1 h2;have HB1:Hid (Below W0.heap.size W0 w1):=below_grown ((Below.refl _ _).alloc (Nat.le_refl _) _) (owns_made0 W0 5 1) h2.grown (Nat.le_refl _) (by simp);have HO1:=hD (own_fix h1);clear h1 h2;obtain ⟨p1,c1,rfl⟩:=own_sh HO1.out;have HX1:=hD (HX0.out.below HB1.out);have q1:=HX1.out.cell (i:=1) rfl;have f1:=HX1.out.free 1))
 obtain ⟨n1,hn1⟩:∃n,n=x.rest.length:=⟨_,rfl⟩;rw[<- hn1] at HO1⊢;have HN1:=hD hn1;clear hn1;obtain ⟨W1,hW1⟩:∃W1,W1=w1.setCell ⟨w.heap.size,1,none⟩ (.slice p1 n1 c1):=⟨_,rfl⟩;have HF1:Hid (∀ k,w.heap.size+2<=k->k<W0.heap.size->W1.heap[k]?=W0.heap[k]?):=by show _;rw[hW1];exact far_put HB1.out (by omega)
 have HA1:Hid (Below w.heap.size w W1):=by show Below _ _ _;rw[hW1];exact (HB0.out.trans (HB1.out.mono HB0.out.size)).setCell (Nat.le_refl _) _
 have HY1:Hid (Bx W1 w.heap.size [.int .i64 po, .slice p1 n1 c1, .slice q.vp q.vn q.vc, .slice q.fp q.fn q.fc, .slice q.mp q.mn q.mc, .bool dr, .bool se, .int .i64 eg, .bool ac]):=by show Bx _ _ _;rw[hW1];exact HX1.out.put 1 _
 have HZ1:Hid (Bx W1 (w.heap.size+1) [.int .i64 0, .slice none 0 0, .slice none 0 0, .slice none 0 0, .slice none 0 0, .bool false, .bool false, .int .i64 0, .bool false]):=by show Bx _ _ _;rw[hW1];exact (HZ0.out.below HB1.out).other (by omega) _
 have HR1:Hid (W1.ownsRow W0.heap.size 5 1 (.slice p1 n1 c1) n1 (x.rest.map (Value.int .u8))):=by
  show World.ownsRow _ _ _ _ _ _ _;rw[hW1, <-flat_u8];exact own_far HO1.out fun k e=>heap_setCell_other w1 _ k _ (by show k≠w.heap.size;have:=own_size HO1.out e;have:=HSZ.out;omega)
 have HS1:Hid (W0.heap.size<=W1.heap.size):=by show _<=_;rw[hW1];have:=HB1.out.size;simpa using this
 rw[<- hW1];clear hW1 q1 f1 HB1 HO1 HX1 HRS;have HVS:=hD (HQ.out.v.below keepB HA1.out);have q2:=(HY1.out.below ((Below.refl _ _).alloc (Nat.le_refl _) (.cells #[] 4))).cell (i:=2) rfl;go_upto_region 3 with (at_builtin;(refine append_at elemB rfl (.tmp 10) (.tmp 12) rfl W1.heap.size (.slice (some ⟨W1.heap.size,0,none⟩) 0 0) 0 [] rfl (owns_made0 W1 4 1) (.slice q.vp q.vn q.vc) x.valid.length _ rfl ((HVS.out.below keepB ((Below.refl _ _).alloc (Nat.le_refl _) _)).src flatB.toFlatG) (by have:=HSM.out.v;omega) (by have:=HSM.out.v;unfold maxLen;omega) (by simp) ?_;intro y2 w2 h1 h2;have HB2:Hid (Below W1.heap.size W1 w2):=below_grown ((Below.refl _ _).alloc (Nat.le_refl _) _) (owns_made0 W1 4 1) h2.grown (Nat.le_refl _) (by simp);have HO2:=hD (own_fix h1);clear h1 h2;obtain ⟨p2,c2,rfl⟩:=own_sh HO2.out;have HX2:=hD (HY1.out.below HB2.out);have q2:=HX2.out.cell (i:=2) rfl;have f2:=HX2.out.free 2))
 obtain ⟨n2,hn2⟩:∃n,n=x.valid.length:=⟨_,rfl⟩;rw[<- hn2] at HO2⊢;have HN2:=hD hn2;clear hn2;obtain ⟨W2,hW2⟩:∃W2,W2=w2.setCell ⟨w.heap.size,2,none⟩ (.slice p2 n2 c2):=⟨_,rfl⟩;have HF2:Hid (∀ k,w.heap.size+2<=k->k<W1.heap.size->W2.heap[k]?=W1.heap[k]?):=by show _;rw[hW2];exact far_put HB2.out (by omega)
 have HA2:Hid (Below w.heap.size w W2):=by show Below _ _ _;rw[hW2];exact (HA1.out.trans (HB2.out.mono HA1.out.size)).setCell (Nat.le_refl _) _
 have HY2:Hid (Bx W2 w.heap.size [.int .i64 po, .slice p1 n1 c1, .slice p2 n2 c2, .slice q.fp q.fn q.fc, .slice q.mp q.mn q.mc, .bool dr, .bool se, .int .i64 eg, .bool ac]):=by show Bx _ _ _;rw[hW2];exact HX2.out.put 2 _
 have HZ2:Hid (Bx W2 (w.heap.size+1) [.int .i64 0, .slice none 0 0, .slice none 0 0, .slice none 0 0, .slice none 0 0, .bool false, .bool false, .int .i64 0, .bool false]):=by show Bx _ _ _;rw[hW2];exact (HZ1.out.below HB2.out).other (by omega) _
 have HR2:Hid (W2.ownsRow W1.heap.size 4 1 (.slice p2 n2 c2) n2 (x.valid.map Value.bool)):=by
  show World.ownsRow _ _ _ _ _ _ _;rw[hW2, <-flat_bools];exact own_far HO2.out fun k e=>heap_setCell_other w2 _ k _ (by show k≠w.heap.size;have:=own_size HO2.out e;have:=HSZ.out;have:=HS1.out;omega)
 have HS2:Hid (W1.heap.size<=W2.heap.size):=by show _<=_;rw[hW2];have:=HB2.out.size;simpa using this
 rw[<- hW2];clear hW2 q2 f2 HB2 HO2 HX2 HVS;have HMS:=hD (HQ.out.m.below keepN HA2.out);have q3:=(HY2.out.below ((Below.refl _ _).alloc (Nat.le_refl _) (.cells #[] 60))).cell (i:=4) rfl;go_upto_region 4 with (at_builtin;(refine append_at elemNum rfl (.tmp 15) (.tmp 17) rfl W2.heap.size (.slice (some ⟨W2.heap.size,0,none⟩) 0 0) 0 [] rfl (owns_made0 W2 60 2) (.slice q.mp q.mn q.mc) x.metas.length _ rfl ((HMS.out.below keepN ((Below.refl _ _).alloc (Nat.le_refl _) _)).src flatGN) (by have:=HSM.out.m;omega) (by have:=HSM.out.m;unfold maxLen;omega) (by simp) ?_;intro y3 w3 h1 h2;have HB3:Hid (Below W2.heap.size W2 w3):=below_grown ((Below.refl _ _).alloc (Nat.le_refl _) _) (owns_made0 W2 60 2) h2.grown (Nat.le_refl _) (by simp);have HO3:=hD (own_fix h1);clear h1 h2;obtain ⟨p3,c3,rfl⟩:=own_sh HO3.out;have HX3:=hD (HY2.out.below HB3.out);have q3:=HX3.out.cell (i:=4) rfl;have f3:=HX3.out.free 4))
 obtain ⟨n3,hn3⟩:∃n,n=x.metas.length:=⟨_,rfl⟩;rw[<- hn3] at HO3⊢;have HN3:=hD hn3;clear hn3;obtain ⟨W3,hW3⟩:∃W3,W3=w3.setCell ⟨w.heap.size,4,none⟩ (.slice p3 n3 c3):=⟨_,rfl⟩;have HF3:Hid (∀ k,w.heap.size+2<=k->k<W2.heap.size->W3.heap[k]?=W2.heap[k]?):=by show _;rw[hW3];exact far_put HB3.out (by omega)
 have HA3:Hid (Below w.heap.size w W3):=by show Below _ _ _;rw[hW3];exact (HA2.out.trans (HB3.out.mono HA2.out.size)).setCell (Nat.le_refl _) _
 have HY3:Hid (Bx W3 w.heap.size [.int .i64 po, .slice p1 n1 c1, .slice p2 n2 c2, .slice q.fp q.fn q.fc, .slice p3 n3 c3, .bool dr, .bool se, .int .i64 eg, .bool ac]):=by show Bx _ _ _;rw[hW3];exact HX3.out.put 4 _
 have HZ3:Hid (Bx W3 (w.heap.size+1) [.int .i64 0, .slice none 0 0, .slice none 0 0, .slice none 0 0, .slice none 0 0, .bool false, .bool false, .int .i64 0, .bool false]):=by show Bx _ _ _;rw[hW3];exact (HZ2.out.below HB3.out).other (by omega) _
 have HR3:Hid (NOwn W2.heap.size W3 (.slice p3 n3 c3) x.metas):=by
  show NOwn _ _ _ _;rw[HN3.out] at HO3;refine ⟨?_,HMS.out.nums⟩;rw[hW3,HN3.out];exact own_far HO3.out fun k e=>heap_setCell_other w3 _ k _ (by show k≠w.heap.size;have:=own_size HO3.out e;have:=HSZ.out;have:=HS1.out;have:=HS2.out;omega)
 have HS3:Hid (W2.heap.size<=W3.heap.size):=by show _<=_;rw[hW3];have:=HB3.out.size;simpa using this
 rw[<- hW3];clear hW3 q3 f3 HB3 HO3 HX3 HMS;have HROW:Hid (OwnRows (w.heap.size+2) W1.heap.size W2.heap.size W3.heap.size W3 x 0 (.slice p1 n1 c1) (.slice p2 n2 c2) (.slice p3 n3 c3) (.slice none 0 0) []):=by
  have s0:=HSZ.out;have s1:=HS1.out;have s2:=HS2.out;have s3:=HS3.out;have a1:=HR1.out;have a2:=HR2.out;have a3:=HR3.out;rw[HN1.out] at a1⊢;rw[HN2.out] at a2⊢;have b1:W2.ownsRow W0.heap.size 5 1 (.slice p1 x.rest.length c1) x.rest.length (x.rest.map (Value.int .u8)):=own_far a1 fun k e=>HF2.out k (by have:=own_size a1 e;omega) (own_size a1 e).2
  have b2:W3.ownsRow W0.heap.size 5 1 (.slice p1 x.rest.length c1) x.rest.length (x.rest.map (Value.int .u8)):=own_far b1 fun k e=>HF3.out k (by have:=own_size b1 e;omega) (own_size b1 e).2
  have b3:W3.ownsRow W1.heap.size 4 1 (.slice p2 x.valid.length c2) x.valid.length (x.valid.map Value.bool):=own_far a2 fun k e=>HF3.out k (by have:=own_size a2 e;omega) (own_size a2 e).2
  exact ⟨own_base b2 (by omega),fun k e=>(own_size a1 e).2,b3,fun k e=>(own_size a2 e).2,a3,fun k e=>(own_size a3.1 e).2,World.ownsRow_nil _ _ _ _,fun i u l h=>by simp at h,fun u hu=>by simp at hu,List.Pairwise.nil,Nat.zero_le _,by omega,by omega,by omega⟩
 clear HR1 HR2 HR3 HF1 HF2 HF3 HY1 HZ1 HY2 HZ2 HX0 HZ0;have HQF:Hid (∀ W,Below w.heap.size w W->NsRow W (.slice q.fp q.fn q.fc) x.fields):=fun W h=>HQ.out.f.below keepNs h
 have HTS:Hid (w.heap.size+2<=W3.heap.size):=by show _<=_;have:=HSZ.out;have:=HS1.out;have:=HS2.out;have:=HS3.out;omega
 have hfn:q.fn<=1000000:=by have:=HN.out;have:=HSM.out.f;omega
 clear HSZ HS1 HS2 HS3 HB0 HA1 HA2;go_wp2_with fail;go_loopw [3,4] (fun u i wr=>∃(k:Nat) (fs:List Value),k<=q.fn/\i= .int .i64 k/\Hid (OwnRows (w.heap.size+2) W1.heap.size W2.heap.size W3.heap.size wr x k (.slice p1 n1 c1) (.slice p2 n2 c2) (.slice p3 n3 c3) u fs)/\Hid (Bx wr w.heap.size [.int .i64 po, .slice p1 n1 c1, .slice p2 n2 c2, .slice q.fp q.fn q.fc, .slice p3 n3 c3, .bool dr, .bool se, .int .i64 eg, .bool ac])/\Hid (Bx wr (w.heap.size+1) [.int .i64 0, .slice none 0 0, .slice none 0 0, .slice none 0 0, .slice none 0 0, .bool false, .bool false, .int .i64 0, .bool false])/\Hid (Below w.heap.size w wr)/\Hid (W3.heap.size<=wr.heap.size)) (fun _ i _=>q.fn-(intOf i).toNat)
 case atStart=>exact ⟨0,_,Nat.zero_le _,rfl,HROW.out,HY3.out,HZ3.out,HA3.out,Nat.le_refl _⟩
 case round=>
  clear HROW HY3 HZ3;obtain ⟨k,fs,hk,rfl,HROW,HY,HZ,HA,HSS⟩:=hrel;have q3:=HY.out.cell (i:=3) rfl;obtain ⟨pu,cu,rfl⟩:=own_sh HROW.out.hf;by_cases hlt:k<q.fn
  ·have hki:(k:Int)<(q.fn:Int):=by omega
   obtain ⟨l,hl⟩:∃l,x.fields[k]?=some l:=⟨_,List.getElem?_eq_getElem (by have:=HN.out;omega)⟩;obtain ⟨b,o,lp,ln,lc,hps,hb,y0,hy0⟩:=NsRow.el (HQF.out wr HA.out) hl;have HLR:=hD hy0;have HLL:Hid (l.length<=1000000):=HSM.out.fl l (List.mem_of_getElem? hl);have HL:=hD hl;have q4:=(HY.out.below ((Below.refl _ _).alloc (Nat.le_refl _) (.cells #[] 60))).cell (i:=3) rfl;have y1:=(((Below.refl wr.heap.size wr).alloc (Nat.le_refl _) (.cells #[] 60)).cell (p:=⟨b,o+k,none⟩) hb).trans y0;rw[hps] at q3 q4;have HPS:=hD hps;clear hps hy0 hl;go_wp2_with (first
    |(at_builtin;refine append_at elemNum rfl (.tmp 28) (.tmp 33) rfl wr.heap.size (.slice (some ⟨wr.heap.size,0,none⟩) 0 0) 0 [] rfl (owns_made0 wr 60 2) (.slice lp ln lc) l.length _ rfl ((HLR.out.below keepN ((Below.refl _ _).alloc (Nat.le_refl _) _)).src flatGN) (by have:=HLL.out;omega) (by have:=HLL.out;unfold maxLen;omega) (by simp) ?_;intro y1 w1 h1 h2;have HB1:Hid (Below wr.heap.size wr w1):=below_grown ((Below.refl _ _).alloc (Nat.le_refl _) _) (owns_made0 wr 60 2) h2.grown (Nat.le_refl _) (by simp);have HO1:Hid (NOwn wr.heap.size w1 y1 l):=⟨own_fix h1,HLR.out.nums⟩;clear h1 h2;obtain ⟨py,cy,rfl⟩:=own_sh HO1.out.1;obtain ⟨ny,hny⟩:∃n,n=l.length:=⟨_,rfl⟩;rw[<- hny] at HO1⊢;clear hny)
    |(at_builtin;refine append_at elemNs rfl (.tmp 27) (.tmp 35) rfl W3.heap.size (.slice pu k cu) k fs rfl (World.ownsRow.alloc (own_far HROW.out.hf fun k e=>HB1.out.block k (own_size HROW.out.hf e).2) _) (.slice (some ⟨w1.heap.size,0,none⟩) 1 1) 1 [.slice py ny cy] rfl (src_one (g:=w1.heap.size) rfl (fun u hu=>by simp at hu;subst hu;rfl) (fun j u hj=>by match j,hj with|0,hj=>cases hj;simp[go_sem])) (by omega) (by unfold maxLen;omega) (by have:=HB1.out.size;have:=HSS.out;simp only[World.size_alloc];omega) ?_;intro y2 w2 h1 h2;have HR2:=hD (HROW.out.snoc HL.out HB1.out HO1.out rfl HSS.out h1 h2);have HG2:=hD h2;have HO2:=hD h1;clear h1 h2))
   have HFB:Hid (∀ z,z<W3.heap.size->z<wr.heap.size->w2.heap[z]?=wr.heap[z]?):=fun z h1 h2=>by
    have hb1:=HB1.out;refine (HG2.out.grown.block z (by have:=hb1.size;simp only[World.size_alloc];omega) fun e=>?_).trans ((Below.heap_alloc _ _ _ (by have:=hb1.size;omega)).trans (hb1.block z h2));have:=own_size HROW.out.hf e.symm;omega
   have HS2:Hid (wr.heap.size<=w2.heap.size):=by show _<=_;have h1:=HB1.out.size;have h2:=HG2.out.grown.size;simp only[World.size_alloc] at h2;omega
   go_roundw
   case rel=>exact ⟨k+1,_,by omega,by go_num,HR2.out,(HFB.out _ (by have:=HTS.out;omega) HY.out.lt).trans HY.out,(HFB.out _ (by have:=HTS.out;omega) HZ.out.lt).trans HZ.out,below_grown ((HA.out.trans (HB1.out.mono HA.out.size)).alloc (by have:=HA.out.size;have:=HB1.out.size;omega) _) (World.ownsRow.alloc (own_far HROW.out.hf fun k e=>HB1.out.block k (own_size HROW.out.hf e).2) _) HG2.out.grown (by have:=HTS.out;omega) (by have:=HA.out.size;have:=HB1.out.size;simp only[World.size_alloc];omega),Nat.le_trans HSS.out HS2.out⟩
   case measure=>simp[intOf];omega
  ·obtain rfl:k=q.fn:=by omega
   have hki:¬(q.fn:Int)<(q.fn:Int):=by omega
   have f3:=HY.out.free 3;go_upto_region 10 with fail
   obtain ⟨W4,hW4⟩:∃W4,W4=wr.setCell ⟨w.heap.size,3,none⟩ (.slice pu q.fn cu):=⟨_,rfl⟩;have HA4:Hid (Below w.heap.size w W4):=by show Below _ _ _;rw[hW4];exact HA.out.setCell (Nat.le_refl _) _
   have hY4:Bx W4 w.heap.size [.int .i64 po, .slice p1 n1 c1, .slice p2 n2 c2, .slice pu q.fn cu, .slice p3 n3 c3, .bool dr, .bool se, .int .i64 eg, .bool ac]:=by rw[hW4];exact HY.out.put 3 _
   have hZ4:Bx W4 (w.heap.size+1) [.int .i64 0, .slice none 0 0, .slice none 0 0, .slice none 0 0, .slice none 0 0, .bool false, .bool false, .int .i64 0, .bool false]:=by rw[hW4];exact HZ.out.other (by omega) _
   have HR4:Hid (OwnRows (w.heap.size+2) W1.heap.size W2.heap.size W3.heap.size W4 x x.fields.length (.slice p1 n1 c1) (.slice p2 n2 c2) (.slice p3 n3 c3) (.slice pu q.fn cu) fs):=by
    show OwnRows _ _ _ _ _ _ _ _ _ _ _ _;rw[<- HN.out.2.2.1,hW4];exact HROW.out.store (by omega)
   rw[<- hW4];have HS4:Hid (w.heap.size+2<=W4.heap.size):=by show _<=_;rw[hW4];have:=HTS.out;have:=HSS.out;simp;omega
   clear hW4 f3 q3;have HZ4:Hid (W4.heap[w.heap.size+1]?=some (.cells #[.int .i64 0, .slice none 0 0, .slice none 0 0, .slice none 0 0, .slice none 0 0, .bool false, .bool false, .int .i64 0, .bool false] 40 (0,0))):=hZ4;obtain ⟨d0,d1,d2,d3,d4,d5,d6,d7,d8⟩:=Bx.c9 hY4;obtain ⟨e0,e1,e2,e3,e4,e5,e6,e7,e8⟩:=Bx.c9 hZ4;have l0:=Bx.free hZ4 0;have l1:=Bx.free hZ4 1;have l2:=Bx.free hZ4 2;have l3:=Bx.free hZ4 3;have l4:=Bx.free hZ4 4;have l5:=Bx.free hZ4 5;have l6:=Bx.free hZ4 6;have l7:=Bx.free hZ4 7;have l8:=Bx.free hZ4 8;clear hY4 hZ4;go_wp2_with fail;have hb4:=set9_heap (.int .i64 po) (.slice p1 n1 c1) (.slice p2 n2 c2) (.slice pu q.fn cu) (.slice p3 n3 c3) (.bool dr) (.bool se) (.int .i64 eg) (.bool ac) HZ4.out;refine bodyPost_ret (v:= .agg #[.int .i64 po, .slice p1 n1 c1, .slice p2 n2 c2, .slice pu q.fn cu, .slice p3 n3 c3, .bool dr, .bool se, .int .i64 eg, .bool ac]) ?_ rfl ⟨⟨_,_,_,_,fs,rfl,?_⟩,?_⟩
   ·change Sem.run Tryz.prog (results _ _) (set9 W4 (w.heap.size+1) (.int .i64 po) (.slice p1 n1 c1) (.slice p2 n2 c2) (.slice pu q.fn cu) (.slice p3 n3 c3) (.bool dr) (.bool se) (.int .i64 eg) (.bool ac))=Result.ok _ (set9 W4 (w.heap.size+1) (.int .i64 po) (.slice p1 n1 c1) (.slice p2 n2 c2) (.slice pu q.fn cu) (.slice p3 n3 c3) (.bool dr) (.bool se) (.int .i64 eg) (.bool ac));generalize set9 W4 (w.heap.size+1) (.int .i64 po) (.slice p1 n1 c1) (.slice p2 n2 c2) (.slice pu q.fn cu) (.slice p3 n3 c3) (.bool dr) (.bool se) (.int .i64 eg) (.bool ac)=W5 at hb4⊢;have hb5:Bx W5 (w.heap.size+1) [.int .i64 po, .slice p1 n1 c1, .slice p2 n2 c2, .slice pu q.fn cu, .slice p3 n3 c3, .bool dr, .bool se, .int .i64 eg, .bool ac]:=hb4;obtain ⟨m0,m1,m2,m3,m4,m5,m6,m7,m8⟩:=Bx.c9 hb5;simp[results,Tryz.results7,go_sem,m0,m1,m2,m3,m4,m5,m6,m7,m8]
   ·exact (HR4.out.whole.far fun k h1 h2=>set9_other W4 (.int .i64 po) (.slice p1 n1 c1) (.slice p2 n2 c2) (.slice pu q.fn cu) (.slice p3 n3 c3) (.bool dr) (.bool se) (.int .i64 eg) (.bool ac) (by omega)).lower (by omega)
   ·exact set9_below (.int .i64 po) (.slice p1 n1 c1) (.slice p2 n2 c2) (.slice pu q.fn cu) (.slice p3 n3 c3) (.bool dr) (.bool se) (.int .i64 eg) (.bool ac) HA4.out (by omega)
open Go.RowKit
theorem PktB.toO {base:Nat} {w:World} {X:Nat} {x:Pkt} {r v f m:Value} {fs:List Value} (h:PktB base w X x r v f m fs):PktO base w x r v f m fs:=⟨h.hr,h.hv,h.hf,h.hfs,h.hm,h.nd2⟩
open Go.RowKit Stab
def FewB (l:List Ent):Prop:=∀k:Nat,k<l.length->(eAt l k).pats.length<=1000000/\(eAt l k).args.length<=1000000
theorem chooseB_any (l:List Ent) (tab:Int) (ks:List Nat) (lv kv:Value) (w:World) (hl:ERow w lv l) (hk:NRow w kv ks) (hn:l.length<=40) (hf:FewB l):
 Calls Tryz.prog 121 #[lv, .int .i64 tab,kv] w (RetBest w l tab ks):=by
 obtain ⟨la,lc,rfl,hc1,hc2⟩:=hl.shape;obtain ⟨ka,kc,rfl,kc1,kc2⟩:=hk.shape;have HO:=hD (order_any l tab _ w hl hn);have HL:=hD hl;have HK:=hD hk;have HF:=hD hf;obtain ⟨n,hnn⟩:∃n,n=l.length:=⟨_,rfl⟩;rw[<- hnn] at hn hc1 HL HO⊢;have HN:=hD hnn;clear hl hk hf hnn;go_enter Tryz.func121,Tryz.ntmps121;go_wp2_with fail;refine HO.out.mono ?_;rintro e w1 ⟨v,xs,rfl,hx,ho,hb⟩;obtain ⟨xa,xc,rfl,xc1,xc2,hxa⟩:=hx.shape;have HX:=hD hx;have HXA:=hD hxa;have HOD:=hD ho;have HB:=hD hb;obtain ⟨m,hm⟩:∃m,m=xs.length:=⟨_,rfl⟩;rw[<- hm] at xc1 HX⊢;have hm40:m<=40:=by have:=ho.len;have:=sel_len l tab l.length;have:=HN.out;omega
 have HM:=hD hm;clear hx ho hb hm hxa HO;go_wp2_with fail;go_loopw [8,13] (fun u i wr=>∃k:Nat,k<=m/\i= .int .i64 k/\Hid (∀ j,j<k->matB (eAt l (fnOf xs j)) tab ks=false)/\Hid (Below w1.heap.size w1 wr)) (fun _ i _=>m-(intOf i).toNat)
 case atStart=>exact ⟨0,Nat.zero_le _,rfl,fun j h=>absurd h (by omega),Below.refl _ _⟩
 case round=>
  obtain ⟨k,hk,rfl,HJ,HW⟩:=hrel;by_cases hlt:k<m
  ·obtain ⟨y,hy1,hy2⟩:∃y:Nat,fnOf xs k=(y:Int)/\y<n:=by
    have hmem:fnOf xs k∈xs:=by rw[fnOf_at (by have:=HM.out;omega)];exact List.getElem_mem _
    have:=HOD.out.mem.1 hmem;have:=HN.out;exact ⟨(fnOf xs k).toNat,by omega,by omega⟩
   obtain ⟨xb,xo,rfl,hxb,hxe⟩:=HXA.out (by have:=HM.out;omega);have x0:=hxe k (by have:=HM.out;omega);rw[<- HW.out.cell (p:=⟨xb,xo+k,none⟩) hxb] at x0;have e0:xs.getD k 0=(y:Int):=hy1;rw[e0] at x0;have hBW:=HB.out.trans (HW.out.mono HB.out.size);obtain ⟨lb,lo,lc2,he2,-,hej⟩:=(HL.out.below keepE hBW).at (eAt_nat l y (by have:=HN.out;omega));simp only[Value.slice.injEq] at he2;obtain ⟨rfl,-,-⟩:=he2;obtain ⟨p1,n1,c1,r1,m1,d1,a0,a1,a2,a3,a4,a5,hp,hr⟩:=hej.six;obtain ⟨r,hr2⟩:∃r,r=matB (eAt l y) tab ks:=⟨_,rfl⟩;have hpl:(eAt l y).pats.length<=1000000:=by have:=(HF.out y (by have:=HN.out;omega)).1;omega
   have HC:Hid (Calls Tryz.prog 139 #[.agg #[.int .i64 (eAt l y).tab, .slice p1 n1 c1, .int .i64 (eAt l y).len, .int .i64 (eAt l y).prio, .int .i64 (eAt l y).act, .slice r1 m1 d1], .int .i64 tab, .slice ka ks.length kc] wr fun e w'=>e= .returned (.bool r)/\Below wr.heap.size wr w'):=by
    rw[hr2];exact matches_any (eAt l y) tab ks _ _ wr ⟨_,_,rfl,hp,hr⟩ (HK.out.below keepN hBW) hpl
   have HR:Hid (r=matB (eAt l (fnOf xs k)) tab ks):=by show _=_;rw[hr2,hy1]
   have HY:Hid (fnOf xs k=(y:Int)):=hy1;clear hr2 hy1 e0 hBW hej hp hr hxe hpl;generalize (eAt l y).tab=t1 at*;generalize (eAt l y).len=l1 at*;generalize (eAt l y).prio=q1 at*;generalize (eAt l y).act=s1 at*;have z1:(k:Int)<(m:Int):=by omega
   have z2:(y:Int)<(n:Int):=by omega
   go_wp2_with fail;refine HC.out.mono ?_;rintro e w2 ⟨rfl,hb2⟩;have HW2:Hid (Below w1.heap.size w1 w2):=HW.out.trans (hb2.mono HW.out.size);clear hb2 HC a0 a1 a2 a3 a4 a5 x0;cases r
   ·go_wp2_with fail;go_roundw
    case rel=>
     refine ⟨k+1,by omega,by go_num,fun j hj=>?_,HW2⟩;by_cases e:j=k
     ·subst e;exact HR.out.symm
     ·exact HJ.out j (by omega)
    case measure=>simp[intOf];omega
   ·go_wp2_with fail;go_ret;refine ⟨(y:Int),rfl,?_,HB.out.trans (HW2.out.mono HB.out.size)⟩;rw[<- HY.out];have hkx:k<xs.length:=by have:=HM.out;omega
    exact HOD.out.best hkx HJ.out HR.out.symm
  ·obtain rfl:k=m:=by omega
   go_wp2_with fail;go_ret;exact ⟨-1,rfl,HOD.out.none (by rw[<- HM.out];exact HJ.out),HB.out.trans (HW.out.mono HB.out.size)⟩
theorem lookupB_any (l:List Ent) (tab:Int) (ks:List Nat) (a0:Int) (g0:List Nat) (lv kv gv:Value) (w:World) (hl:ERow w lv l) (hk:NRow w kv ks) (hg:NRow w gv g0) (hn:l.length<=40) (hf:FewB l) (hg0:g0.length<=6000):
 Calls Tryz.prog 71 #[lv, .int .i64 tab,kv, .agg #[.int .i64 a0,gv]] w (RetRunO w (Look l tab ks a0 g0)):=by
 obtain ⟨la,lc,rfl,hc1,hc2⟩:=hl.shape;obtain ⟨ka,kc,rfl,kc1,kc2⟩:=hk.shape;obtain ⟨ga,gc,rfl,gc1,gc2⟩:=hg.shape;have HC:Hid (∀ W,Below w.heap.size w W->Calls Tryz.prog 121 #[.slice la l.length lc, .int .i64 tab, .slice ka ks.length kc] W (RetBest W l tab ks)):=fun W hW=>chooseB_any l tab ks _ _ W (hl.below keepE hW) (hk.below keepN hW) hn hf
 have HL:=hD hl;have HG:=hD hg;have HF:=hD hf;have HCL:Hid (∀ (g:List Nat) (v:Value) (W:World),NRow W v g->g.length<=1000000->Calls Tryz.prog 122 #[v] W fun e w'=>∃v',e= .returned v'/\NOwn W.heap.size w' v' g/\Below W.heap.size W w'):=fun g v W h1 h2=>cloneN_any g v W h1 h2
 clear hl hk hg hf;go_enter Tryz.func71,Tryz.ntmps71;go_wp2_with fail;have hb0:Below w.heap.size w (((w.alloc (.cells #[.int .i64 a0, .slice ga g0.length gc] 52)).alloc (.cells #[.int .i64 0, .slice none 0 0] 52)).alloc (.cells #[.int .i64 a0, .slice ga g0.length gc] 52)):=(by repeat (first|exact Below.refl _ _|assumption|refine Below.drew ?_|refine blA ?_|refine blS ?_|refine blT ?_ (by assumption)));generalize hX:((w.alloc (.cells #[.int .i64 a0, .slice ga g0.length gc] 52)).alloc (.cells #[.int .i64 0, .slice none 0 0] 52)).alloc (.cells #[.int .i64 a0, .slice ga g0.length gc] 52)=X at hb0;have x0:X.cell? ⟨w.heap.size+1,0,none⟩=some (.int .i64 0):=by rw[<- hX];simp[go_sem]
 have x1:X.cell? ⟨w.heap.size+1,1,none⟩=some (.slice none 0 0):=by rw[<- hX];simp[go_sem]
 have x2:X.cell? ⟨w.heap.size+1+1,0,none⟩=some (.int .i64 a0):=by rw[<- hX];simp[go_sem]
 have x3:X.cell? ⟨w.heap.size+1+1,1,none⟩=some (.slice ga g0.length gc):=by rw[<- hX];simp[go_sem]
 have xs:X.heap.size=w.heap.size+1+1+1:=by rw[<- hX];simp
 have xf:∀j,X.frozen? ⟨w.heap.size+1,j,none⟩=false/\X.frozen? ⟨w.heap.size+1+1,j,none⟩=false:=fun j=>by rw[<- hX];simp[go_sem]
 have hXW:∀W,Below X.heap.size X W->(W.cell? ⟨w.heap.size+1,0,none⟩=some (.int .i64 0)/\W.cell? ⟨w.heap.size+1,1,none⟩=some (.slice none 0 0)/\W.cell? ⟨w.heap.size+1+1,0,none⟩=some (.int .i64 a0)/\W.cell? ⟨w.heap.size+1+1,1,none⟩=some (.slice ga g0.length gc))/\
  (∀ j,W.frozen? ⟨w.heap.size+1,j,none⟩=false)/\(∀ j,W.frozen? ⟨w.heap.size+1+1,j,none⟩=false)/\w.heap.size+1+1<W.heap.size/\Below w.heap.size w W:=fun W hW=>
  ⟨⟨(hW.cell (p:=⟨w.heap.size+1,0,none⟩) (by show w.heap.size+1<_;omega)).trans x0,(hW.cell (p:=⟨w.heap.size+1,1,none⟩) (by show w.heap.size+1<_;omega)).trans x1,(hW.cell (p:=⟨w.heap.size+1+1,0,none⟩) (by show w.heap.size+1+1<_;omega)).trans x2,(hW.cell (p:=⟨w.heap.size+1+1,1,none⟩) (by show w.heap.size+1+1<_;omega)).trans x3⟩,
   fun j=>(hW.frozen (p:=⟨w.heap.size+1,j,none⟩) (by show w.heap.size+1<_;omega)).trans (xf j).1,fun j=>(hW.frozen (p:=⟨w.heap.size+1+1,j,none⟩) (by show w.heap.size+1+1<_;omega)).trans (xf j).2,by have:=hW.size;omega,hb0.trans (hW.mono hb0.size)⟩
 have HXW:=hD hXW;have HCX:=hD (HC.out X hb0);clear hX x0 x1 x2 x3 xs xf hXW HC hb0;refine HCX.out.mono ?_;rintro e w1 ⟨c,rfl,hbest,hb1⟩;obtain ⟨⟨x0,x1,x2,x3⟩,f1,f2,hs1,hbw⟩:=HXW.out w1 hb1;have HB:=hD hbest;have HW1:=hD hbw;have f10:=f1 0;have f11:=f1 1;have f20:=f2 0;have f21:=f2 1;clear hbest hb1 hbw HCX f1 f2;obtain ⟨N,hN⟩:∃N,N=w.heap.size:=⟨_,rfl⟩;have HNN:=hD hN;rw[<- hN] at x0 x1 x2 x3 f10 f11 f20 f21 hs1⊢;clear hN;by_cases hc:c<0
 ·have HCC:=hD (HCL.out g0 _ w1 (HG.out.below keepN HW1.out) (by omega));go_wp2_with fail;refine HCC.out.mono ?_;rintro e w2 ⟨v',rfl,ho,hb2⟩;obtain ⟨vp,vc,rfl⟩:=ho.shape;have HO:=hD ho;have y0:=(hb2.cell (p:=⟨N+1,0,none⟩) (by show N+1<_;omega)).trans x0;have y1:=(hb2.cell (p:=⟨N+1,1,none⟩) (by show N+1<_;omega)).trans x1;have y2:=(hb2.cell (p:=⟨N+1+1,0,none⟩) (by show N+1+1<_;omega)).trans x2;have y3:=(hb2.cell (p:=⟨N+1+1,1,none⟩) (by show N+1+1<_;omega)).trans x3;have g10:=(hb2.frozen (p:=⟨N+1,0,none⟩) (by show N+1<_;omega)).trans f10;have g11:=(hb2.frozen (p:=⟨N+1,1,none⟩) (by show N+1<_;omega)).trans f11;have g21:=(hb2.frozen (p:=⟨N+1+1,1,none⟩) (by show N+1+1<_;omega)).trans f21;have HW2:=hD (HW1.out.trans (hb2.mono HW1.out.size));have hs2:=hb2.size;clear ho hb2 HCC x0 x1 x2 x3 f10 f11 f20 f21;go_wp2_with fail;refine bodyPost_ret (v:= .agg #[.int .i64 a0, .slice vp g0.length vc]) (by simp[results,Tryz.results71,go_sem,y0,y1]) rfl ?_;refine ⟨a0,g0,_,rfl,⟨c,HB.out,by rw[if_pos hc],by rw[if_pos hc]⟩,(HO.out.at fun k hk=>?_).mono (by have:=HNN.out;omega),((HW2.out.setCell (by have:=HNN.out;show _<=N+1+1;omega) _).setCell (by have:=HNN.out;show _<=N+1;omega) _).setCell (by have:=HNN.out;show _<=N+1;omega) _⟩;rw[Below.heap_setCell _ _ _ _ (by show k≠N+1;omega),Below.heap_setCell _ _ _ _ (by show k≠N+1;omega),Below.heap_setCell _ _ _ _ (by show k≠N+1+1;omega)]
 ·obtain ⟨y,rfl⟩:∃y:Nat,c=(y:Int):=⟨c.toNat,by omega⟩;have hyl:y<l.length:=by
   rcases HB.out with ⟨h,-⟩|⟨-,h,-⟩
   ·omega
   ·omega
  obtain ⟨lb,lo,lc2,he2,hlb,hej⟩:=HL.out.at (eAt_nat l y hyl);simp only[Value.slice.injEq] at he2;obtain ⟨rfl,-,-⟩:=he2;obtain ⟨p1,n1,c1,r1,m1,d1,a0',a1',a2',a3',a4,a5,hp,hr⟩:=hej.six;clear a0' a1' a2' a3' hp;have hr2:=hr;obtain ⟨r1',d1',he3,-,-⟩:=hr2.shape;simp only[Value.slice.injEq] at he3;obtain ⟨rfl,rfl,rfl⟩:=he3;have b4:=(HW1.out.cell (p:=⟨lb,lo+y*6+4,none⟩) hlb).trans a4;have b5:=(HW1.out.cell (p:=⟨lb,lo+y*6+5,none⟩) hlb).trans a5;have hne1:lb≠N+1:=by have:=HNN.out;omega
  have hne2:lb≠N+1+1:=by have:=HNN.out;omega
  have hgl:(eAt l (y:Int)).args.length<=1000000:=(HF.out y hyl).2;have HR:=hD hr;have HA:Hid ((eAt l (y:Int)).act=(eAt l (y:Int)).act/\(eAt l (y:Int)).args=(eAt l (y:Int)).args):=⟨rfl,rfl⟩;have HLK:Hid (∀ a g,a=(eAt l (y:Int)).act->g=(eAt l (y:Int)).args->Look l tab ks a0 g0 a g):=fun a g h1 h2=>⟨(y:Int),HB.out,by rw[if_neg (by omega)];exact h1,by rw[if_neg (by omega)];exact h2⟩
  obtain ⟨act,hact⟩:∃act,act=(eAt l (y:Int)).act:=⟨_,rfl⟩;obtain ⟨g,hgg⟩:∃g,g=(eAt l (y:Int)).args:=⟨_,rfl⟩;have HL2:=hD (HLK.out act g hact hgg);rw[<- hact] at b4;rw[<- hgg] at b5 hgl HR;clear hact hgg HLK HA a4 a5 hej hr hr2;have HCC:∀p q:Value,Hid (Calls Tryz.prog 122 #[.slice r1 g.length d1] ((w1.setCell ⟨N+1+1,0,none⟩ p).setCell ⟨N+1+1,1,none⟩ q) fun e w'=>∃v',e= .returned v'/\NOwn ((w1.setCell ⟨N+1+1,0,none⟩ p).setCell ⟨N+1+1,1,none⟩ q).heap.size w' v' g/\Below ((w1.setCell ⟨N+1+1,0,none⟩ p).setCell ⟨N+1+1,1,none⟩ q).heap.size ((w1.setCell ⟨N+1+1,0,none⟩ p).setCell ⟨N+1+1,1,none⟩ q) w'):=fun p q=>
   HCL.out g _ _ (HR.out.below keepN ((HW1.out.setCell (by have:=HNN.out;show _<=N+1+1;omega) _).setCell (by have:=HNN.out;show _<=N+1+1;omega) _)) (by omega)
  have z1:(y:Int)<(l.length:Int):=by omega
  go_wp2_with fail;have HCY:=HCC (.int .i64 act) (.slice r1 g.length d1);have hby:Below w.heap.size w ((w1.setCell ⟨N+1+1,0,none⟩ (.int .i64 act)).setCell ⟨N+1+1,1,none⟩ (.slice r1 g.length d1)):=(HW1.out.setCell (by have:=HNN.out;show _<=N+1+1;omega) _).setCell (by have:=HNN.out;show _<=N+1+1;omega) _;generalize hY:(w1.setCell ⟨N+1+1,0,none⟩ (.int .i64 act)).setCell ⟨N+1+1,1,none⟩ (.slice r1 g.length d1)=Y at HCY hby;have u0:Y.cell? ⟨N+1,0,none⟩=some (.int .i64 0):=by rw[<- hY];simp[go_sem,x0,x1,x2,x3]
  have u1:Y.cell? ⟨N+1,1,none⟩=some (.slice none 0 0):=by rw[<- hY];simp[go_sem,x0,x1,x2,x3]
  have u2:Y.cell? ⟨N+1+1,0,none⟩=some (.int .i64 act):=by rw[<- hY];simp[go_sem,x0,x1,x2,x3]
  have u3:Y.cell? ⟨N+1+1,1,none⟩=some (.slice r1 g.length d1):=by rw[<- hY];simp[go_sem,x0,x1,x2,x3]
  have v10:Y.frozen? ⟨N+1,0,none⟩=false:=by rw[<- hY];simp[go_sem,f10]
  have v11:Y.frozen? ⟨N+1,1,none⟩=false:=by rw[<- hY];simp[go_sem,f11]
  have v21:Y.frozen? ⟨N+1+1,1,none⟩=false:=by rw[<- hY];simp[go_sem,f21]
  have hsy:N+1+1<Y.heap.size:=by rw[<- hY];simp;omega
  have HBY:=hD hby;clear hY hby HCC x0 x1 x2 x3 f10 f11 f20 f21 b4 b5 hs1;refine HCY.out.mono ?_;rintro e w2 ⟨v',rfl,ho,hb2⟩;obtain ⟨vp,vc,rfl⟩:=ho.shape;have HO:=hD ho;have y0:=(hb2.cell (p:=⟨N+1,0,none⟩) (by show N+1<_;omega)).trans u0;have y1:=(hb2.cell (p:=⟨N+1,1,none⟩) (by show N+1<_;omega)).trans u1;have y2:=(hb2.cell (p:=⟨N+1+1,0,none⟩) (by show N+1+1<_;omega)).trans u2;have y3:=(hb2.cell (p:=⟨N+1+1,1,none⟩) (by show N+1+1<_;omega)).trans u3;have g10:=(hb2.frozen (p:=⟨N+1,0,none⟩) (by show N+1<_;omega)).trans v10;have g11:=(hb2.frozen (p:=⟨N+1,1,none⟩) (by show N+1<_;omega)).trans v11;have g21:=(hb2.frozen (p:=⟨N+1+1,1,none⟩) (by show N+1+1<_;omega)).trans v21;have HW2:=hD (HBY.out.trans (hb2.mono HBY.out.size));have hs2:=hb2.size;clear ho hb2 HCY u0 u1 u2 u3 v10 v11 v21;go_wp2_with fail;refine bodyPost_ret (v:= .agg #[.int .i64 act, .slice vp g.length vc]) (by simp[results,Tryz.results71,go_sem,y0,y1]) rfl ?_;refine ⟨act,g,_,rfl,HL2.out,(HO.out.at fun k hk=>?_).mono (by have:=HNN.out;omega),((HW2.out.setCell (by have:=HNN.out;show _<=N+1+1;omega) _).setCell (by have:=HNN.out;show _<=N+1;omega) _).setCell (by have:=HNN.out;show _<=N+1;omega) _⟩;rw[Below.heap_setCell _ _ _ _ (by show k≠N+1;omega),Below.heap_setCell _ _ _ _ (by show k≠N+1;omega),Below.heap_setCell _ _ _ _ (by show k≠N+1+1;omega)]
open Go.RowKit
theorem RowAt.map {α:Type} {sz:Nat} {At:World->Nat->Nat->α->Prop} {w w':World} {v:Value} {l:List α} (h:RowAt sz At w v l) (hs:w.heap.size<=w'.heap.size) (hk:∀b o x,At w b o x->At w' b o x):RowAt sz At w' v l:=by
 obtain ⟨pa,cap,h1,h2,h3,h4,h5⟩:=h;refine ⟨pa,cap,h1,h2,h3,h4,fun h0=>?_⟩;obtain ⟨b,o,e1,e2,e4⟩:=h5 h0;exact ⟨b,o,e1,Nat.lt_of_lt_of_le e2 hs,fun j x hj=>hk b _ x (e4 j x hj)⟩
structure AR (b:Nat) (O0:Obj) (J:World->Nat->Prop) (W W':World):Prop where
 low:Below b W W'
 nrow:∀v l,NRow W v l->NRow W' v l
 zz:∀g:Nat,b<=g->(W.heap[g]?=some O0\/J W g)->(W'.heap[g]?=some O0\/J W' g)
 p1:∀g:Nat,b<=g->J W g->J W' g
section
variable {b:Nat} {O0:Obj} {J:World->Nat->Prop} {W W':World}
theorem AR.refl (b:Nat) (O0:Obj) (J:World->Nat->Prop) (W:World):AR b O0 J W W:=⟨Below.refl _ _,fun _ _=>id,fun _ _=>id,fun _ _=>id⟩
theorem AR.of_below (hJ:∀(g:Nat) (W W':World),Below W.heap.size W W'->J W g->J W' g) (hb:b<=W.heap.size) (h:Below W.heap.size W W'):AR b O0 J W W':=
 ⟨h.mono hb,fun _ _ e=>e.below keepN h,fun g _ e=>e.imp (fun q=>(h.block g (lt_some q)).trans q) (hJ g W W' h),fun g _=>hJ g W W' h⟩
theorem NRow.past {v:Value} {l:List Nat} {g:Nat} (h:NRow W v l) (hs:W.heap.size<=W'.heap.size) (ho:∀k,k≠g->W'.heap[k]?=W.heap[k]?) (hn:∀i n,W.cell? ⟨g,i,none⟩≠some (.int .u64 n)):NRow W' v l:=
 RowAt.map h hs fun b o x ⟨h1,h2,h3⟩=>by
  have hbg:b≠g:=by rintro rfl;exact hn _ _ h2
  have hc:∀j,W'.cell? ⟨b,j,none⟩=W.cell? ⟨b,j,none⟩:=fun j=>by unfold World.cell?;rw[ho b hbg]
  exact ⟨h1,(hc _).trans h2,(hc _).trans h3⟩
theorem AR.store {g:Nat} (hg:b<=g) (hlow:Below b W W') (hs:W.heap.size<=W'.heap.size) (ho:∀k,k≠g->W'.heap[k]?=W.heap[k]?) (hn:∀i n,W.cell? ⟨g,i,none⟩≠some (.int .u64 n)) (hJg:J W' g) (hJo:∀k,k≠g->J W k->J W' k):AR b O0 J W W':=by
 refine ⟨hlow,fun v l h=>NRow.past h hs ho hn,fun k hk e=>?_,fun k hk e=>?_⟩
 ·by_cases q:k=g
  ·subst q;exact .inr hJg
  ·exact e.imp (fun q2=>(ho k q).trans q2) (hJo k q)
 ·by_cases q:k=g
  ·subst q;exact hJg
  ·exact hJo k q e
end
def R0:Obj:= .cells #[.int .i64 0, .slice none 0 0] 52 (0,0)
def R1 (a:Int) (u:Value):Obj:= .cells #[.int .i64 a,u] 52 (0,0)
def JR (a:Int) (l:List Nat) (W:World) (g:Nat):Prop:=∃u,W.heap[g]?=some (R1 a u)/\NRow W u l
theorem jr_cells {a:Int} {l:List Nat} {W:World} {g:Nat} (h:W.heap[g]?=some R0\/JR a l W g):∃x y,W.heap[g]?=some (R1 x y)/\(∀ n,y≠ .int .u64 n):=by
 rcases h with h|⟨u,h,h2⟩
 ·exact ⟨0, .slice none 0 0,h,fun n e=>by cases e⟩
 ·obtain ⟨p,c,rfl,-⟩:=h2.shape;exact ⟨a,_,h,fun n e=>by cases e⟩
open Go.RowKit Stab
theorem PktSm.of {p:Prg} {x:Pkt} (hx:PktF p x) (hS:Sm p) (hr:x.rest.length<=1000000):PktSm x:=
 ⟨hr,by rw[hx.v];have:=hS.heads;omega,by rw[hx.f];have:=hS.heads;omega,fun l hl=>by
  obtain ⟨j,hj⟩:=List.getElem?_of_mem hl;rw[hx.fl j l hj];have hjl:=(List.getElem?_eq_some_iff.1 hj).1;have:=hS.head _ (List.mem_of_getElem? (some_getD (l:=p.heads) (j:=j) [] (by have:=hx.f;omega)));omega,by rw[hx.m];have:=hS.metas;omega⟩
structure WPos (p:Prg):Prop where
 head:∀l∈p.heads,∀k∈l,(0:Int)<k
 metas:∀k∈p.metas,(0:Int)<k
theorem WPos.at {p:Prg} (h:WPos p) {i j:Nat} (hi:i<p.heads.length) (hj:j<(p.heads.getD i []).length):(0:Int)<(p.heads.getD i []).getD j 0:=
 h.head _ (List.mem_of_getElem? (some_getD (l:=p.heads) (j:=i) [] hi)) _ (List.mem_of_getElem? (some_getD (l:=p.heads.getD i []) (j:=j) 0 hj))
theorem r1_cells {W:World} {g:Nat} {x:Int} {y:Value} (h:W.heap[g]?=some (R1 x y)):W.cell? ⟨g,0,none⟩=some (.int .i64 x)/\W.cell? ⟨g,1,none⟩=some y/\W.frozen? ⟨g,0,none⟩=false/\W.frozen? ⟨g,1,none⟩=false:=by
 unfold R1 at h;refine ⟨?_,?_,?_,?_⟩<;>simp[World.cell?,World.frozen?,h]
structure ApOk (p:Prg) (l:List Ent):Prop where
 keys:∀i:Nat,i<p.tabs.length->(tblAt p i).keys.length<=6000/\(∀ c∈(tblAt p i).keys,c.length<=6000)/\∀c∈(tblAt p i).keys,∃wt,widthP p (-1) c=some wt
 act:∀(i:Nat) (ks:List Nat),i<p.tabs.length->0<=lookA l i ks (tblAt p i).dact/\lookA l i ks (tblAt p i).dact<(p.acts.length:Int)/\(lookG l i ks (tblAt p i).dargs).length=(actAt p (lookA l i ks (tblAt p i).dact)).params.length
 body:∀j:Nat,j<p.acts.length->mayInstsP p j (actAt p j).body=true/\∀i∈(actAt p j).body,i.e.length<=6000
 few:l.length<=40/\FewB l
def apF (p:Prg) (l:List Ent) (act:Int):Pkt->Ist->Pkt:=if act<0 then applyP p l else fun x _=>x
def runA (p:Prg) (l:List Ent) (act:Int) (args:List Nat) (c:List Ist) (x:Pkt):Pkt:=runFrom p (apF p l act) args c 0 x
section
variable {p:Prg} {s:PgS} {q k k':KS} {x y y':Pkt} {w wr w' w2:World}
end
open Go.RowKit Stab
theorem mayP_parts {p:Prg} (h:mayP p=true):headsP p=true/\p.metas.all okP=true/\mayInstsP p (-1) p.ctl=true/\allIdx (fun i (a:Actn)=>decide (a.params.length<=8)&&a.params.all okP&&mayInstsP p (i:Int) a.body) 0 p.acts=true/\p.tabs.all (mayTabP p)=true:=by
 unfold mayP at h;simp only[Bool.and_eq_true] at h;obtain ⟨⟨⟨⟨⟨⟨⟨⟨⟨⟨h1,h2⟩,h3⟩,h4⟩,h5⟩,h6⟩,h7⟩,h8⟩,h9⟩,h10⟩,h11⟩:=h;exact ⟨h1,h3,h7,h10,h11⟩
theorem ok_pos {w:Int} (h:okP w=true):0<w:=(okP_iff.1 h).1
theorem wpos_of {p:Prg} (h:mayP p=true):WPos p:=by
 obtain ⟨h1,h2,-,-,-⟩:=mayP_parts h;constructor
 ·intro l hl k hk;unfold headsP at h1;rw[Bool.and_eq_true] at h1;obtain ⟨j,hj⟩:=List.getElem?_of_mem hl;have h3:=allIdx_iff.1 h1.2 j l hj;rw[Bool.and_eq_true,Bool.and_eq_true] at h3;exact ok_pos (List.all_eq_true.1 h3.1.2 k hk)
 ·intro k hk;exact ok_pos (List.all_eq_true.1 h2 k hk)
theorem body_of {p:Prg} (h:mayP p=true) (hS:Sm p) {j:Nat} (hj:j<p.acts.length):mayInstsP p j (actAt p j).body=true/\∀i∈(actAt p j).body,i.e.length<=6000:=by
 obtain ⟨-,-,-,h1,-⟩:=mayP_parts h;have hx:p.acts[j]?=some (actAt p j):=by
  unfold actAt;rw[Int.toNat_natCast];exact some_getD (l:=p.acts) (j:=j) _ hj
 have h2:=allIdx_iff.1 h1 j _ hx;rw[Bool.and_eq_true,Nat.zero_add] at h2;exact ⟨h2.2,hS.bcode _ (List.mem_of_getElem? hx)⟩
theorem mayRun_parts {p:Prg} {ls:List Int} {a:Int} {g:List Nat} (h:mayRunP p ls a g=true):0<=a/\a<(p.acts.length:Int)/\g.length=(actAt p a).params.length:=by
 unfold mayRunP at h;simp only[Bool.and_eq_true,decide_eq_true_eq] at h;exact ⟨h.1.1.1,h.1.1.2,h.2.1⟩
theorem choose_tab (l:List Ent) (tab:Int) (ks:List Nat):∀k:Nat,k<=l.length->chooseF l tab ks k<0\/∃j:Nat,j<k/\chooseF l tab ks k=(j:Int)/\matB (eAt l (j:Int)) tab ks=true
 |0,_=>by left;unfold chooseF;decide
 |k+1,hk=>by
  rw[chooseF];split
  ·rename_i h;exact .inr ⟨k,by omega,rfl,h.1⟩
  ·rcases choose_tab l tab ks k (by omega) with h|⟨j,h1,h2,h3⟩
   ·exact .inl h
   ·exact .inr ⟨j,by omega,h2,h3⟩
theorem tab_at {p:Prg} {i:Nat} (hi:i<p.tabs.length):p.tabs[i]?=some (tblAt p i):=by
 unfold tblAt;rw[Int.toNat_natCast];exact some_getD (l:=p.tabs) (j:=i) _ hi
theorem apok_of {p:Prg} {l:List Ent} (h:mayP p=true) (hS:Sm p) (he:∀y∈l,EntOk p y) (hn:l.length<=40) (hf:FewB l):ApOk p l:=by
 obtain ⟨-,-,-,-,h5⟩:=mayP_parts h;have ht:∀i:Nat,i<p.tabs.length->mayTabP p (tblAt p i)=true:=fun i hi=>List.all_eq_true.1 h5 _ (List.mem_of_getElem? (tab_at hi))
 refine ⟨fun i hi=>?_,fun i ks hi=>?_,fun j hj=>body_of h hS hj,hn,hf⟩
 ·have hm:=List.mem_of_getElem? (tab_at hi);refine ⟨hS.tkeys _ hm,hS.tcode _ hm,fun c hc=>?_⟩;have h1:=ht i hi;unfold mayTabP at h1;simp only[Bool.and_eq_true] at h1;obtain ⟨j,hj⟩:=List.getElem?_of_mem hc;have h2:=allIdx_iff.1 h1.1.1.2 j c hj;rw[Bool.and_eq_true,Option.isSome_iff_exists] at h2;exact h2.1
 ·have h1:=ht i hi;unfold mayTabP at h1;simp only[Bool.and_eq_true] at h1;have hd:=mayRun_parts h1.2;unfold lookA lookG;by_cases hc:chooseF l i ks l.length<0
  ·rw[if_pos hc,if_pos hc];exact hd
  ·rw[if_neg hc,if_neg hc];rcases choose_tab l i ks l.length (Nat.le_refl _) with q|⟨j,q1,q2,q3⟩
   ·exact absurd q hc
   ·rw[q2];have hjm:l[j]?=some (eAt l (j:Int)):=by
     unfold eAt;rw[Int.toNat_natCast];exact some_getD (l:=l) (j:=j) _ q1
    exact mayRun_parts (he _ (List.mem_of_getElem? hjm)).run
theorem fewB_of {l:List Ent} (h:∀e∈l,e.pats.length<=1000000/\e.args.length<=1000000):FewB l:=by
 intro k hk;have hjm:l[k]?=some (eAt l (k:Int)):=by
  unfold eAt;rw[Int.toNat_natCast];exact some_getD (l:=l) (j:=k) _ hk
 exact h _ (List.mem_of_getElem? hjm)
end Go.Proofs.YtjfhfaodbjecdaaGreat
