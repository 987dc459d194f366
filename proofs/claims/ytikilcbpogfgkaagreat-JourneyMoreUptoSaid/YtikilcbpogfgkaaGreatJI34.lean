/-
  header.Take.
-/
import Derived.Test.YtikilcbpogfgkaaGreatJI32
import Derived.Test.YtikilcbpogfgkaaGreatJI33
set_option maxHeartbeats 12800000
set_option maxRecDepth 100000
namespace Go.Proofs.YtikilcbpogfgkaaGreat
open Go.RowKit Stab
variable {v r f m:Value} {w:World} {g base:Nat} {x:Pkt} {fs:List Value}
def TakeR (p:Prg) (base:Nat) (w:World) (X:Nat) (x:Pkt) (h:Nat) (r v f m:Value) (fs:List Value) (e:Ending) (w':World):Prop:=
 match takeP p x h with
 |some y=>e= .returned (.bool true)/\(∃ r',PktB base w' X y r' v f m fs)/\Fr (PS X r v f m fs) w w'
 |none=>e= .returned (.bool false)/\PktB base w' X x r v f m fs/\Fr (PS X r v f m fs) w w'
def T16 (wr:World) (X vg h:Nat) (ys:List Int) (n:Nat) (D:Nat->Bool) (w:World):Prop:=
 (D 15=false/\Bl wr w)\/(∃ (W:World) (y:Value),Bl wr W/\W.ownsRow wr.heap.size 5 1 y n (ys.map (Value.int .u8))/\D 15=true/\((D 17=false/\w=W.setCell ⟨X,1,none⟩ y)\/(D 17=true/\w=(W.setCell ⟨X,1,none⟩ y).setCell ⟨vg,h,none⟩ (.bool true))))
section
variable {wr w:World} {X vg h n:Nat} {ys:List Int} {D:Nat->Bool}
theorem T16.quiet (hT:T16 wr X vg h ys n D w) (i:Nat) (hi:(decide (15=i)||decide (17=i))=false):T16 wr X vg h ys n (OutD.upD D i) w:=by
 rw[Bool.or_eq_false_iff] at hi;have e1:OutD.upD D i 15=D 15:=by unfold OutD.upD;rw[hi.1,Bool.false_or]
 have e2:OutD.upD D i 17=D 17:=by unfold OutD.upD;rw[hi.2,Bool.false_or]
 unfold T16 at hT⊢;rw[e1,e2];exact hT
theorem T16.low (hT:T16 wr X vg h ys n D w) (hd:D 15=false):Bl wr w:=by
 rcases hT with ⟨-,h1⟩|⟨W,y,-,-,h2,-⟩
 ·exact h1
 rw[hd] at h2;cases h2
theorem T16.mid (hT:T16 wr X vg h ys n D w) (h1:D 15=true) (h2:D 17=false):∃W y,Bl wr W/\W.ownsRow wr.heap.size 5 1 y n (ys.map (Value.int .u8))/\w=W.setCell ⟨X,1,none⟩ y:=by
 rcases hT with ⟨q,-⟩|⟨W,y,q1,q2,-,⟨-,q3⟩|⟨q3,-⟩⟩
 ·rw[h1] at q;cases q
 ·exact ⟨W,y,q1,q2,q3⟩
 rw[h2] at q3;cases q3
theorem T16.ends (hT:T16 wr X vg h ys n D w) (h1:D 15=true) (h2:D 17=true):∃W y,Bl wr W/\W.ownsRow wr.heap.size 5 1 y n (ys.map (Value.int .u8))/\w=(W.setCell ⟨X,1,none⟩ y).setCell ⟨vg,h,none⟩ (.bool true):=by
 rcases hT with ⟨q,-⟩|⟨W,y,q1,q2,-,⟨q3,-⟩|⟨-,q3⟩⟩
 ·rw[h1] at q;cases q
 ·rw[h2] at q3;cases q3
 exact ⟨W,y,q1,q2,q3⟩
theorem T16.at (hT:T16 wr X vg h ys n D w) {p:Addr} (hc:wr.cell? p=some v) (h1:p.block≠X) (h2:p.block≠vg):w.cell? p=some v:=by
 have hb:∀{W:World},Bl wr W->W.cell? p=some v:=fun hb=>(hb.cell (cell_there hc).1).trans hc
 have e1:∀(W:World) (y:Value),(W.setCell ⟨X,1,none⟩ y).heap[p.block]?=W.heap[p.block]?:=fun W y=>heap_setCell_other W _ p.block y h1
 rcases hT with ⟨-,q⟩|⟨W,y,q1,-,-,⟨-,rfl⟩|⟨-,rfl⟩⟩
 ·exact hb q
 ·exact (World.cell?_of_block (e1 W y)).trans (hb q1)
 exact (World.cell?_of_block ((heap_setCell_other _ _ p.block _ h2).trans (e1 W y))).trans (hb q1)
end
theorem rest_lo {n c k:Nat} {xs:List Int} (h:URow w (.slice (some ⟨g,0,none⟩) n c) xs) (hk:k<=n):URow w (.slice (if c=k then some ⟨g,0,none⟩ else some ⟨g,k,none⟩) (n-k) (c-k)) (xs.drop k):=by
 obtain ⟨pa,cap,e,h2,h3,h4,h5⟩:=h;simp only[Value.slice.injEq] at e;obtain ⟨rfl,rfl,rfl⟩:=e;have hl:(xs.drop k).length=xs.length-k:=List.length_drop ..;refine ⟨_,_,by rw[hl],by rw[hl];omega,om,fun q=>?_,fun hp=>?_⟩
 ·split at q<;>cases q
 rw[hl] at hp;obtain ⟨b,o,e2,hb,hc⟩:=h5 om;simp only[Option.some.injEq,Addr.mk.injEq,and_true] at e2;obtain ⟨rfl,rfl⟩:=e2;rw[if_neg om];refine ⟨_,_,rfl,hb,fun j z hj=>?_⟩;have:=hc (k+j) z (by rw[List.getElem?_drop] at hj;exact hj)
 rwa [show 0+(k+j)*1=k+j*1 by omega] at this
theorem one_put {a:Value} {t:TypeId} (v:Value) (h:w.heap[g]?=some (.cells #[a] t (0,0))):(w.setCell ⟨g,0,none⟩ v).heap[g]?=some (.cells #[v] t (0,0)):=by
 exact heap_setCell_same w g 0 _ t v h
theorem take_bit {w4:World} {X:Nat} {g8 gv:Nat} {a b c:Int} {S:Nat->Prop} (hP:PktB base w X x r v f m fs) (hA:w.heap[g8]?=some (.cells #[.int .i64 a] 3 (0,0))) (hN:Bx2 w gv b c) (hF:Fr (fun q=>S q\/q=g8) w4 w) (hs:∀q,PS X r v f m fs q->q≠g8) (hg:gv≠g8) (n:Nat) (a':Int):
 PktB base ((w.drewN n).setCell ⟨g8,0,none⟩ (.int .i64 a')) X x r v f m fs/\((w.drewN n).setCell ⟨g8,0,none⟩ (.int .i64 a')).heap[g8]?=some (.cells #[.int .i64 a'] 3 (0,0))/\Bx2 ((w.drewN n).setCell ⟨g8,0,none⟩ (.int .i64 a')) gv b c/\Fr (fun q=>S q\/q=g8) w4 ((w.drewN n).setCell ⟨g8,0,none⟩ (.int .i64 a')):=by
 have hb:=below_drewN (Below.refl w.heap.size w) n;refine ⟨(hP.below hb).kept fun q e=>heap_setCell_other _ _ q _ (by show q≠g8;exact hs q e),one_put _ ((hb.block _ (lt_some hA)).trans hA),?_,(hF.trans (Fr.of_below hb)).set (.inl (.inr rfl)) _⟩;exact (heap_setCell_other _ _ gv _ (by show gv≠g8;exact hg)).trans (hN.below hb)
theorem takeA_any {X:Nat} {w0:World} (s:PgS) {p:Prg} (hp:PgOk w0 s p) (hlow:Bl w0 w) (hbs:w0.heap.size<=base) (hP:PktB base w X x r v f m fs) (hF:PktF p x) (hd:HdOk p) (h:Nat) (hh:h<p.heads.length) (hr:x.rest.length<=1000000) (_hhn:p.heads.length<=1000000):
 Calls Tryz.prog 26 #[pgV s, .pointer (some ⟨X,0,none⟩), .int .i64 (h:Int)] w fun e w'=>TakeR p base w X x h r v f m fs e w':=by
 have hvl:h<x.valid.length:=by rw[hF.v];exact hh
 have hfl:h<x.fields.length:=by rw[hF.f];exact hh
 obtain ⟨l,hl⟩:∃l,x.fields[h]?=some l:=⟨_,gE_ hfl⟩;obtain ⟨vb,hvb⟩:∃b,x.valid[h]?=some b:=⟨_,gE_ hvl⟩;obtain ⟨ws,hws⟩:∃ws,p.heads[h]?=some ws:=⟨_,gE_ hh⟩;obtain ⟨hw,h8,h0,h256,hl16⟩:=hd.w h ws hws;have HWP:Hd (0<sumI ws):=hd.pos h ws hws;have hwd:=wdsP_some hws;have hlw:l.length=ws.length:=by rw[hF.fl h l hl];exact congrArg List.length hwd
 obtain ⟨vg,vc,rfl,hvg,hv0⟩:=hP.getValid hvb;obtain ⟨fg,fc,u,rfl,hfg,hf0,hu,hnu⟩:=hP.getRow hl;obtain ⟨ru,nu,cu,rfl⟩:=own_sh3 hnu.1;obtain ⟨rp,rn,rc,rfl⟩:=own_sh3 hP.hr;obtain rfl:nu=l.length:=by have:=hnu.1;obtain ⟨-,⟨q,q2⟩|⟨g,cap,cur,q,-⟩⟩:=this<;>(simp only[Value.slice.injEq] at q;omega)
 obtain rfl:rn=x.rest.length:=by have:=hP.hr;obtain ⟨-,⟨q,q2⟩|⟨g,cap,cur,q,-⟩⟩:=this<;>(simp only[Value.slice.injEq] at q;omega)
 obtain ⟨xb,xo,lp,ln,lc,hps,hxb,z0,hz⟩:=IsRow.el hp.heads (j:=h) hh;have hz:IRow w0 (.slice lp ln lc) (wdsP p h):=hz;obtain rfl:ln=ws.length:=by have:=hz.ln.1;rw[hwd] at this;exact this
 have hhi:(h:Int)<(s.hn:Int):=by have:=hp.heads.ln.1;omega
 have HP:=hD hP;have HF:=hD hF;have HLOW:=hD hlow;have HBS:=hD hbs;have HPG:=hD hp;have HD:=hD hd;have HSZ:Hd (∀ W,Bl w W->CR 60 #[pgV s, .int .i64 (h:Int)] W (.int .i64 (sizeP p h))):=fun W hb=>sizeA_any s p h W ((hp.below hlow).below hb) hh hd
 have HOI:Hd (∀ W,Bl w W->CR 58 #[pgV s, .int .i64 (h:Int)] W (.slice lp ws.length lc)):=fun W hb=>widthsA_any s W hhi hps (((hlow.trans (hb.mono hlow.size)).cell (p:=⟨xb,xo+h,none⟩) hxb).trans z0)
 have HOH:Hd (∀ W,Bl w W->CR 61 #[.slice lp ws.length lc] W (.bool true)):=fun W hb=>wholeA_any p h lp ws.length lc W (hz.below keepI (hlow.trans (hb.mono hlow.size))) hh hd
 have HHAS:Hd (∀ W,Bl w W->CR 57 #[.pointer (some ⟨X,0,none⟩), .int .i64 (h:Int)] W (.bool true)):=fun W hb=>has_true (hP.below hb) h hvl hfl
 have HXC:Hd (∀ W,Bl w W->Cl W X 1 (.slice rp x.rest.length rc)/\Cl W X 2 (.slice (some ⟨vg,0,none⟩) x.valid.length vc)/\Cl W X 3 (.slice (some ⟨fg,0,none⟩) x.fields.length fc)/\Cl W vg h (.bool vb)/\Cl W fg h (.slice ru l.length cu)):=fun W hb=>⟨(hP.below hb).cell (i:=1) rfl,(hP.below hb).cell (i:=2) rfl,(hP.below hb).cell (i:=3) rfl,(hb.cell (cell_there hv0).1).trans hv0,(hb.cell (cell_there hf0).1).trans hf0⟩
 have HSP:Hd (sizeP p h=sumI ws/8):=by show _=_;unfold sizeP;rw[hwd];exact Int.tdiv_eq_ediv_of_nonneg h0
 have HTK:Hd (∀ e w',((vb=true\/(x.rest.length:Int)<sizeP p h)->e= .returned (.bool false)/\PktB base w' X x (.slice rp x.rest.length rc) (.slice (some ⟨vg,0,none⟩) x.valid.length vc) (.slice (some ⟨fg,0,none⟩) x.fields.length fc) m fs/\Fr (PS X (.slice rp x.rest.length rc) (.slice (some ⟨vg,0,none⟩) x.valid.length vc) (.slice (some ⟨fg,0,none⟩) x.fields.length fc) m fs) w w')->(¬ (vb=true\/(x.rest.length:Int)<sizeP p h)->e= .returned (.bool true)/\(∃ r',PktB base w' X (tookP p x h) r' (.slice (some ⟨vg,0,none⟩) x.valid.length vc) (.slice (some ⟨fg,0,none⟩) x.fields.length fc) m fs)/\Fr (PS X (.slice rp x.rest.length rc) (.slice (some ⟨vg,0,none⟩) x.valid.length vc) (.slice (some ⟨fg,0,none⟩) x.fields.length fc) m fs) w w')->TakeR p base w X x h (.slice rp x.rest.length rc) (.slice (some ⟨vg,0,none⟩) x.valid.length vc) (.slice (some ⟨fg,0,none⟩) x.fields.length fc) m fs e w'):=fun e w' h1 h2=>by
  have e1:x.valid.getD h false=vb:=by rw[List.getD_eq_getElem?_getD,hvb];rfl
  unfold TakeR takeP;rw[e1];by_cases hc:vb=true\/(x.rest.length:Int)<sizeP p h
  ·rw[if_pos hc];exact h1 hc
  ·rw[if_neg hc];exact h2 hc
 have i1:(h:Int)<(x.valid.length:Int):=om;have i2:(h:Int)<(x.fields.length:Int):=om;have HLW:=hD hlw;have HWS:=hD hw;have HWD:=hD hwd;have HZ:=hD hz;have HL:=hD hl;have HVB:=hD hvb;have HU:=hD (And.intro hu hnu);have hl16':ws.length<=16:=hl16;have HS0:Hd (0<=sumI ws/\sumI ws<=256/\sumI ws%8=0):=⟨h0,h256,h8⟩;clear hvl hfl hl hvb hws hd hw h8 h0 h256 hl16 hwd hlw hvg hv0 hfg hf0 hu hnu hps hxb z0 hz hp hlow hbs hP hF hh _hhn;refine Calls.mono (R:=fun e w'=>((vb=true\/(x.rest.length:Int)<sizeP p h)->e= .returned (.bool false)/\PktB base w' X x (.slice rp x.rest.length rc) (.slice (some ⟨vg,0,none⟩) x.valid.length vc) (.slice (some ⟨fg,0,none⟩) x.fields.length fc) m fs/\Fr (PS X (.slice rp x.rest.length rc) (.slice (some ⟨vg,0,none⟩) x.valid.length vc) (.slice (some ⟨fg,0,none⟩) x.fields.length fc) m fs) w w')/\(¬ (vb=true\/(x.rest.length:Int)<sizeP p h)->e= .returned (.bool true)/\(∃ r',PktB base w' X (tookP p x h) r' (.slice (some ⟨vg,0,none⟩) x.valid.length vc) (.slice (some ⟨fg,0,none⟩) x.fields.length fc) m fs)/\Fr (PS X (.slice rp x.rest.length rc) (.slice (some ⟨vg,0,none⟩) x.valid.length vc) (.slice (some ⟨fg,0,none⟩) x.fields.length fc) m fs) w w')) ?_ fun e w' hq=>HTK.o e w' hq.1 hq.2
 clear HTK;obtain ⟨SZ,hSZ⟩:=nm (sizeP p h);rw[<- hSZ] at HSZ HSP⊢;have hsz32:0<=SZ/\SZ<=32:=by rw[HSP.o];have:=HS0.o;omega
 have HSZE:=hD hSZ;clear hSZ;unfold pgV at HSZ HOI⊢;go_enter Tryz.func26,Tryz.ntmps26;go_upto_region 1 with fail;obtain ⟨W0,hW0⟩:=nm ((w.alloc (.cells (pA s) 33)).alloc (.cells #[.pointer (some ⟨X,0,none⟩)] 89));have HB0:Hd (Bl w W0):=by show Below _ _ _;rw[hW0];exact bL
 have HG0:Hd (GBox W0 w.heap.size s):=by show _=_;rw[hW0,Below.heap_alloc _ _ _ sm];exact heap_new _ _
 have HQ0:Hd (W0.heap[w.heap.size+1]?=some (.cells #[.pointer (some ⟨X,0,none⟩)] 89 (0,0))):=by
  exact gZ
 have HZ0:Hd (W0.heap.size=w.heap.size+1+1):=by show _=_;rw[hW0];simp
 rw[<- hW0];clear hW0;have HCA:Hd (∀ W,Bl W0 W->Pgc W w.heap.size s/\Cl W (w.heap.size+1) 0 (.pointer (some ⟨X,0,none⟩))):=fun W hb=>by
  have hg:GBox W w.heap.size s:=(hb.block _ (lt_some HG0.o)).trans HG0.o;have hq:=(hb.block _ (lt_some HQ0.o)).trans HQ0.o;exact ⟨hg.cells,by simp[World.cell?,hq]⟩
 obtain ⟨⟨q0,q1,q2,q3,q4,q5,q6,q7,q8,q9,q10,q11⟩,b0⟩:=HCA.o W0 br;go_upto_region 2 with (go_at_call 60;refine (HSZ.o _ HB0.o).mono ?_;rintro e w1 ⟨rfl,hb1⟩;have HB1:Hd (Bl W0 w1):=hb1;clear hb1);have HCE:Hd (∀ W,Bl w1 W->Pgc W w.heap.size s/\Cl W (w.heap.size+1) 0 (.pointer (some ⟨X,0,none⟩))/\Cl W X 1 (.slice rp x.rest.length rc)/\Cl W X 2 (.slice (some ⟨vg,0,none⟩) x.valid.length vc)/\Cl W X 3 (.slice (some ⟨fg,0,none⟩) x.fields.length fc)/\Cl W vg h (.bool vb)/\Cl W fg h (.slice ru l.length cu)):=fun W hb=>by
  have hb2:=HB1.o.trans (hb.mono HB1.o.size);obtain ⟨c1,c2⟩:=HCA.o W hb2;exact ⟨c1,c2,HXC.o W (HB0.o.trans (hb2.mono HB0.o.size))⟩
 have HHAS:=hD fun W (hb:Bl w1 W)=>HHAS.o W ((HB0.o.trans (HB1.o.mono HB0.o.size)).trans (hb.mono (HB0.o.trans (HB1.o.mono HB0.o.size)).size))
 have HOI:=hD fun W (hb:Bl w1 W)=>HOI.o W ((HB0.o.trans (HB1.o.mono HB0.o.size)).trans (hb.mono (HB0.o.trans (HB1.o.mono HB0.o.size)).size))
 have HOH:=hD fun W (hb:Bl w1 W)=>HOH.o W ((HB0.o.trans (HB1.o.mono HB0.o.size)).trans (hb.mono (HB0.o.trans (HB1.o.mono HB0.o.size)).size))
 clear q0 q1 q2 q3 q4 q5 q6 q7 q8 q9 q10 q11 b0;rw[HLW.o] at HCE;cases vb
 ·skip;refine roB w1 ?_;refine sq (fun aa ww ll hh=>by have:=hh.oL 4;exact ov (fC (HCE.o ww hh.inv))) ?_;refine sq (fun aa ww ll hh=>by exact ov (xmv (hh.oL 2))) ?_;refine ⟨.eq (.bool true),trivial,rfl,fun aa ww ll hh=>?_,?_⟩
  ·exact gU3
  refine sq (fun aa ww ll hh=>by have:=hh.gt 2 0;exact ov gX) ?_;refine stm 3 0 ?_;refine sq (fun aa ww ll hh=>by have:=hh.oL 3;exact hh.og 0 (fC (HCE.o ww hh.inv))) ?_;refine sq (fun aa ww ll hh=>by exact hh.og 1 (xmv (hh.oL 2))) ?_;refine ⟨.eq (.slice lp ws.length lc),trivial,rfl,fun aa ww ll hh=>?_,?_⟩
  ·have e21:=hh.gt 5 1;have e22:=hh.gt 6 0;exact gB2
  refine ⟨.eq (.bool true),trivial,rfl,fun aa ww ll hh=>?_,?_⟩
  ·exact gP4
  refine sq (fun aa ww ll hh=>by have:=hh.gt 8 0;exact hh.og 4 gX) ?_;refine sq (fun aa ww ll hh=>by have:=hh.gt 4 5;have:=hh.gt 9 0;have ec:=evc aa;exact ov gX) ?_;refine stm 10 0 ?_;refine sq (fun aa ww ll hh=>by have:=hh.oL 3;exact hh.og 0 (fC (HCE.o ww hh.inv))) ?_;refine sq (fun aa ww ll hh=>by exact hh.og 1 (xmv (hh.oL 2))) ?_;refine ⟨.eq (.slice lp ws.length lc),trivial,rfl,fun aa ww ll hh=>?_,?_⟩
  ·have e28:=hh.gt 12 1;have e29:=hh.gt 13 0;exact gB2
  refine sq (fun aa ww ll hh=>by have:=hh.gt 14 0;exact hh.og 3 (fC (HCE.o ww hh.inv))) ?_;refine sq (fun aa ww ll hh=>by have:=hh.oL 4;exact hh.og 4 (fC (HCE.o ww hh.inv))) ?_;refine sq (fun aa ww ll hh=>by have:=hh.gt 16 0;exact hh.og 5 gX) ?_;refine sq (fun aa ww ll hh=>by have:=hh.gt 17 0;exact hh.og 6 gX) ?_;refine sq (fun aa ww ll hh=>by have:=hh.gt 18 0;exact hh.og 7 (fC (HCE.o ww hh.inv))) ?_;refine sq (fun aa ww ll hh=>by exact hh.og 8 (xmv (hh.oL 2))) ?_;refine sq (fun aa ww ll hh=>by have:=hh.gt 19 1;have:=hh.gt 20 0;exact hh.og 9 gX) ?_;refine sq (fun aa ww ll hh=>by have:=hh.gt 21 0;exact hh.og 10 (fC (HCE.o ww hh.inv))) ?_;refine sq (fun aa ww ll hh=>by have:=hh.gt 22 0;exact hh.og 11 (fC (HCE.o ww hh.inv))) ?_;refine sq (fun aa ww ll hh=>by have:=hh.gt 15 8;have:=hh.gt 23 0;exact hh.og 12 gX) ?_;refine sq (fun aa ww ll hh=>by have:=hh.gt 11 13;have:=hh.gt 24 0;have ec:=evc aa;exact ov gX) ?_;refine stm 25 0 ?_;refine sq (fun aa ww ll hh=>by have:=hh.oL 4;exact hh.og 0 (fC (HCE.o ww hh.inv))) ?_;refine sq (fun aa ww ll hh=>by have:=hh.gt 27 0;exact hh.og 1 gX) ?_;refine sq (fun aa ww ll hh=>by have:=hh.gt 28 0;exact hh.og 2 gX) ?_;refine sq (fun aa ww ll hh=>by have:=hh.gt 29 0;exact hh.og 3 (fC (HCE.o ww hh.inv))) ?_;refine sq (fun aa ww ll hh=>by exact hh.og 4 (xmv (hh.oL 2))) ?_;refine sq (fun aa ww ll hh=>by have:=hh.gt 30 1;have:=hh.gt 31 0;exact hh.og 5 gX) ?_;refine sq (fun aa ww ll hh=>by have:=hh.gt 32 0;exact hh.og 6 (fC (HCE.o ww hh.inv))) ?_;refine sq (fun aa ww ll hh=>by have:=hh.gt 26 7;have:=hh.gt 33 0;have ec:=evc aa;exact ov gX) ?_;refine stm 34 0 ?_;refine sq (fun aa ww ll hh=>by exact hh.og 0 (xmv (hh.oL 7))) ?_;refine sq (fun aa ww ll hh=>by have:=hh.oL 4;exact hh.og 1 (fC (HCE.o ww hh.inv))) ?_;refine sq (fun aa ww ll hh=>by have:=hh.gt 37 0;exact hh.og 2 gX) ?_;refine sq (fun aa ww ll hh=>by have:=hh.gt 38 0;exact hh.og 3 gX) ?_;refine sq (fun aa ww ll hh=>by have:=hh.gt 39 0;exact hh.og 4 (fC (HCE.o ww hh.inv))) ?_;refine sq (fun aa ww ll hh=>by have:=hh.gt 40 0;exact hh.og 5 (fC (HCE.o ww hh.inv))) ?_;refine sq (fun aa ww ll hh=>by have:=hh.gt 36 5;have:=hh.gt 41 0;exact hh.og 6 gX) ?_;refine sq (fun aa ww ll hh=>by have:=hh.gt 35 7;have:=hh.gt 42 0;have ec:=evc aa;exact ov gX) ?_;intro ll w2 hS hok;clear hok;simp only[ly];have HW2:=hD (HB1.o.trans (hS.mono HB1.o.size));have HB2:=hD (HB0.o.trans (HW2.o.mono HB0.o.size));have HS1:Hd (Bl w1 w2):=hS;clear hS;by_cases hlt:(x.rest.length:Int)<SZ
  ·go_wp2_with fail;go_ret;exact ⟨fun _=>⟨rfl,HP.o.below HB2.o,Fr.of_below HB2.o⟩,fun q=>absurd (.inr hlt) q⟩
  have hge:SZ<=(x.rest.length:Int):=om;skip;obtain ⟨⟨q0,q1,q2,q3,q4,q5,q6,q7,q8,q9,q10,q11⟩,b0⟩:=HCA.o w2 HW2.o;go_upto_region 6 with fail;obtain ⟨W3,hW3⟩:=nm (w2.alloc (.cells #[.int .i64 0] 3));have hb3:Bl w2 W3:=by rw[hW3];exact br.alloc lr _
  have HA3:Hd (W3.heap[w2.heap.size]?=some (.cells #[.int .i64 0] 3 (0,0))):=by show _=_;rw[hW3];exact heap_new _ _
  rw[<- hW3];clear hW3;have HW3:=hD (HW2.o.trans (hb3.mono HW2.o.size));have HV3:=hD (HS1.o.trans (hb3.mono HS1.o.size));have HG8:Hd (W0.heap.size<=w2.heap.size):=HW2.o.size;clear hb3 q0 q1 q2 q3 q4 q5 q6 q7 q8 q9 q10 q11 b0;obtain ⟨⟨q0,q1,q2,q3,q4,q5,q6,q7,q8,q9,q10,q11⟩,b0⟩:=HCA.o W3 HW3.o;generalize w2.heap.size=g8 at*;clear HW2 HB2 HS1;go_upto_region 7 with (go_at_call 58;refine (HOI.o _ HV3.o).mono ?_;rintro e w4 ⟨rfl,hb4⟩;have HB4:=hD hb4;have HW4:=hD (HW3.o.trans (hb4.mono HW3.o.size));have HA4:Hd (w4.heap[g8]?=some (.cells #[.int .i64 0] 3 (0,0))):=(hb4.block _ (lt_some HA3.o)).trans HA3.o;clear hb4);clear q0 q1 q2 q3 q4 q5 q6 q7 q8 q9 q10 q11 b0;have HB04:=hD (HB0.o.trans (HW4.o.mono HB0.o.size));have HP4:Hd (PktB base w4 X x (.slice rp x.rest.length rc) (.slice (some ⟨vg,0,none⟩) x.valid.length vc) (.slice (some ⟨fg,0,none⟩) x.fields.length fc) m fs):=HP.o.below HB04.o;have HPS:Hd (∀ q,PS X (.slice rp x.rest.length rc) (.slice (some ⟨vg,0,none⟩) x.valid.length vc) (.slice (some ⟨fg,0,none⟩) x.fields.length fc) m fs q->base<=q/\q<w.heap.size):=fun q e=>HP.o.blk e
  have hw8:w.heap.size<g8:=by have:=HG8.o;have:=HZ0.o;omega
  have HRG:Hd (∀ W:World,Fr (fun q=>PS X (.slice rp x.rest.length rc) (.slice (some ⟨vg,0,none⟩) x.valid.length vc) (.slice (some ⟨fg,0,none⟩) x.fields.length fc) m fs q\/q=g8) w4 W->Bl w0 W/\(Cl W (w.heap.size+1) 0 (.pointer (some ⟨X,0,none⟩)))):=fun W hf=>by
   have h4:=HLOW.o.trans (HB04.o.mono HLOW.o.size);refine ⟨h4.trans (hf.below h4.size fun q e=>?_),?_⟩
   ·have:=HBS.o;have:=HLOW.o.size;rcases e with e|rfl
    ·have:=(HPS.o q e).1;omega
    ·omega
   ·refine hf.cell (p:=⟨w.heap.size+1,0,none⟩) (fun e=>?_) (HCA.o w4 HW4.o).2;have:=HG8.o;have:=HZ0.o;rcases e with e|e
    ·have:=(HPS.o _ e).2;have e2:w.heap.size+1<w.heap.size:=this;omega
    ·have e2:w.heap.size+1=g8:=e;omega
  go_loopw [65] (fun u wr=>∃k:Nat,k<=ws.length/\u= .int .i64 k/\Hd (PktB base wr X (xK x h l ws k) (.slice rp x.rest.length rc) (.slice (some ⟨vg,0,none⟩) x.valid.length vc) (.slice (some ⟨fg,0,none⟩) x.fields.length fc) m fs)/\Hd (wr.heap[g8]?=some (.cells #[.int .i64 (offN ws k:Nat)] 3 (0,0)))/\Hd (Fr (fun q=>PS X (.slice rp x.rest.length rc) (.slice (some ⟨vg,0,none⟩) x.valid.length vc) (.slice (some ⟨fg,0,none⟩) x.fields.length fc) m fs q\/q=g8) w4 wr)) (fun u _=>ws.length-(intOf u).toNat)
  case atStart=>exact ⟨0,zl,rfl,by rw[xK_zero HL.o];exact HP4.o,HA4.o,Fr.refl _ _⟩
  case round=>
   obtain ⟨k,hk,rfl,HPK,HAK,HFK⟩:=hrel;obtain ⟨hlk,hbk⟩:=HRG.o wr HFK.o;by_cases hlk2:k<ws.length
   ·have hki:(k:Int)<(ws.length:Int):=om;obtain ⟨wb,wo,hps1,hwb,z1⟩:=IRow.el (HZ.o.below keepI hlk) (j:=k) (by rw[HWD.o];exact hlk2);obtain ⟨wn,hwn,hwn1⟩:∃n:Nat,ws.getD k 0=(n:Int)/\n<129:=by
     have hg:ws.getD k 0=ws[k]:=by rw[List.getD_eq_getElem?_getD,gE_ hlk2];rfl
     have:=HWS.o _ (List.getElem_mem hlk2);exact ⟨(ws[k]).toNat,by rw[hg];omega,om⟩
    have hz2:(wdsP p h).getD k 0=(wn:Int):=by rw[HWD.o];exact hwn
    rw[hz2] at z1;have HWN:=hD hwn;have HPSQ:=hD hps1;subst hps1;clear hlk hz2 hwn hwb;go_upto_region 10 with fail;obtain ⟨W5,hW5⟩:=nm (wr.alloc (.cells #[.int .u64 0, .int .u64 0] 82));have hb5:Bl wr W5:=by rw[hW5];exact br.alloc lr _
    have HN5:Hd (Bx2 W5 wr.heap.size 0 0):=by show _=_;rw[hW5];exact heap_new _ _
    rw[<- hW5];clear hW5;have HF5:Hd (Fr (fun q=>PS X (.slice rp x.rest.length rc) (.slice (some ⟨vg,0,none⟩) x.valid.length vc) (.slice (some ⟨fg,0,none⟩) x.fields.length fc) m fs q\/q=g8) w4 W5):=HFK.o.trans (Fr.of_below hb5);have HP5:Hd (PktB base W5 X (xK x h l ws k) (.slice rp x.rest.length rc) (.slice (some ⟨vg,0,none⟩) x.valid.length vc) (.slice (some ⟨fg,0,none⟩) x.fields.length fc) m fs):=HPK.o.below hb5;have HA5:Hd (W5.heap[g8]?=some (.cells #[.int .i64 (offN ws k:Nat)] 3 (0,0))):=(hb5.block _ (lt_some HAK.o)).trans HAK.o;have HGV:Hd (g8<wr.heap.size/\w.heap.size<wr.heap.size):=by have h1:=lt_some HAK.o;exact ⟨h1,om⟩
    have HG4:Hd (w4.heap.size<=wr.heap.size):=HFK.o.size;clear hb5;generalize wr.heap.size=gv at*;obtain ⟨at0,hat0⟩:=nm (offN ws k);rw[<- hat0] at HA5;have HBD:Hd (∀ j:Nat,j<wn->(at0+j)/8<x.rest.length/\at0+j<=256):=fun j hj=>by
     have h1:=offN_lt HWS.o hlk2 (j:=j) (by rw[HWN.o];omega);rw[<- hat0] at h1;have:=HS0.o;have h3:=HSP.o;omega
    have HAT:=hD hat0;have HXR:Hd ((xK x h l ws k).rest=x.rest):=rfl;clear z1 hat0;go_wp2_with fail;go_loopw [71] (fun u wq=>∃j:Nat,j<=wn/\u= .int .i64 j/\Hd (PktB base wq X (xK x h l ws k) (.slice rp x.rest.length rc) (.slice (some ⟨vg,0,none⟩) x.valid.length vc) (.slice (some ⟨fg,0,none⟩) x.fields.length fc) m fs)/\Hd (wq.heap[g8]?=some (.cells #[.int .i64 (at0+j:Nat)] 3 (0,0)))/\Hd (Bx2 wq gv ((bitsN x.rest at0 j/B:Nat):Int) ((bitsN x.rest at0 j%B:Nat):Int))/\Hd (Fr (fun q=>PS X (.slice rp x.rest.length rc) (.slice (some ⟨vg,0,none⟩) x.valid.length vc) (.slice (some ⟨fg,0,none⟩) x.fields.length fc) m fs q\/q=g8) w4 wq)) (fun u _=>wn-(intOf u).toNat)
    case atStart=>exact ⟨0,zl,rfl,HP5.o,HA5.o,by rw[show bitsN x.rest at0 0=0 from rfl,Nat.zero_div,Nat.zero_mod];exact HN5.o,HF5.o⟩
    case round=>
     obtain ⟨j,hj,rfl,HPJ,HAJ,HNJ,HFJ⟩:=hrel;obtain ⟨-,b0⟩:=HRG.o wr HFJ.o;obtain ⟨d0,d1,l0,l1⟩:=HNJ.o.cells;by_cases hjl:j<wn
     ·have hji:(j:Int)<(wn:Int):=om;obtain ⟨hb8,ha8⟩:=HBD.o j hjl;obtain ⟨n,hn⟩:=nm (bitsN x.rest at0 j);have hnB:n<B*B:=by
       exact gC5
      obtain ⟨bt,hbt⟩:=nm (bitP x.rest (at0+j));have hbt2:bt<2:=by rw[hbt];exact bitP_lt _ _
      obtain ⟨n1,hn1⟩:=nm (n*2 ^ sh 1%(B*B)%2 ^ sh 128);have hn1B:n1<B*B:=by rw[hn1];exact Nat.lt_of_le_of_lt (Nat.mod_le _ _) (Nat.mod_lt _ (by unfold B;omega))
      have HSU:Hd (bitsN x.rest at0 (j+1)=n1 ||| bt):=by show _=_;rw[hn1,hn,hbt];rfl
      have HSH:Hd (∀ W,CR 64 #[.agg #[.int .u64 ((n/B:Nat):Int), .int .u64 ((n%B:Nat):Int)], .int .i64 1, .int .i64 128] W (numV n1)):=fun W=>by rw[hn1];exact numShl_any n 1 128 W hnB
      have HOF:Hd (∀ W,CR 65 #[.int .u64 (bt:Int)] W (numV bt)):=fun W=>numOf_any bt (by unfold B;omega) W
      obtain ⟨y0,hy0⟩:∃y:Int,y=(((n1 ||| bt)/B:Nat):Int):=⟨_,rfl⟩;obtain ⟨y1,hy1⟩:∃y:Int,y=(((n1 ||| bt)%B:Nat):Int):=⟨_,rfl⟩;have HOO:Hd (∀ W,CR 63 #[numV n1,numV bt] W (.agg #[.int .u64 y0, .int .u64 y1])):=fun W=>by rw[hy0,hy1];exact numOr_any n1 bt W hn1B (by unfold B;omega)
      have HBI:Hd (∀ W,PktB base W X (xK x h l ws k) (.slice rp x.rest.length rc) (.slice (some ⟨vg,0,none⟩) x.valid.length vc) (.slice (some ⟨fg,0,none⟩) x.fields.length fc) m fs->Cl W (w.heap.size+1) 0 (.pointer (some ⟨X,0,none⟩))->W.heap[g8]?=some (.cells #[.int .i64 (at0+j:Nat)] 3 (0,0))->Calls Tryz.prog 62 #[.pointer (some ⟨w.heap.size+1,0,none⟩), .pointer (some ⟨g8,0,none⟩)] W fun e w'=>e= .returned (.int .u64 (bt:Int))/\∃q,w'=(W.drewN q).setCell ⟨g8,0,none⟩ (.int .i64 ((at0+j+1:Nat):Int))):=fun W h1 h2 h3=>by
       rw[hbt];exact bitA_any h1 (w.heap.size+1) g8 (at0+j) h2 (by simp[World.cell?,h3]) (by simp[World.frozen?,h3]) hb8 om
      rw[<- hn] at HNJ d0 d1;have HYY:=hD (And.intro hy0 hy1);clear hn hnB hbt hbt2 hn1 hn1B hb8 ha8 hy0 hy1;go_wp2_with (first
       |(go_at_call 64;refine (HSH.o _).mono ?_;rintro e w6 ⟨rfl,hb6⟩;have HP6:Hd (PktB base w6 X (xK x h l ws k) (.slice rp x.rest.length rc) (.slice (some ⟨vg,0,none⟩) x.valid.length vc) (.slice (some ⟨fg,0,none⟩) x.fields.length fc) m fs):=HPJ.o.below hb6;have HA6:=hD ((hb6.block _ (lt_some HAJ.o)).trans HAJ.o);have HN6:=hD (HNJ.o.below hb6);have HF6:=hD (HFJ.o.trans (Fr.of_below hb6));clear d0 d1 l0 l1 b0 hb6;obtain ⟨-,b0⟩:=HRG.o w6 HF6.o)
       |(go_at_call 62;refine (HBI.o _ HP6.o b0 HA6.o).mono ?_;rintro e w7 ⟨rfl,nq,rfl⟩;obtain ⟨W7,hW7⟩:=nm ((w6.drewN nq).setCell ⟨g8,0,none⟩ (.int .i64 ((at0+j+1:Nat):Int)));have HT7:Hd (PktB base W7 X (xK x h l ws k) (.slice rp x.rest.length rc) (.slice (some ⟨vg,0,none⟩) x.valid.length vc) (.slice (some ⟨fg,0,none⟩) x.fields.length fc) m fs/\W7.heap[g8]?=some (.cells #[.int .i64 (at0+j+1:Nat)] 3 (0,0))/\Bx2 W7 gv ((n/B:Nat):Int) ((n%B:Nat):Int)/\Fr (fun q=>PS X (.slice rp x.rest.length rc) (.slice (some ⟨vg,0,none⟩) x.valid.length vc) (.slice (some ⟨fg,0,none⟩) x.fields.length fc) m fs q\/q=g8) w4 W7):=(by rw[hW7];exact take_bit HP6.o HA6.o HN6.o HF6.o (fun q e=>by have:=(HPS.o q e).2;have:=HGV.o;omega) (by have:=HGV.o;omega) nq _);rw[<- hW7];clear hW7 b0)
       |(go_at_call 65;refine (HOF.o _).mono ?_;rintro e w8 ⟨rfl,hb8⟩;have HB8:=hD hb8;clear hb8)
       |(go_at_call 63;refine (HOO.o _).mono ?_;rintro e w9 ⟨rfl,hb9⟩;have HB9:=hD (HB8.o.trans (hb9.mono HB8.o.size));clear hb9;obtain ⟨hp9,ha9,hn9,hf9⟩:=HT7.o;have HP9:=hD (hp9.below HB9.o);have HA9:=hD ((HB9.o.block _ (lt_some ha9)).trans ha9);have HN9:=hD (hn9.below HB9.o);have HF9:=hD (hf9.trans (Fr.of_below HB9.o));clear hp9 ha9 hn9 hf9;obtain ⟨d0,d1,l0,l1⟩:=HN9.o.cells))
      clear d0 d1 l0 l1;go_roundw
      case rel=>
       refine ⟨j+1,om,by go_num,HP9.o.kept fun q e=>set2_other _ _ _ _ _ _ (by have:=(HPS.o q e).2;have:=HGV.o;omega),(set2_other _ _ _ _ _ _ (by have:=HGV.o;omega)).trans HA9.o,?_,?_⟩
       ·rw[HSU.o, <-HYY.o.1, <-HYY.o.2];exact HN9.o.put y0 y1
       exact (HF9.o.set (.inr HG4.o) _).set (.inr HG4.o) _
      case measure=>exact mz
     obtain rfl:j=wn:=om;have hji:¬(j:Int)<(j:Int):=om;have HFD:Hd (bitsN x.rest at0 j=fldN x.rest ws k):=by show _=_;unfold fldN;rw[HAT.o,HWN.o];rfl
     obtain ⟨n,hn⟩:=nm (bitsN x.rest at0 j);have hnB:n<B*B:=by
      exact gC5
     have hrow:=xK_row HL.o ws k;have htl:(tkF x.rest ws k l).length=l.length:=tkF_len _ _ _ _;obtain ⟨fg',fcp',u',e1,e2,yf,hu',-⟩:=HPJ.o.getRow hrow;obtain rfl:fg=fg':=by simp only[Value.slice.injEq,Option.some.injEq,Addr.mk.injEq,and_true] at e1;exact e1.1
     obtain rfl:u'= .slice ru l.length cu:=by have:=HU.o.1;rw[hu'] at this;exact Option.some.inj this
     obtain ⟨ug,cp9,e3,-,-,hugX,hcp,hfz,⟨y2,hy2⟩,⟨y3,hy3⟩,hPF⟩:=HPJ.o.field (j:=k) (k:=n) HU.o.1 hrow (by rw[htl,HLW.o];exact hlk2) hnB;obtain rfl:ru=some ⟨ug,0,none⟩:=by simp only[Value.slice.injEq] at e3;exact e3.1
     rw[hn,HFD.o,xK_succ, <-HFD.o, <-hn] at hPF;have HPF:=hD hPF;have x3:wr.cell? ⟨X,3,none⟩=some (.slice (some ⟨fg,0,none⟩) x.fields.length fc):=HPJ.o.cell (i:=3) rfl;have hz2:=hfz (k*2);have hz3:=hfz (k*2+1);have hkl9:(k:Int)<(l.length:Int):=by rw[HLW.o];exact hki
     have hh9:(h:Int)<(x.fields.length:Int):=i2;rw[<- hn] at HNJ d0 d1;clear hn hnB hrow htl e1 e2 hu' e3 hcp hfz hPF hugX;go_upto_region 14 with fail;go_region;have hug:PS X (.slice rp x.rest.length rc) (.slice (some ⟨vg,0,none⟩) x.valid.length vc) (.slice (some ⟨fg,0,none⟩) x.fields.length fc) m fs ug:= .inr ⟨.slice (some ⟨ug,0,none⟩) l.length cu,by have:=gM_ HU.o.1;simp[this],rfl⟩;have HUG:=hD hug;clear x3 hz2 hz3 hy2 hy3 d0 d1 l0 l1 b0 hug;go_wp2_with fail;go_roundw
     case rel=>
      refine ⟨k+1,om,by go_num,HPF.o.below (Below.drew br),?_,(((HFJ.o.set (.inl (.inl HUG.o)) _).set (.inl (.inl HUG.o)) _)).trans (Fr.of_below (Below.drew br))⟩;rw[show ∀W:World,W.drew.heap=W.heap from fun _=>rfl,set2_other _ _ _ _ _ _ (by have:=(HPS.o ug HUG.o).2;omega),HAJ.o,offN_succ ws k hlk2,HWN.o,HAT.o];rfl
     case measure=>exact mz
   obtain rfl:k=ws.length:=om;have hki:¬(ws.length:Int)<(ws.length:Int):=om;have hgt:0<SZ:=by rw[HSP.o];have:=HS0.o;have:=HWP.o;omega
   obtain ⟨g9,c9,e9,-,-,-,-⟩:=HPK.o.restAt (k:=0) (by show 0<x.rest.length;omega);obtain rfl:rp=some ⟨g9,0,none⟩:=by simp only[Value.slice.injEq] at e9;exact e9.1
   clear e9;obtain ⟨sz,hsz⟩:∃n:Nat,SZ=(n:Int):=⟨SZ.toNat,om⟩;subst hsz;have hszn:sz<=x.rest.length:=om;have HCX:Hd (∀ W,Bl wr W->Cl W X 1 (.slice (some ⟨g9,0,none⟩) x.rest.length rc)/\W.frozen? ⟨X,1,none⟩=false/\Cl W X 2 (.slice (some ⟨vg,0,none⟩) x.valid.length vc)):=fun W hb=>⟨(HPK.o.below hb).cell (i:=1) rfl,(HPK.o.below hb).free 1,(HPK.o.below hb).cell (i:=2) rfl⟩
   have HCL:Hd (∀ W,Bl wr W->Calls Tryz.prog 35 #[.slice (if rc=sz then some ⟨g9,0,none⟩ else some ⟨g9,sz,none⟩) (x.rest.length-sz) (rc-sz)] W fun e w'=>(∃ y,e= .returned y/\w'.ownsRow W.heap.size 5 1 y (x.rest.length-sz) ((x.rest.drop sz).map (Value.int .u8)))/\Bl W w'):=fun W hb=>by
    have hrow:URow W (.slice (some ⟨g9,0,none⟩) x.rest.length rc) x.rest:=RowAt.of_flat flatU rfl (by rw[flat_u8];exact (HPK.o.below hb).hr);have h1:=cloneO_any _ (x.rest.drop sz) W (rest_lo hrow hszn) (by rw[List.length_drop];omega);rw[List.length_drop] at h1;exact h1
   have hvlt:h<(xK x h l ws ws.length).valid.length:=(gL_ (show x.valid[h]?=some false from HVB.o)).1;obtain ⟨vgE,vcE,ev,hvgb,hvgl,hvgX,hvvc,hvz,⟨yv,hyv⟩,-⟩:=HPK.o.valid (j:=h) true hvlt;obtain rfl:vg=vgE:=by simp only[Value.slice.injEq,Option.some.injEq,Addr.mk.injEq,and_true] at ev;exact ev.1
   have HXG:Hd (X<wr.heap.size/\vg<wr.heap.size/\vg≠X):=⟨HPK.o.lt,hvgl,hvgX⟩;have HPX:Hd (w.heap.size+1≠X/\w.heap.size+1≠vg):=by
    have h1:=(HPS.o X (.inl rfl)).2;have h2:=(HPS.o vg (.inr ⟨.slice (some ⟨vg,0,none⟩) x.valid.length vc,by simp,rfl⟩)).2;exact ⟨om,om⟩
   have HPT:Hd (∀ D W,T16 wr X vg h (x.rest.drop sz) (x.rest.length-sz) D W->Cl W (w.heap.size+1) 0 (.pointer (some ⟨X,0,none⟩))):=fun D W hT=>hT.at hbk HPX.o.1 HPX.o.2
   have HVA:Hd (∀ W (y:Value),Bl wr W->(W.setCell ⟨X,1,none⟩ y).cell? ⟨vg,h,none⟩=some yv/\(W.setCell ⟨X,1,none⟩ y).frozen? ⟨vg,h,none⟩=false):=fun W y hb=>by
    have e:(W.setCell ⟨X,1,none⟩ y).heap[vg]?=W.heap[vg]?:=heap_setCell_other W _ vg y (by show vg≠X;exact hvgX);exact ⟨(World.cell?_of_block (a:=⟨vg,h,none⟩) e).trans ((hb.cell (cell_there hyv).1).trans hyv),(World.frozen?_of_block (a:=⟨vg,h,none⟩) e).trans ((hb.frozen (p:=⟨vg,h,none⟩) hvgl).trans (hvz h))⟩
   have HVE:=hD ev;have HBK9:=hD hbk;clear ev hvgb hvgl hvgX hvvc hvz hyv hbk hvlt;have hvl9:(h:Int)<(x.valid.length:Int):=i1;go_upto_region 16 with fail;refine OutD.region_outD (Fr (fun q=>q=X\/q=vg)) (fun w=>Fr.refl _ w) kq (T16 wr X vg h (x.rest.drop sz) (x.rest.length-sz)) kq (.inl ⟨rfl,Below.drew br⟩) ?_;refine ⟨.eq ?_,trivial,rfl,fun aa ww ll DD hh=>?_,?_⟩;rotate_left
   ·exact gP2
   refine ⟨.eq ?_,trivial,rfl,fun aa ww ll DD hh=>?_,?_⟩;rotate_left
   ·exact gP2
   refine ⟨.eq ?_,trivial,rfl,fun aa ww ll DD hh=>?_,?_⟩;rotate_left
   ·have e92:=hh.get 1 0 kq rfl rfl rfl;exact gM
   refine ⟨.eq ?_,trivial,rfl,fun aa ww ll DD hh=>?_,?_⟩;rotate_left
   ·have e93:=hh.get 2 0 kq rfl rfl rfl;exact gM
   refine ⟨.eq ?_,trivial,rfl,fun aa ww ll DD hh=>?_,?_⟩;rotate_left
   ·have e94:=hh.get 3 0 kq rfl rfl rfl;have hl:=hh.inv.low (hh.clo 15 _ rfl kq);obtain ⟨x1,x1f,x2⟩:=HCX.o ww hl;exact gM
   refine ⟨.eq ?_,trivial,rfl,fun aa ww ll DD hh=>?_,?_⟩;rotate_left
   ·have e2:=(hh.old 2 kq).trans (evalO rfl);simp only[nthO] at e2;refine OutD.out_val (fun w=>Fr.refl _ w) (hh.inv.quiet _ rfl) (wanted_none rfl) ?_;rw[ex_moveO (by first|exact .inl rfl|exact .inr rfl) e2]
   refine ⟨.eq ?_,trivial,rfl,fun aa ww ll DD hh=>?_,?_⟩;rotate_left
   ·exact gP2
   refine ⟨.eq ?_,trivial,rfl,fun aa ww ll DD hh=>?_,?_⟩;rotate_left
   ·have e97:=hh.get 6 0 kq rfl rfl rfl;exact gM
   refine ⟨.eq ?_,trivial,rfl,fun aa ww ll DD hh=>?_,?_⟩;rotate_left
   ·have e98:=hh.get 7 0 kq rfl rfl rfl;exact gM
   refine ⟨.eq ?_,trivial,rfl,fun aa ww ll DD hh=>?_,?_⟩;rotate_left
   ·have e99:=hh.get 8 0 kq rfl rfl rfl;have hl:=hh.inv.low (hh.clo 15 _ rfl kq);obtain ⟨x1,x1f,x2⟩:=HCX.o ww hl;exact gM
   refine ⟨.eq ?_,trivial,rfl,fun aa ww ll DD hh=>?_,?_⟩;rotate_left
   ·have e7:=(hh.old 7 kq).trans (evalO rfl);simp only[nthO] at e7;refine OutD.out_val (fun w=>Fr.refl _ w) (hh.inv.quiet _ rfl) (wanted_none rfl) ?_;rw[ex_moveO (by first|exact .inl rfl|exact .inr rfl) e7]
   refine ⟨.eq ?_,trivial,rfl,fun aa ww ll DD hh=>?_,?_⟩;rotate_left
   ·have e100:=hh.get 9 1 kq rfl rfl rfl;have e101:=hh.get 10 0 kq rfl rfl rfl;exact gM
   refine ⟨.rel (fun W v=>W.ownsRow wr.heap.size 5 1 v (x.rest.length-sz) ((x.rest.drop sz).map (Value.int .u8))),(fun _ _ _ h hr=>own_far h fun k e=>hr.block k (own_size h e).2 fun q=>by have h1:=(own_size h e).1;have h2:=HXG.o;rcases q with q|q<;>omega),rfl,fun aa ww ll DD hh=>?_,?_⟩
   ·have e102:=hh.get 11 0 kq rfl rfl rfl;have ef:∀f,aa.eval (.func f)= .func (.func f) #[] #[]:=fun _=>rfl
    have hl:=hh.inv.low (hh.clo 15 _ rfl kq);have hd15:=hh.clo 15 _ rfl kq;refine OutD.out_call (wanted_none rfl) ?_ ((HCL.o ww hl).mono ?_)
    ·clear hh;generalize aa.eval=ev at e102 ef⊢;go_simp
    rintro e w1 ⟨⟨v,rfl,h1⟩,h2⟩;exact ⟨_,rfl,own_base h1 hl.size,Fr.of_below h2, .inl ⟨hd15,hl.trans (h2.mono hl.size)⟩⟩
   refine ⟨.eq ?_,trivial,rfl,fun aa ww ll DD hh=>?_,?_⟩;rotate_left
   ·have e91:=hh.get 0 12 kq rfl rfl rfl;exact gM
   refine ⟨.eq ?_,trivial,rfl,fun aa ww ll DD hh=>?_,?_⟩;rotate_left
   ·have e104:=hh.get 13 0 kq rfl rfl rfl;exact gM
   refine ⟨.rel (fun _ _=>True),(fun _ _ _ _ _=>trivial),rfl,fun aa ww ll DD hh=>?_,?_⟩
   ·have e105:=hh.get 14 0 kq rfl rfl rfl;obtain ⟨x103,e103,-,p103⟩:=hh.got 12 2 kq rfl rfl rfl;have hl:=hh.inv.low hh.non;have hd17:=hh.clo 17 _ rfl kq;obtain ⟨x1,x1f,x2⟩:=HCX.o ww hl;obtain ⟨yp,yn,yc,rfl⟩:=own_sh3 p103;refine OutD.out_store (wanted_none rfl) (w':=ww.setCell ⟨X,1,none⟩ (.slice yp yn yc)) ?_ ((Fr.refl _ _).set (.inl (.inl rfl)) _) (.inr ⟨ww,_,hl,p103,by rfl, .inl ⟨(by show (decide _||_)=false;rw[hd17];rfl),rfl⟩⟩) trivial;exact gX
   refine ⟨.eq ?_,trivial,rfl,fun aa ww ll DD hh=>?_,?_⟩;rotate_left
   ·have e95:=hh.get 4 11 kq rfl rfl rfl;have e96:=hh.get 5 10 kq rfl rfl rfl;exact gM
   refine ⟨.rel (fun _ _=>True),(fun _ _ _ _ _=>trivial),rfl,fun aa ww ll DD hh=>?_,?_⟩
   ·have e106:=hh.get 16 0 kq rfl rfl rfl;have ec:∀v,aa.eval (.const v)=v:=fun _=>rfl
    have hd15:=hh.don 15 kq;obtain ⟨W,y,q1,q2,rfl⟩:=hh.inv.mid hd15 hh.non;obtain ⟨v1,v1f⟩:=HVA.o W y q1;refine OutD.out_store (wanted_none rfl) (w':=(W.setCell ⟨X,1,none⟩ y).setCell ⟨vg,h,none⟩ (.bool true)) ?_ ((Fr.refl _ _).set (.inl (.inr rfl)) _) (.inr ⟨W,y,q1,q2,(by show (decide _||_)=true;rw[hd15];rfl), .inr ⟨by rfl,rfl⟩⟩) trivial;clear hh q1 q2;generalize W.setCell ⟨X,1,none⟩ y=W15 at*;generalize aa.eval=ev at e106 ec⊢;go_simp;try rfl
   intro ll w16 DD hSD hall hok;clear hok;simp only[List.reverse_cons,List.reverse_nil,List.nil_append,List.cons_append,OutD.layO,OutD.Out.val,Act.put,List.setIfInBounds_toArray,List.set_cons_zero,List.set_cons_succ];obtain ⟨W,y,hbW,hoy,hw'⟩:=hSD.ends (hall 15 dq) (hall 17 dq);clear hSD hall;have HEND:Hd ((∃ r',PktB base w16 X (tookP p x h) r' (.slice (some ⟨vg,0,none⟩) x.valid.length vc) (.slice (some ⟨fg,0,none⟩) x.fields.length fc) m fs)/\Fr (PS X (.slice (some ⟨g9,0,none⟩) x.rest.length rc) (.slice (some ⟨vg,0,none⟩) x.valid.length vc) (.slice (some ⟨fg,0,none⟩) x.fields.length fc) m fs) w w16):=by
    subst hw';have hn:(x.rest.drop sz).length=x.rest.length-sz:=List.length_drop ..;have h1:=(HPK.o.below hbW).newRest (B:=wr.heap.size) (r':=y) (xs:=x.rest.drop sz) (by have:=HPK.o.lo;have:=HPK.o.lt;omega) HPK.o.lt (fun k e=>(HPK.o.blk e).2) (by rw[hn];exact hoy);obtain ⟨vg2,vc2,e2,-,-,-,-,-,-,h2⟩:=h1.valid (j:=h) true (by have:=HVB.o;exact (gL_ this).1);obtain rfl:vg2=vg:=by simp only[Value.slice.injEq,Option.some.injEq,Addr.mk.injEq,and_true] at e2;exact e2.1.symm
    refine ⟨⟨y,?_⟩,?_⟩
    ·have h3:=xK_took (p:=p) HL.o;rw[HWD.o, <-HSZE.o,Int.toNat_natCast] at h3;rw[<- h3];exact h2
    have hX:PS X (.slice (some ⟨g9,0,none⟩) x.rest.length rc) (.slice (some ⟨vg2,0,none⟩) x.valid.length vc) (.slice (some ⟨fg,0,none⟩) x.fields.length fc) m fs X:= .inl rfl;have hV:PS X (.slice (some ⟨g9,0,none⟩) x.rest.length rc) (.slice (some ⟨vg2,0,none⟩) x.valid.length vc) (.slice (some ⟨fg,0,none⟩) x.fields.length fc) m fs vg2:= .inr ⟨.slice (some ⟨vg2,0,none⟩) x.valid.length vc,by simp,rfl⟩;have hf:=((((Fr.of_below HB04.o).trans HFK.o).trans (Fr.of_below hbW)).set (X:=X) (i:=1) (.inl (.inl hX)) y).set (X:=vg2) (i:=h) (.inl (.inl hV)) (.bool true);exact ⟨hf.os,hf.tape,hf.output,hf.size,fun k hk hn=>hf.block k hk fun e=>e.elim hn om⟩
   clear hw' hoy hbW;generalize (if rc=sz then (some ⟨g9,0,none⟩:Option Addr) else some ⟨g9,sz,none⟩)=pp9 at*;go_wp2_with fail;go_ret;first
    |exact ⟨fun q=>absurd q om,fun _=>⟨rfl,HEND.o.1,HEND.o.2⟩⟩
    |exact ⟨fun q=>absurd q om,rfl,HEND.o.1,HEND.o.2⟩
 ·skip;refine roB w1 ?_;refine sq (fun aa ww ll hh=>by have:=hh.oL 4;exact ov (fC (HCE.o ww hh.inv))) ?_;refine sq (fun aa ww ll hh=>by exact ov (xmv (hh.oL 2))) ?_;refine ⟨.eq (.bool true),trivial,rfl,fun aa ww ll hh=>?_,?_⟩
  ·exact gU3
  refine sq (fun aa ww ll hh=>by have:=hh.gt 2 0;exact ov gX) ?_;refine stm 3 0 ?_;refine sq (fun aa ww ll hh=>by have:=hh.oL 3;exact hh.og 0 (fC (HCE.o ww hh.inv))) ?_;refine sq (fun aa ww ll hh=>by exact hh.og 1 (xmv (hh.oL 2))) ?_;refine ⟨.eq (.slice lp ws.length lc),trivial,rfl,fun aa ww ll hh=>?_,?_⟩
  ·have e21:=hh.gt 5 1;have e22:=hh.gt 6 0;exact gB2
  refine ⟨.eq (.bool true),trivial,rfl,fun aa ww ll hh=>?_,?_⟩
  ·exact gP4
  refine sq (fun aa ww ll hh=>by have:=hh.gt 8 0;exact hh.og 4 gX) ?_;refine sq (fun aa ww ll hh=>by have:=hh.gt 4 5;have:=hh.gt 9 0;have ec:=evc aa;exact ov gX) ?_;refine stm 10 0 ?_;refine sq (fun aa ww ll hh=>by have:=hh.oL 3;exact hh.og 0 (fC (HCE.o ww hh.inv))) ?_;refine sq (fun aa ww ll hh=>by exact hh.og 1 (xmv (hh.oL 2))) ?_;refine ⟨.eq (.slice lp ws.length lc),trivial,rfl,fun aa ww ll hh=>?_,?_⟩
  ·have e28:=hh.gt 12 1;have e29:=hh.gt 13 0;exact gB2
  refine sq (fun aa ww ll hh=>by have:=hh.gt 14 0;exact hh.og 3 (fC (HCE.o ww hh.inv))) ?_;refine sq (fun aa ww ll hh=>by have:=hh.oL 4;exact hh.og 4 (fC (HCE.o ww hh.inv))) ?_;refine sq (fun aa ww ll hh=>by have:=hh.gt 16 0;exact hh.og 5 gX) ?_;refine sq (fun aa ww ll hh=>by have:=hh.gt 17 0;exact hh.og 6 gX) ?_;refine sq (fun aa ww ll hh=>by have:=hh.gt 18 0;exact hh.og 7 (fC (HCE.o ww hh.inv))) ?_;refine sq (fun aa ww ll hh=>by exact hh.og 8 (xmv (hh.oL 2))) ?_;refine sq (fun aa ww ll hh=>by have:=hh.gt 19 1;have:=hh.gt 20 0;exact hh.og 9 gX) ?_;refine sq (fun aa ww ll hh=>by have:=hh.gt 21 0;exact hh.og 10 (fC (HCE.o ww hh.inv))) ?_;refine sq (fun aa ww ll hh=>by have:=hh.gt 22 0;exact hh.og 11 (fC (HCE.o ww hh.inv))) ?_;refine sq (fun aa ww ll hh=>by have:=hh.gt 15 8;have:=hh.gt 23 0;exact hh.og 12 gX) ?_;refine sq (fun aa ww ll hh=>by have:=hh.gt 11 13;have:=hh.gt 24 0;have ec:=evc aa;exact ov gX) ?_;refine stm 25 0 ?_;refine sq (fun aa ww ll hh=>by have:=hh.oL 4;exact hh.og 0 (fC (HCE.o ww hh.inv))) ?_;refine sq (fun aa ww ll hh=>by have:=hh.gt 27 0;exact hh.og 1 gX) ?_;refine sq (fun aa ww ll hh=>by have:=hh.gt 28 0;exact hh.og 2 gX) ?_;refine sq (fun aa ww ll hh=>by have:=hh.gt 29 0;exact hh.og 3 (fC (HCE.o ww hh.inv))) ?_;refine sq (fun aa ww ll hh=>by exact hh.og 4 (xmv (hh.oL 2))) ?_;refine sq (fun aa ww ll hh=>by have:=hh.gt 30 1;have:=hh.gt 31 0;exact hh.og 5 gX) ?_;refine sq (fun aa ww ll hh=>by have:=hh.gt 32 0;exact hh.og 6 (fC (HCE.o ww hh.inv))) ?_;refine sq (fun aa ww ll hh=>by have:=hh.gt 26 7;have:=hh.gt 33 0;have ec:=evc aa;exact ov gX) ?_;refine stm 34 0 ?_;refine stk 0 ?_;refine stk 1 ?_;refine stk 2 ?_;refine stk 3 ?_;refine stk 4 ?_;refine stk 5 ?_;refine stk 6 ?_;refine sq (fun aa ww ll hh=>by have:=hh.gt 35 7;have:=hh.gt 42 0;have ec:=evc aa;exact ov gX) ?_;intro ll w2 hS hok;clear hok;simp only[ly];have HB2:=hD (HB0.o.trans ((HB1.o.trans (hS.mono HB1.o.size)).mono HB0.o.size));go_wp2_with fail;go_ret;exact ⟨rfl,HP.o.below HB2.o,Fr.of_below HB2.o⟩
end Go.Proofs.YtikilcbpogfgkaaGreat
