/- Lemmas. -/
import Derived.Test.YtikilcbpogfgkaaGreatJI35
set_option maxHeartbeats 12800000
set_option maxRecDepth 100000
namespace Go.Proofs.YtikilcbpogfgkaaGreat
open Go.RowKit Stab
variable {w:World} {x y:Pkt} {k h g m base:Nat} {r:Value} {fs:List Value}
theorem StpRow.el {p:Option Addr} {n c:Nat} {l:List Stp} (h:StpRow w (.slice p n c) l) {j:Nat} {x:Stp} (hj:l[j]?=some x):∃b o tp tn tc kp kn kc bp bn bc,p=some ⟨b,o,none⟩/\b<w.heap.size/\w.cell? ⟨b,o+j*4,none⟩=some (.slice tp tn tc)/\w.cell? ⟨b,o+j*4+1,none⟩=some (.slice kp kn kc)/\w.cell? ⟨b,o+j*4+2,none⟩=some (.slice bp bn bc)/\w.cell? ⟨b,o+j*4+3,none⟩=some (.int .i64 x.to)/\IRow w (.slice tp tn tc) x.takes/\CsRow w (.slice kp kn kc) x.keys/\BrnRow w (.slice bp bn bc) x.brs:=by
 obtain ⟨b,o,e,h1,⟨p1,n1,c1,h2,h3⟩,⟨p2,n2,c2,h4,h5⟩,⟨p3,n3,c3,h6,h7⟩,h8⟩:=h.get hj;exact ⟨b,o,p1,n1,c1,p2,n2,c2,p3,n3,c3,e,h1,h2,h4,h6,h8,h3,h5,h7⟩
theorem takesP_next {p:Prg} {l:List Int} (hk:l[k]?=some (h:Int)) (e:takeP p x h=some y):takesP p (l.drop k) x=takesP p (l.drop (k+1)) y:=by
 have hl:=(gL_ hk);obtain ⟨h1,h2⟩:=hl;rw[List.drop_eq_getElem_cons h1,h2,takesP,Int.toNat_natCast,e]
theorem takesP_stop {p:Prg} {l:List Int} (hk:l[k]?=some (h:Int)) (e:takeP p x h=none):takesP p (l.drop k) x=(x,false):=by
 obtain ⟨h1,h2⟩:=(gL_ hk);rw[List.drop_eq_getElem_cons h1,h2,takesP,Int.toNat_natCast,e]
theorem takesP_end {p:Prg} {l:List Int} (hk:l.length<=k):takesP p (l.drop k) x=(x,true):=by rw[List.drop_eq_nil_of_le hk,takesP]
theorem parseF_no {p:Prg} {i:Int} (h0:0<=i) (h1:i<(p.steps.length:Int)) (e:takesP p (stpAt p i).takes x=(y,false)):parseF p (g+1) m i x=(y,false):=by
 rw[parseF,if_pos ⟨h0,h1⟩];simp only[e,Bool.false_eq_true,if_false]
theorem parseF_go {p:Prg} {i:Int} (h0:0<=i) (h1:i<(p.steps.length:Int)) (e:takesP p (stpAt p i).takes x=(y,true)):parseF p (g+1) m i x=parseF p g (m+1) (if p.steps.length<=m then -2 else (nextP (stpAt p i) y).1) (nextP (stpAt p i) y).2:=by
 rw[parseF,if_pos ⟨h0,h1⟩];simp only[e,if_true]
theorem parseF_out {p:Prg} {i:Int} (h:¬(0<=i/\i<(p.steps.length:Int))) (hg:0<g\/i= -2):parseF p g m i x=(x,decide (i= -1)):=by
 cases g with
 |zero=>
  rcases hg with h|rfl
  ·exact absurd h om
  rfl
 |succ g=>rw[parseF,if_neg h]
theorem parseF_two {p:Prg} :parseF p g m (-2) x=(x,false):=parseF_out om (.inr rfl)
theorem PktB.loose {X:Nat} {v f m:Value} (h:PktB base w X x r v f m fs):PktO base w x r v f m fs:=
 ⟨h.hr,h.hv,h.hf,h.hfs,h.hm,(List.nodup_cons.1 h.nd).2⟩
def AnsP (base:Nat) (w:World) (R:Pkt×Bool) (e:Ending):Prop:=∃r v f m fs,e= .returned (.tuple #[.agg (pktCells R.1 r v f m).toArray, .bool R.2])/\PktO base w R.1 r v f m fs
theorem parseA_any (s:PgS) (p:Prg) (port:Int) (bp:Option Addr) (n bc:Nat) (xs:List Int) (w:World) (hp:PgOk w s p) (hS:Sm p) (hd:HdOk p) (hs:StOk p) (hb:URow w (.slice bp n bc) xs) (hl:n<=1000000) (hpo:0<=port/\port<=511):
 Calls Tryz.prog 9 #[pgV s, .int .i64 port, .slice bp n bc] w fun e w'=>AnsP w.heap.size w' (parseP p port xs) e/\Bl w w':=by
 have hxl:xs.length<=1000000:=by have:=hb.ln.1;omega
 have HNEW:Hd (∀ W,Bl w W->Calls Tryz.prog 25 #[pgV s, .int .i64 port, .slice bp n bc] W fun e w'=>AnsO port 0 false false false W.heap.size w' (newP p port xs) e/\Bl W w'):=fun W h=>newA_any s p port bp n bc xs W (hp.below h) hS (hb.below keepU h) hl
 have HTK:Hd (∀ (W:World) (B X:Nat) (y:Pkt) (r v f m:Value) (fs:List Value) (h:Nat),Bl w W->w.heap.size<=B->PktB B W X y r v f m fs->Psd p (newP p port xs) y->h<p.heads.length->Calls Tryz.prog 26 #[pgV s, .pointer (some ⟨X,0,none⟩), .int .i64 (h:Int)] W fun e w'=>TakeR p B W X y h r v f m fs e w'):=fun W B X y r v f m fs h hlow hB hP hy hh=>
  takeA_any s hp hlow hB hP hy.fits hd h hh (by obtain ⟨k,hk⟩:=hy.rest;rw[hk];show (List.drop k xs).length<=_;rw[List.length_drop];omega) (by have:=hS.heads;omega)
 have HNX:Hd (∀ (W:World) (B X:Nat) (y:Pkt) (r v f m:Value) (fs:List Value) (st:Stp) (tp kp bp:Option Addr) (tn tc kn kc bn bc:Nat),Bl w W->w.heap.size<=B->PktB B W X y r v f m fs->Psd p (newP p port xs) y->st∈p.steps->CsRow w (.slice kp kn kc) st.keys->BrnRow w (.slice bp bn bc) st.brs->Calls Tryz.prog 27 #[pgV s, .pointer (some ⟨X,0,none⟩), .agg #[.slice tp tn tc, .slice kp kn kc, .slice bp bn bc, .int .i64 st.to]] W fun e w'=>e= .returned (.int .i64 (nextP st y).1)/\PktB B w' X (nextP st y).2 r v f m fs/\Fr (·=X) W w'):=fun W B X y r v f m fs st tp kp bp tn tc kn kc bn bc hlow hB hP hy hst hk hb=>by
  obtain ⟨i,hi⟩:=List.getElem?_of_mem hst;obtain ⟨-,q2,q3⟩:=hs.takes i st hi;exact nextA_any (w0:=w) s st tp kp bp tn tc kn kc bn bc hy.fits (by rw[hy.port];exact hpo) hP hlow (Nat.le_trans hB hP.lo) hk hb (hS.skeys st hst) (hS.brs st hst) (fun c hc=>hS.scode st hst c hc) q3 q2
 have HPO:=hD hp.steps;have HTO:Hd (∀ (i:Nat) (st:Stp),p.steps[i]?=some st->∀h∈st.takes,0<=h/\h<(p.heads.length:Int)):=fun i st h=>(hs.takes i st h).1
 have HPS:Hd (∀ (i:Nat) (st:Stp) (y:Pkt) (k:Nat),p.steps[i]?=some st->Psd p (newP p port xs) y->Psd p (newP p port xs) (takesP p (st.takes.drop k) y).1):=fun i st y k h hy=>hy.trans (takesP_ok hd _ y hy.fits fun z hz=>(hs.takes i st h).1 z (List.mem_of_mem_drop hz))
 have HTT:Hd (∀ (h:Nat) (y z:Pkt),h<p.heads.length->Psd p (newP p port xs) y->takeP p y h=some z->Psd p (newP p port xs) z):=fun h y z hh hy e=>by
  unfold takeP at e;split at e
  ·cases e
  ·simp only[Option.some.injEq] at e;rw[<- e];exact hy.trans (tookP_ok hd hy.fits h hh)
 have HNN:Hd (∀ (st:Stp) (y:Pkt),Psd p (newP p port xs) y->Psd p (newP p port xs) (nextP st y).2):=fun st y hy=>hy.trans (nextP_ok hy.fits)
 have HN0:Hd (Psd p (newP p port xs) (newP p port xs)):=Psd.refl (newP_ok p port xs);have hsn:p.steps.length<=6000:=hS.steps;have htl:∀st∈p.steps,st.takes.length<=6000:=hS.takes;have HTL:=hD htl;have hpn:s.sn=p.steps.length:=hp.steps.ln.1;obtain ⟨NS,hNS⟩:=nm p.steps.length;obtain ⟨RES,hRES⟩:=nm (parseP p port xs);have HRES:Hd (parseF p (NS+2) 0 0 (newP p port xs)=RES):=by show _=_;rw[hRES,hNS];rfl
 have hpn2:s.sn=NS:=hpn.trans hNS.symm;rw[<- hNS] at hsn;have HNS:=hD hNS;rw[<- hRES];clear hxl hp hS hd hs hb hl hpo htl hpn hNS hRES;unfold pgV at HNEW HTK HNX⊢;obtain rfl:NS=s.sn:=hpn2.symm;go_enter Tryz.func9,Tryz.ntmps9;go_wp2_with fail;obtain ⟨W0,hW0⟩:=nm ((w.alloc (.cells (pA s) 33)).alloc (.cells zA 45));have HW:Hd (Bl w W0):=by show Below _ _ _;rw[hW0];exact bL
 have hsz0:W0.heap.size=w.heap.size+1+1:=by rw[hW0];simp
 have HG0:Hd (GBox W0 w.heap.size s):=by show _=_;rw[hW0,Below.heap_alloc _ _ _ sm];exact heap_new _ _
 have HR:Hd (W0.heap[w.heap.size+1]?=some (.cells zA 45 (0,0))):=by
  exact gZ
 have HSZ:=hD hsz0;rw[<- hW0];clear hW0 hsz0;obtain ⟨q0,q1,q2,q3,q4,q5,q6,q7,q8,q9,q10,q11⟩:=HG0.o.cells;go_step3;go_wp2_with (go_at_call 25;refine (HNEW.o _ HW.o).mono ?_;rintro e w1 ⟨⟨r0,v,f,mm,fs,rfl,ho⟩,hb1⟩;obtain ⟨K,rfl,rfl,rfl,rfl,-⟩:=ho.ks;have HO:=hD ho;have HB1:=hD hb1;clear ho hb1);go_step3;obtain ⟨W1,hW1⟩:=nm (w1.alloc (.cells (kA K port false false 0 false) 45));have hb2:Bl w1 W1:=by rw[hW1];exact br.alloc lr _
 have HB2:=hD (HB1.o.trans (hb2.mono HB1.o.size));have HX:Hd (W1.heap[w1.heap.size]?=some (.cells (kA K port false false 0 false) 45 (0,0))):=by show _=_;rw[hW1];exact heap_new w1 _
 have HPK:Hd (PktB W0.heap.size W1 w1.heap.size (newP p port xs) (.slice K.rp K.rn K.rc) (.slice K.vp K.vn K.vc) (.slice K.fp K.fn K.fc) (.slice K.mp K.mn K.mc) fs):=(HO.o.far fun j _ h2=>hb2.block j h2).boxed HX.o HB1.o.size (fun z hz e=>by have:=(HO.o.blk z hz _ e).2;omega);rw[<- hW1];clear hW1 hb2 q0 q1 q2 q3 q4 q5 q6 q7 q8 q9 q10 q11;have hX1:W0.heap.size<=w1.heap.size:=HB1.o.size;have HX1:=hD hX1;clear hX1 HX HO;generalize w1.heap.size=X at*;have hts:s.sn<=6000:=hsn;go_wp2_with fail;go_loopg [9,10] (s.sn+2) (fun g a mv wr=>∃(i:Int) (m:Nat) (y:Pkt) (r:Value),a= .int .i64 i/\mv= .int .i64 m/\m+g=s.sn+2/\(m<=s.sn\/i= -2)/\Hd (PktB W0.heap.size wr X y r (.slice K.vp K.vn K.vc) (.slice K.fp K.fn K.fc) (.slice K.mp K.mn K.mc) fs)/\Hd (Psd p (newP p port xs) y)/\Hd (parseF p g m i y=RES)/\Hd (Bl W0 wr))
 case atStart=>exact ⟨0,0,newP p port xs,_,rfl,rfl,om, .inl om,HPK,HN0,HRES,HB2⟩
 case round=>
  obtain ⟨i,m,y,r,rfl,rfl,hmg,hmi,HP,HY,HE,HBR⟩:=hrel;have HWR:=hD (HW.o.trans (HBR.o.mono HW.o.size));have HGR:Hd (GBox wr w.heap.size s):=(HBR.o.block _ (lt_some HG0.o)).trans HG0.o;obtain ⟨q0,q1,q2,q3,q4,q5,q6,q7,q8,q9,q10,q11⟩:=HGR.o.cells;by_cases hin:0<=i/\i<(s.sn:Int)
  ·obtain ⟨i0,i1⟩:=hin;obtain ⟨g,rfl⟩:∃g,gk=g+1:=⟨gk-1,om⟩;obtain ⟨j,rfl⟩:∃j:Nat,i=(j:Int):=⟨i.toNat,om⟩;have hjn:j<p.steps.length:=by have:=HNS.o;omega
   have hst:=stpAt_mem (p:=p) (i:=(j:Int)) om om;rw[Int.toNat_natCast] at hst;obtain ⟨sb,so,tp,tn,tc,kp,kn,kc,bp,bn,bc,hsp,hsb,y0,y1,y2,y3,rt,rk,rb⟩:=StpRow.el HPO.o hst;obtain rfl:tn=(stpAt p (j:Int)).takes.length:=rt.ln.1;have HRT:=hD rt;have HRK:=hD rk;have HRB:=hD rb;have HST:=hD hst;have HGO:Hd (∀ z,takesP p (stpAt p (j:Int)).takes y=(z,true)->parseF p g (m+1) (if p.steps.length<=m then -2 else (nextP (stpAt p (j:Int)) z).1) (nextP (stpAt p (j:Int)) z).2=RES):=fun z e=>(parseF_go om om e).symm.trans HE.o
   have HNO:Hd (∀ z,takesP p (stpAt p (j:Int)).takes y=(z,false)->parseF p g (m+1) (-2) z=RES):=fun z e=>parseF_two.trans ((parseF_no om om e).symm.trans HE.o)
   have HCS:Hd (∀ W,Bl w W->Cl W sb (so+j*4) (.slice tp (stpAt p (j:Int)).takes.length tc)/\Cl W sb (so+j*4+1) (.slice kp kn kc)/\Cl W sb (so+j*4+2) (.slice bp bn bc)/\Cl W sb (so+j*4+3) (.int .i64 (stpAt p (j:Int)).to)):=fun W h=>⟨(h.cell (p:=⟨sb,_,none⟩) hsb).trans y0,(h.cell (p:=⟨sb,_,none⟩) hsb).trans y1,(h.cell (p:=⟨sb,_,none⟩) hsb).trans y2,(h.cell (p:=⟨sb,_,none⟩) hsb).trans y3⟩
   have htn:(stpAt p (j:Int)).takes.length<=6000:=HTL.o _ (gM_ hst);have HTJ:Hd (∀ h∈(stpAt p (j:Int)).takes,0<=h/\h<(p.heads.length:Int)):=HTO.o _ _ hst;have HSP:=hD hsp;clear y0 y1 y2 y3 rt rk rb hst hjn hsp;generalize stpAt p (j:Int)=ST at*;obtain ⟨c0,c1,c2,c3⟩:=HCS.o wr HWR.o;rw[HSP.o] at q2;go_wp2_with fail;obtain ⟨wo,hwo⟩:∃wo:World,wo=wr:=⟨_,rfl⟩;have HBO:Hd (Bl W0 wo):=by show Below _ _ _;rw[hwo];exact HBR.o
   clear hwo;go_loopg [9,35] ST.takes.length (fun g2 a kv wq=>∃(k:Nat) (z:Pkt) (r:Value),a= .int .i64 (j:Int)/\kv= .int .i64 k/\k+g2=ST.takes.length/\Hd (PktB W0.heap.size wq X z r (.slice K.vp K.vn K.vc) (.slice K.fp K.fn K.fc) (.slice K.mp K.mn K.mc) fs)/\Hd (Psd p (newP p port xs) z)/\Hd (takesP p ST.takes y=takesP p (ST.takes.drop k) z)/\Hd (Bl W0 wq))
   case atStart=>exact ⟨0,y,r,rfl,rfl,om,HP,HY,by show _=_;rw[List.drop_zero],HBR⟩
   case round=>
    clear c0 c1 c2 c3 q0 q1 q2 q3 q4 q5 q6 q7 q8 q9 q10 q11 HGR;obtain ⟨k,z,r,rfl,rfl,hkg,HPZ,HZ,HT,HBZ⟩:=hrel;have HWZ:=hD (HW.o.trans (HBZ.o.mono HW.o.size));have HGZ:Hd (GBox wr w.heap.size s):=(HBZ.o.block _ (lt_some HG0.o)).trans HG0.o;obtain ⟨q0,q1,q2,q3,q4,q5,q6,q7,q8,q9,q10,q11⟩:=HGZ.o.cells;obtain ⟨c0,c1,c2,c3⟩:=HCS.o wr HWZ.o;rw[HSP.o] at q2;by_cases hk:k<ST.takes.length
    ·have hke:=some_getD (l:=ST.takes) (j:=k) 0 hk;obtain ⟨hz0,hz1⟩:=HTJ.o _ (gM_ hke);obtain ⟨tb,tq,htp,htb,t0⟩:=IRow.el (HRT.o.below keepI HWZ.o) (j:=k) hk;obtain ⟨h,hh⟩:∃h:Nat,ST.takes.getD k 0=(h:Int):=⟨_,(Int.toNat_of_nonneg hz0).symm⟩;rw[hh] at hke hz1 t0;subst htp;have hhn:h<p.heads.length:=om;have HC:=HTK.o wr W0.heap.size X z r _ _ _ fs h HWZ.o (by have:=HSZ.o;omega) HPZ.o HZ.o hhn;have HKE:=hD hke;have HKN:=hD hhn;have hki:(k:Int)<(ST.takes.length:Int):=om;clear hke hz0 hz1 htb hh hhn;cases hq:takeP p z h with
     |none=>
      simp only[TakeR,hq] at HC;rw[HSP.o] at HC;have HC2:=hD HC;have HN2:=hD (HNO.o z (HT.o.trans (takesP_stop HKE.o hq)));clear HC hq;go_upto_region 14 with (go_at_call 26;refine HC2.o.mono ?_;rintro e w3 ⟨rfl,hp3,hf3⟩;have HP3:=hD hp3;have HF3:=hD hf3;clear hp3 hf3);have HB3:Hd (Bl W0 w3):=HBZ.o.trans (HF3.o.below HBZ.o.size fun q e=>(HPZ.o.blk e).1);clear q0 q1 q2 q3 q4 q5 q6 q7 q8 q9 q10 q11 c0 c1 c2 c3;have HN3:Hd ((z,false)=RES):=parseF_two.symm.trans HN2.o;obtain ⟨kk,rfl,-,-,-,-⟩:=(PktB.loose HP3.o).ks;have HRW:Hd (w3.heap[w.heap.size+1]?=some (.cells zA 45 (0,0))):=(HB3.o.block _ (lt_some HR.o)).trans HR.o;have hY:Bx w3 X [.int .i64 z.port, .slice kk.rp kk.rn kk.rc, .slice K.vp K.vn K.vc, .slice K.fp K.fn K.fc, .slice K.mp K.mn K.mc, .bool z.dropped, .bool z.sent, .int .i64 z.egress, .bool z.access]:=HP3.o.st;have hZ:Bx w3 (w.heap.size+1) zL:=HRW.o;obtain ⟨d0,d1,d2,d3,d4,d5,d6,d7,d8⟩:=Bx.c9 hY;obtain ⟨e0,e1,e2,e3,e4,e5,e6,e7,e8⟩:=Bx.c9 hZ;have l0:=Bx.free hZ 0;have l1:=Bx.free hZ 1;have l2:=Bx.free hZ 2;have l3:=Bx.free hZ 3;have l4:=Bx.free hZ 4;have l5:=Bx.free hZ 5;have l6:=Bx.free hZ 6;have l7:=Bx.free hZ 7;have l8:=Bx.free hZ 8;clear hY hZ;go_wp2_with fail;try rw[Exit.noGoto_ret]
      have hb4:=set9_heap (.int .i64 z.port) (.slice kk.rp kk.rn kk.rc) (.slice K.vp K.vn K.vc) (.slice K.fp K.fn K.fc) (.slice K.mp K.mn K.mc) (.bool z.dropped) (.bool z.sent) (.int .i64 z.egress) (.bool z.access) HRW.o;refine bodyPost_ret (v:= .tuple #[.agg #[.int .i64 z.port, .slice kk.rp kk.rn kk.rc, .slice K.vp K.vn K.vc, .slice K.fp K.fn K.fc, .slice K.mp K.mn K.mc, .bool z.dropped, .bool z.sent, .int .i64 z.egress, .bool z.access], .bool false]) ?_ rfl ⟨⟨.slice kk.rp kk.rn kk.rc, .slice K.vp K.vn K.vc, .slice K.fp K.fn K.fc, .slice K.mp K.mn K.mc,fs,by rw[<- HN3.o];rfl,?_⟩,?_⟩
      ·change Sem.run Tryz.prog (results _ _) (set9 w3 (w.heap.size+1) (.int .i64 z.port) (.slice kk.rp kk.rn kk.rc) (.slice K.vp K.vn K.vc) (.slice K.fp K.fn K.fc) (.slice K.mp K.mn K.mc) (.bool z.dropped) (.bool z.sent) (.int .i64 z.egress) (.bool z.access))=Result.ok _ (set9 w3 (w.heap.size+1) (.int .i64 z.port) (.slice kk.rp kk.rn kk.rc) (.slice K.vp K.vn K.vc) (.slice K.fp K.fn K.fc) (.slice K.mp K.mn K.mc) (.bool z.dropped) (.bool z.sent) (.int .i64 z.egress) (.bool z.access));generalize set9 w3 (w.heap.size+1) (.int .i64 z.port) (.slice kk.rp kk.rn kk.rc) (.slice K.vp K.vn K.vc) (.slice K.fp K.fn K.fc) (.slice K.mp K.mn K.mc) (.bool z.dropped) (.bool z.sent) (.int .i64 z.egress) (.bool z.access)=W5 at hb4⊢;have hb5:Bx W5 (w.heap.size+1) [.int .i64 z.port, .slice kk.rp kk.rn kk.rc, .slice K.vp K.vn K.vc, .slice K.fp K.fn K.fc, .slice K.mp K.mn K.mc, .bool z.dropped, .bool z.sent, .int .i64 z.egress, .bool z.access]:=hb4;obtain ⟨m0,m1,m2,m3,m4,m5,m6,m7,m8⟩:=Bx.c9 hb5;simp[results,Tryz.results9,go_sem,m0,m1,m2,m3,m4,m5,m6,m7,m8]
      ·rw[<- HN3.o];exact ((PktB.loose HP3.o).far fun k h1 h2=>set9_other w3 (.int .i64 z.port) (.slice kk.rp kk.rn kk.rc) (.slice K.vp K.vn K.vc) (.slice K.fp K.fn K.fc) (.slice K.mp K.mn K.mc) (.bool z.dropped) (.bool z.sent) (.int .i64 z.egress) (.bool z.access) (by have:=HSZ.o;omega)).lower (by have:=HSZ.o;omega)
      exact set9_below (.int .i64 z.port) (.slice kk.rp kk.rn kk.rc) (.slice K.vp K.vn K.vc) (.slice K.fp K.fn K.fc) (.slice K.mp K.mn K.mc) (.bool z.dropped) (.bool z.sent) (.int .i64 z.egress) (.bool z.access) (HW.o.trans (HB3.o.mono HW.o.size)) om
     |some z2=>
      simp only[TakeR,hq] at HC;rw[HSP.o] at HC;have HC2:=hD HC;have HN2:=hD (HT.o.trans (takesP_next HKE.o hq));have HZ2:=hD (HTT.o h z z2 HKN.o HZ.o hq);clear HC hq;go_wp2_with (go_at_call 26;refine HC2.o.mono ?_;rintro e w3 ⟨rfl,⟨r2,hp3⟩,hf3⟩;have HP3:=hD hp3;have HF3:=hD hf3;clear hp3 hf3);go_roundg (gk-1)
      case measure=>omega
      case rel=>exact ⟨k+1,z2,r2,rfl,by go_num,om,HP3,HZ2,HN2,HBZ.o.trans (HF3.o.below HBZ.o.size fun q e=>(HPZ.o.blk e).1)⟩
    obtain rfl:k=ST.takes.length:=om;have HEN:=hD (HGO.o z (HT.o.trans (takesP_end lr)));have HZ2:=hD (HNN.o ST z HZ.o);have HC:Hd (∀ W,Bl wr W->Calls Tryz.prog 27 #[.agg #[.slice s.hp s.hn s.hc, .slice s.mp s.mn s.mc, .slice (some ⟨sb,so,none⟩) s.sn s.sc, .slice s.ap s.an s.ac, .slice s.tp s.tn s.tc, .slice s.cp s.cn s.cc, .slice s.ep s.en s.ec, .slice s.v1 s.n1 s.c1, .slice s.v2 s.n2 s.c2, .slice s.v3 s.n3 s.c3, .slice s.v4 s.n4 s.c4, .slice s.v5 s.n5 s.c5], .pointer (some ⟨X,0,none⟩), .agg #[.slice tp ST.takes.length tc, .slice kp kn kc, .slice bp bn bc, .int .i64 ST.to]] W fun e w'=>e= .returned (.int .i64 (nextP ST z).1)/\PktB W0.heap.size w' X (nextP ST z).2 r (.slice K.vp K.vn K.vc) (.slice K.fp K.fn K.fc) (.slice K.mp K.mn K.mc) fs/\Fr (·=X) W w'):=fun W h=>by rw[<- HSP.o];exact HNX.o W W0.heap.size X z r _ _ _ fs ST tp kp bp _ tc kn kc bn bc (HWZ.o.trans (h.mono HWZ.o.size)) (by have:=HSZ.o;omega) (HPZ.o.below h) HZ.o (gM_ HST.o) HRK.o HRB.o
    have hki:¬(ST.takes.length:Int)<(ST.takes.length:Int):=om;generalize nextP ST z=RN at*;rw[<- HNS.o] at HEN;have HCW:Hd (∀ W,Fr (fun q=>q=X) wr W->Cl W w.heap.size 0 (.slice s.hp s.hn s.hc)/\Cl W w.heap.size 1 (.slice s.mp s.mn s.mc)/\Cl W w.heap.size 2 (.slice (some ⟨sb,so,none⟩) s.sn s.sc)/\Cl W w.heap.size 3 (.slice s.ap s.an s.ac)/\Cl W w.heap.size 4 (.slice s.tp s.tn s.tc)/\Cl W w.heap.size 5 (.slice s.cp s.cn s.cc)/\Cl W w.heap.size 6 (.slice s.ep s.en s.ec)/\Cl W w.heap.size 7 (.slice s.v1 s.n1 s.c1)/\Cl W w.heap.size 8 (.slice s.v2 s.n2 s.c2)/\Cl W w.heap.size 9 (.slice s.v3 s.n3 s.c3)/\Cl W w.heap.size 10 (.slice s.v4 s.n4 s.c4)/\Cl W w.heap.size 11 (.slice s.v5 s.n5 s.c5)/\Cl W sb (so+j*4) (.slice tp ST.takes.length tc)/\Cl W sb (so+j*4+1) (.slice kp kn kc)/\Cl W sb (so+j*4+2) (.slice bp bn bc)/\Cl W sb (so+j*4+3) (.int .i64 ST.to)):=fun W hf=>by
     have hW:=HWZ.o.trans (hf.below HWZ.o.size fun q e=>by have:=HX1.o;have:=HW.o.size;rw[show q=X from e];omega);have hG:GBox W w.heap.size s:=(hf.block _ (lt_some HGZ.o) (fun e=>by have:=HX1.o;have:=HSZ.o;omega)).trans HGZ.o;obtain ⟨p0,p1,p2,p3,p4,p5,p6,p7,p8,p9,p10,p11⟩:=hG.cells;rw[HSP.o] at p2;exact ⟨p0,p1,p2,p3,p4,p5,p6,p7,p8,p9,p10,p11,HCS.o W hW⟩
    go_wp2_with fail;go_region_with (go_at_call 27;refine (HC.o _ (below_drewN br 1)).mono ?_;rintro e w3 ⟨rfl,hp3,hf3⟩;have HP3:=hD hp3;have HB3:Hd (Bl W0 w3):=HBZ.o.trans (((below_drewN br 1).mono HBZ.o.size).trans (hf3.below (by simp;exact HBZ.o.size) fun q e=>by rw[show q=X from e];exact HX1.o));clear hp3 hf3);all_goals
     have HG3:Hd (GBox w3 w.heap.size s):=(HB3.o.block _ (lt_some HG0.o)).trans HG0.o;clear q0 q1 q2 q3 q4 q5 q6 q7 q8 q9 q10 q11 c0 c1 c2 c3;obtain ⟨q0,q1,q2,q3,q4,q5,q6,q7,q8,q9,q10,q11⟩:=HG3.o.cells;by_cases hm:s.sn<=m
     ·have hmi:(s.sn:Int)<=(m:Int):=om
      have HEM:=HEN.o;rw[if_pos hm] at HEM;have HEM:=hD HEM;go_wp2_with fail;go_roundg g
      case measure=>omega
      case rel=>exact ⟨-2,m+1,RN.2,r,rfl,by go_num,om, .inr rfl,HP3,HZ2,HEM,HB3⟩
     ·have hmi:¬(s.sn:Int)<=(m:Int):=om
      have HEM:=HEN.o;rw[if_neg hm] at HEM;have HEM:=hD HEM;go_wp2_with fail;go_roundg g
      case measure=>omega
      case rel=>exact ⟨RN.1,m+1,RN.2,r,rfl,by go_num,om, .inl om,HP3,HZ2,HEM,HB3⟩
  have HEX:Hd ((y,i== -1)=RES):=by
   rw[show (i== -1)=decide (i= -1) from by rw[Bool.eq_iff_iff];simp];exact (parseF_out (by rw[<- HNS.o];exact hin) om).symm.trans HE.o
  have hcs:¬0<=i\/(0<=i/\¬i<(s.sn:Int)):=om;clear hin;rcases hcs with h1|⟨h1,h2⟩
  all_goals
   obtain ⟨kk,rfl,-,-,-,-⟩:=(PktB.loose HP.o).ks;have HRW:Hd (wr.heap[w.heap.size+1]?=some (.cells zA 45 (0,0))):=(HBR.o.block _ (lt_some HR.o)).trans HR.o;have hY:Bx wr X [.int .i64 y.port, .slice kk.rp kk.rn kk.rc, .slice K.vp K.vn K.vc, .slice K.fp K.fn K.fc, .slice K.mp K.mn K.mc, .bool y.dropped, .bool y.sent, .int .i64 y.egress, .bool y.access]:=HP.o.st;have hZ:Bx wr (w.heap.size+1) zL:=HRW.o;obtain ⟨d0,d1,d2,d3,d4,d5,d6,d7,d8⟩:=Bx.c9 hY;obtain ⟨e0,e1,e2,e3,e4,e5,e6,e7,e8⟩:=Bx.c9 hZ;have l0:=Bx.free hZ 0;have l1:=Bx.free hZ 1;have l2:=Bx.free hZ 2;have l3:=Bx.free hZ 3;have l4:=Bx.free hZ 4;have l5:=Bx.free hZ 5;have l6:=Bx.free hZ 6;have l7:=Bx.free hZ 7;have l8:=Bx.free hZ 8;clear hY hZ;go_wp2_with fail
   try rw[Exit.noGoto_ret]
   have hb4:=set9_heap (.int .i64 y.port) (.slice kk.rp kk.rn kk.rc) (.slice K.vp K.vn K.vc) (.slice K.fp K.fn K.fc) (.slice K.mp K.mn K.mc) (.bool y.dropped) (.bool y.sent) (.int .i64 y.egress) (.bool y.access) HRW.o;refine bodyPost_ret (v:= .tuple #[.agg #[.int .i64 y.port, .slice kk.rp kk.rn kk.rc, .slice K.vp K.vn K.vc, .slice K.fp K.fn K.fc, .slice K.mp K.mn K.mc, .bool y.dropped, .bool y.sent, .int .i64 y.egress, .bool y.access], .bool (i== -1)]) ?_ rfl ⟨⟨.slice kk.rp kk.rn kk.rc, .slice K.vp K.vn K.vc, .slice K.fp K.fn K.fc, .slice K.mp K.mn K.mc,fs,by rw[<- HEX.o];rfl,?_⟩,?_⟩
   ·change Sem.run Tryz.prog (results _ _) (set9 wr (w.heap.size+1) (.int .i64 y.port) (.slice kk.rp kk.rn kk.rc) (.slice K.vp K.vn K.vc) (.slice K.fp K.fn K.fc) (.slice K.mp K.mn K.mc) (.bool y.dropped) (.bool y.sent) (.int .i64 y.egress) (.bool y.access))=Result.ok _ (set9 wr (w.heap.size+1) (.int .i64 y.port) (.slice kk.rp kk.rn kk.rc) (.slice K.vp K.vn K.vc) (.slice K.fp K.fn K.fc) (.slice K.mp K.mn K.mc) (.bool y.dropped) (.bool y.sent) (.int .i64 y.egress) (.bool y.access));generalize set9 wr (w.heap.size+1) (.int .i64 y.port) (.slice kk.rp kk.rn kk.rc) (.slice K.vp K.vn K.vc) (.slice K.fp K.fn K.fc) (.slice K.mp K.mn K.mc) (.bool y.dropped) (.bool y.sent) (.int .i64 y.egress) (.bool y.access)=W5 at hb4⊢;have hb5:Bx W5 (w.heap.size+1) [.int .i64 y.port, .slice kk.rp kk.rn kk.rc, .slice K.vp K.vn K.vc, .slice K.fp K.fn K.fc, .slice K.mp K.mn K.mc, .bool y.dropped, .bool y.sent, .int .i64 y.egress, .bool y.access]:=hb4;obtain ⟨m0,m1,m2,m3,m4,m5,m6,m7,m8⟩:=Bx.c9 hb5;simp[results,Tryz.results9,go_sem,m0,m1,m2,m3,m4,m5,m6,m7,m8]
   ·rw[<- HEX.o];exact ((PktB.loose HP.o).far fun k h1 h2=>set9_other wr (.int .i64 y.port) (.slice kk.rp kk.rn kk.rc) (.slice K.vp K.vn K.vc) (.slice K.fp K.fn K.fc) (.slice K.mp K.mn K.mc) (.bool y.dropped) (.bool y.sent) (.int .i64 y.egress) (.bool y.access) (by have:=HSZ.o;omega)).lower (by have:=HSZ.o;omega)
   ·exact set9_below (.int .i64 y.port) (.slice kk.rp kk.rn kk.rc) (.slice K.vp K.vn K.vc) (.slice K.fp K.fn K.fc) (.slice K.mp K.mn K.mc) (.bool y.dropped) (.bool y.sent) (.int .i64 y.egress) (.bool y.access) (HW.o.trans (HBR.o.mono HW.o.size)) om
open Go.RowKit Stab
theorem emitA_any {v f mm:Value} (s:PgS) {p:Prg} (hp:PgOk w s p) (hd:HdOk p) (he:∀h∈p.emit,0<=h/\h<(p.heads.length:Int)) (hel:p.emit.length<=6000) (hF:PktF p x) (hP:PktO base w x r v f mm fs) (hr:x.rest.length<=1000000) (hbs:base<=w.heap.size):
 Calls Tryz.prog 24 #[pgV s, .agg (pktCells x r v f mm).toArray] w fun e w'=>∃y,e= .returned y/\w'.ownsRow w.heap.size 5 1 y (emtP p x).length ((emtP p x).map (Value.int .u8))/\Bl w w':=by
 obtain ⟨K,rfl,rfl,rfl,rfl,HKO⟩:=hP.ks;have HP:=hD hP;have HG:=hD hp;have HEM:Hd (∀ k,k<p.emit.length->∃h:Nat,p.emit.getD k 0=(h:Int)/\h<p.heads.length):=fun k hk=>by
  obtain ⟨z0,z1⟩:=he _ (gM_ (some_getD (l:=p.emit) (j:=k) 0 hk));exact ⟨_,(Int.toNat_of_nonneg z0).symm,om⟩
 have HLY:Hd (∀ k,k<=p.emit.length->LyOk (lyA p x k)/\(lyA p x k).2<=1536000):=fun k hk=>by
  obtain ⟨h1,h2⟩:=lyA_ok hd x he k hk;exact ⟨h1,om⟩
 have HD:=hD hd;have HF:=hD hF;have HR:Hd (URow w (.slice K.rp K.rn K.rc) x.rest):=HKO.r;have HRL:=hD hr;have hen:s.en=p.emit.length:=hp.emit.ln.1;have HEN:=hD hen;have hel2:s.en<=6000:=om;have HWD:Hd (∀ (h:Nat) (ws:List Int),p.heads[h]?=some ws->∃hp1 hn1 hc1,(∀ W,Bl w W->IRow W (.slice hp1 hn1 hc1) ws/\CR 58 #[pgV s, .int .i64 (h:Int)] W (.slice hp1 hn1 hc1))):=fun h ws hw=>by
  obtain ⟨hb0,ho0,hp1,hn1,hc1,e1,e2,e3,e4⟩:=IsRow.elG hp.heads hw;refine ⟨hp1,hn1,hc1,fun W hb=>⟨e4.below keepI hb,widthsA_any s W ?_ e1 ((hb.cell (p:=⟨hb0,ho0+h,none⟩) e2).trans e3)⟩⟩;have h1:=(gL_ hw).1;have h2:=hp.heads.ln.1;omega
 clear hP hp he hd hF HKO hr hen hel;unfold pgV at HWD⊢;unfold pktCells;go_enter Tryz.func24,Tryz.ntmps24;go_upto_region 1 with fail;obtain ⟨W0,hW0⟩:=nm ((w.alloc (.cells (pA s) 33)).alloc (.cells (kA K x.port x.dropped x.sent x.egress x.access) 45));have HW:Hd (Bl w W0):=by show Below _ _ _;rw[hW0];exact bL
 have HSZ:Hd (W0.heap.size=w.heap.size+1+1):=by show _=_;rw[hW0];simp
 have HG0:Hd (GBox W0 w.heap.size s):=by show _=_;rw[hW0,Below.heap_alloc _ _ _ sm];exact heap_new _ _
 have HX0:Hd (W0.heap[w.heap.size+1]?=some (.cells (kA K x.port x.dropped x.sent x.egress x.access) 45 (0,0))):=by
  exact gZ
 rw[<- hW0];clear hW0;have HPB0:Hd (PktB base W0 (w.heap.size+1) x (.slice K.rp K.rn K.rc) (.slice K.vp K.vn K.vc) (.slice K.fp K.fn K.fc) (.slice K.mp K.mn K.mc) fs):=(HP.o.far fun j _ h2=>HW.o.block j h2).boxed HX0.o om (fun z hz e=>by have:=(HP.o.blk z hz _ e).2;omega);go_upto_region 4 with fail;obtain ⟨W1,hW1⟩:=nm (((W0.alloc (.cells #[] 5)).alloc (.cells #[.slice (some ⟨W0.heap.size,0,none⟩) 0 0] 35)).alloc (.cells #[.int .i64 0] 3));have HS1:Hd (LayX W0.heap.size (W0.heap.size+1+1) (W0.heap.size+1) W0 [] 0 (.slice (some ⟨W0.heap.size,0,none⟩) 0 0) W1):=by
  show LayX _ _ _ _ _ _ _ _;rw[hW1];refine ⟨((br.alloc lr _).alloc sm _).alloc (by simp;omega) _,⟨om,om,om⟩,?_,?_,?_⟩
  ·exact hq3 _ _ _ _
  ·rw[Below.heap_alloc _ _ _ sm];exact hq2 _ _ _
  exact ((owns_made0 W0 5 1).alloc _).alloc _
 rw[<- hW1];clear hW1;have HQ:Hd (∀ W,Bl W0 W->GBox W w.heap.size s/\PktB base W (w.heap.size+1) x (.slice K.rp K.rn K.rc) (.slice K.vp K.vn K.vc) (.slice K.fp K.fn K.fc) (.slice K.mp K.mn K.mc) fs):=fun W h=>⟨(h.block _ (lt_some HG0.o)).trans HG0.o,HPB0.o.below h⟩
 obtain ⟨q0,q1,q2,q3,q4,q5,q6,q7,q8,q9,q10,q11⟩:=(HQ.o W1 HS1.o.bel).1.cells;obtain ⟨ep,q6n,HER⟩:∃ep,W1.cell? ⟨w.heap.size,6,none⟩=some (.slice ep s.en s.ec)/\Hd (IRow w (.slice ep s.en s.ec) p.emit):=⟨s.ep,q6,HG.o.emit⟩;clear q6;generalize W0.heap.size+1+1=gm at*;generalize W0.heap.size+1=gg at*;go_wp2_with fail;clear q0 q1 q2 q3 q4 q5 q6n q7 q8 q9 q10 q11;go_loopg [18] s.en (fun g iv wr=>∃(k:Nat) (y:Value),iv= .int .i64 k/\k+g=s.en/\Hd (LayX W0.heap.size gm gg W0 (lyA p x k).1 (lyA p x k).2 y wr))
 case atStart=>exact ⟨0,_,rfl,om,HS1⟩
 case round=>
  obtain ⟨k,y,rfl,hkg,HS⟩:=hrel;obtain ⟨hG,hPB⟩:=HQ.o wr HS.o.bel;obtain ⟨q0,q1,q2,q3,q4,q5,q6,q7,q8,q9,q10,q11⟩:=hG.cells;by_cases hk:k<s.en
  ·obtain ⟨h,hh,hhl⟩:=HEM.o k (by have:=HEN.o;omega);obtain ⟨eb,eo,hep,heb,e0⟩:=IRow.el (HER.o.below keepI (HW.o.trans (HS.o.bel.mono HW.o.size))) (j:=k) (by have:=HEN.o;omega);rw[hh] at e0;subst hep;have hvl:h<x.valid.length:=by rw[HF.o.v];exact hhl
   have hfl:h<x.fields.length:=by rw[HF.o.f];exact hhl
   obtain ⟨vb,hvb⟩:∃b,x.valid[h]?=some b:=⟨_,gE_ hvl⟩;obtain ⟨l,hl⟩:∃l,x.fields[h]?=some l:=⟨_,gE_ hfl⟩;obtain ⟨ws,hws⟩:∃ws,p.heads[h]?=some ws:=⟨_,gE_ hhl⟩;have HNX:Hd (lyA p x (k+1)=if vb=true then lyH ws l (lyA p x k) ws.length else lyA p x k):=by
    show _=_;rw[lyA];rw[hh,Int.toNat_natCast,List.getD_eq_getElem?_getD (l:=x.valid),hvb,List.getD_eq_getElem?_getD (l:=x.fields),hl,wdsP_some hws];rfl
   obtain ⟨HL1,HL2⟩:Hd (LyOk (lyA p x k))/\Hd ((lyA p x k).2<=1536000):=⟨(HLY.o k (by have:=HEN.o;omega)).1,(HLY.o k (by have:=HEN.o;omega)).2⟩;have HHAS:Hd (∀ W,Bl wr W->CR 57 #[.pointer (some ⟨w.heap.size+1,0,none⟩), .int .i64 (h:Int)] W (.bool true)):=fun W hb=>has_true (hPB.below hb) h hvl hfl
   obtain ⟨vg,vc,hve,-,cv⟩:=hPB.getValid hvb;have c2:=hPB.cell (i:=2) rfl;rw[hve] at c2;have HC2:Hd (∀ W,Bl wr W->Cl W (w.heap.size+1) 2 (.slice (some ⟨vg,0,none⟩) x.valid.length vc)/\Cl W vg h (.bool vb)):=fun W hb=>⟨(hb.cell (cell_there c2).1).trans c2,(hb.cell (cell_there cv).1).trans cv⟩
   have hvi:(h:Int)<(x.valid.length:Int):=om;have HVB:=hD hvb;have HLL:=hD hl;have HWS:=hD hws;have hki:(k:Int)<(s.en:Int):=om;clear hvb hl hws c2 cv hve hh heb;cases vb
   ·go_wp2_with (go_at_call 57;refine (HHAS.o _ br).mono ?_;rintro e w3 ⟨rfl,hb3⟩;obtain ⟨c2,cv⟩:=HC2.o w3 hb3;have HB3:=hD hb3;clear hb3);go_roundg (gk-1)
    case measure=>omega
    case rel=>exact ⟨k+1,y,by go_num,om,by have:=HNX.o;rw[if_neg dq] at this;show LayX _ _ _ _ _ _ _ _;rw[this];exact HS.o.below HB3.o⟩
   ·obtain ⟨hp1,hn1,hc1,hwd⟩:=HWD.o h ws HWS.o;obtain rfl:hn1=ws.length:=(hwd w br).1.ln.1;have HWR:=hD hwd;clear hwd;obtain ⟨fg,fc,u,hfe,-,-,hu,hnu⟩:=hPB.getRow HLL.o;have hll:l.length=ws.length:=by have:=HF.o.fl h l HLL.o;rw[this,List.getD_eq_getElem?_getD,HWS.o];rfl
    obtain ⟨hw1,-,-,-,hw16⟩:=HD.o.w h ws HWS.o;have HW1:=hD hw1;have HHL:=hD hll;clear hu hnu hfe hw1 hll;have hw162:ws.length<=16:=hw16;go_wp2_with (first
     |(go_at_call 57;refine (HHAS.o _ br).mono ?_;rintro e w3 ⟨rfl,hb3⟩;obtain ⟨c2,cv⟩:=HC2.o w3 hb3;have HS3:=hD (HS.o.below hb3);clear hb3 q0 q1 q2 q3 q4 q5 q6 q7 q8 q9 q10 q11;obtain ⟨q0,q1,q2,q3,q4,q5,q6,q7,q8,q9,q10,q11⟩:=(HQ.o w3 HS3.o.bel).1.cells)
     |(go_at_call 58;refine (HWR.o _ (HW.o.trans (HS3.o.bel.mono HW.o.size))).2.mono ?_;rintro e w4 ⟨rfl,hb4⟩;have HS4:=hD (HS3.o.below hb4);clear hb4))
    clear c2 cv q0 q1 q2 q3 q4 q5 q6 q7 q8 q9 q10 q11;have HS4b:Hd (LayX W0.heap.size gm gg W0 (lyH ws l (lyA p x k) 0).1 (lyH ws l (lyA p x k) 0).2 y w4):=HS4.o;go_loopg [37] ws.length (fun g2 jv wq=>∃(j:Nat) (y:Value),jv= .int .i64 j/\j+g2=ws.length/\Hd (LayX W0.heap.size gm gg W0 (lyH ws l (lyA p x k) j).1 (lyH ws l (lyA p x k) j).2 y wq))
    case atStart=>exact ⟨0,y,rfl,om,HS4b⟩
    case round=>
     clear HS3 HS4 HS4b HS;obtain ⟨j,y,rfl,hjg,HS⟩:=hrel;by_cases hj:j<ws.length
     ·obtain ⟨n,hn⟩:∃n,l[j]?=some n:=⟨_,gE_ (by have:=HHL.o;omega)⟩;obtain ⟨wb,wo,hwe,hwb,z0⟩:=IRow.el (HWR.o wr (HW.o.trans (HS.o.bel.mono HW.o.size))).1 (j:=j) hj;obtain ⟨wz0,wz1⟩:=HW1.o _ (gM_ (some_getD (l:=ws) (j:=j) 0 hj));obtain ⟨wd,hwd⟩:∃wd:Nat,ws.getD j 0=(wd:Int):=⟨_,(Int.toNat_of_nonneg om).symm⟩;rw[hwd] at z0 wz0 wz1;subst hwe;have HLN:Hd (lyH ws l (lyA p x k) (j+1)=lyW n wd (lyH ws l (lyA p x k) j) wd):=by
       show _=_;rw[lyH,hwd,Int.toNat_natCast,List.getD_eq_getElem?_getD (l:=l),hn];rfl
      obtain ⟨ho1,ho2⟩:=lyH_ok ws l HL1.o j om;have ho3:=offN_le HD.o HWS.o (f:=j) om;have HO1:=hD ho1;have HO2:Hd ((lyH ws l (lyA p x k) j).2<=1600000):=by have:=HL2.o;show _<=_;omega
      have HNJ:=hD hn;have hji:(j:Int)<(ws.length:Int):=om;have wd1:wd<=128:=om;clear wz0 wz1 hwd ho1 ho2 ho3 hn hwb;go_wp2_with fail;generalize lyH ws l (lyA p x k) j=T at*;have HSb:Hd (LayX W0.heap.size gm gg W0 (lyW n wd T 0).1 (lyW n wd T 0).2 y wr):=HS.o;clear z0;go_loopg [43] wd (fun g3 iv wq=>∃(i:Nat) (y:Value),iv= .int .i64 i/\i+g3=wd/\Hd (LayX W0.heap.size gm gg W0 (lyW n wd T i).1 (lyW n wd T i).2 y wq))
      case atStart=>exact ⟨0,y,rfl,om,HSb⟩
      case round=>
       clear HS HSb;obtain ⟨i,y,rfl,hig,HS⟩:=hrel;by_cases hi:i<wd
       ·obtain ⟨-,hPB2⟩:=HQ.o wr HS.o.bel;have hvt:x.valid[h]?=some true:=HVB.o;obtain ⟨vg2,vc2,fg2,fc2,ug2,uc2,hat⟩:=hPB2.reads HLL.o HNJ.o hvt;have c3:=hat.c3;have cf:=hat.cf;have n0:=hat.n0;have n1:=hat.n1;obtain ⟨-,-,u,-,-,-,-,hnu⟩:=hPB2.getRow HLL.o;obtain ⟨pu,cu,rfl,-⟩:=hnu.row.shape;obtain ⟨nb,no,-,-,hnB,-,-⟩:=hnu.row.get HNJ.o;have HBI:Hd (∀ W,CR 59 #[.agg #[.int .u64 ((n/B:Nat):Int), .int .u64 ((n%B:Nat):Int)], .int .i64 ((wd:Int)-1-(i:Int))] W (.bool (n.testBit (wd-1-i)))):=fun W=>by
         have:=nBit_any n ((wd:Int)-1-(i:Int)) W hnB;rw[nBit_at n wd i hi wd1] at this;exact this
        obtain ⟨hk1,hk2⟩:=lyW_ok n wd HO1.o i;have HLA:Hd (∀ W,Bl wr W->Calls Tryz.prog 56 #[.bool (n.testBit (wd-1-i)), .pointer (some ⟨gm,0,none⟩), .pointer (some ⟨gg,0,none⟩)] W fun e w'=>e= .returned (.tuple #[])/\∃y',LayX W0.heap.size gm gg W0 (lyW n wd T (i+1)).1 (lyW n wd T (i+1)).2 y' w'):=fun W hb=>layE_any _ (HS.o.below hb) hk1 (by have:=HO2.o;omega)
        have hji2:(j:Int)<(l.length:Int):=by have:=HHL.o;omega
        have hhi2:(h:Int)<(x.fields.length:Int):=om;have hii:(i:Int)<(wd:Int):=om;clear hat hnu hnB hk1 hk2 hvt;generalize ((n/B:Nat):Int)=y0 at*;generalize ((n%B:Nat):Int)=y1 at*;generalize n.testBit (wd-1-i)=bt at*;go_wp2_with (first
         |(go_at_call 59;refine (HBI.o _).mono ?_;rintro e w5 ⟨rfl,hb5⟩;have HB5:=hD hb5;clear hb5)
         |(go_at_call 56;refine (HLA.o _ HB5.o).mono ?_;rintro e w6 ⟨rfl,y6,hs6⟩;have HS6:=hD hs6;clear hs6))
        go_roundg (wd-(i+1))
        case measure=>omega
        case rel=>exact ⟨i+1,y6,by go_num,om,HS6⟩
       obtain rfl:i=wd:=om;have hii:¬(i:Int)<(i:Int):=om;go_wp2_with fail;go_roundg (ws.length-(j+1))
       case measure=>omega
       case rel=>exact ⟨j+1,y,by go_num,om,by show LayX _ _ _ _ _ _ _ _;rw[HLN.o];exact HS.o⟩
     obtain rfl:j=ws.length:=om;have hji:¬(ws.length:Int)<(ws.length:Int):=om;go_wp2_with fail;go_roundg (s.en-(k+1))
     case measure=>omega
     case rel=>exact ⟨k+1,y,by go_num,om,by have:=HNX.o;simp only[if_true] at this;show LayX _ _ _ _ _ _ _ _;rw[this];exact HS.o⟩
  obtain rfl:k=s.en:=om;have hki:¬(s.en:Int)<(s.en:Int):=om;have c1:=hPB.cell (i:=1) rfl;have cy:wr.cell? ⟨gg,0,none⟩=some y:=by simp[World.cell?,HS.o.hy]
  have HSR:Hd (SrcAt wr 1 (.slice K.rp K.rn K.rc) x.rest.length (x.rest.flatMap fun n=>[Value.int .u8 n])):=(HR.o.below keepU (HW.o.trans (HS.o.bel.mono HW.o.size))).src flatU.toFlatG;have HRE:Hd ((lyA p x s.en).1++x.rest=emtP p x):=by show _=_;unfold emtP;rw[HEN.o]
  have HLE:Hd ((lyA p x s.en).1.length<=200000):=by
   obtain ⟨h1,h2⟩:=HLY.o s.en (by have:=HEN.o;omega);have h1:_=_:=h1;show _<=_;omega
  have hbz:W0.heap.size<=wr.heap.size:=HS.o.bel.size;have hle:=HLE.o;have hrl:=HRL.o;generalize lyA p x s.en=T at*;go_wp2_with (at_builtin;refine append_gen elemU8 rfl (.tmp 74) (.tmp 76) rfl W0.heap.size y T.1.length _ rfl HS.o.own (.slice K.rp K.rn K.rc) x.rest.length _ rfl HSR.o om (by unfold maxLen;omega) hbz ?_;intro y1 w1 h1 h2;have HO1:=hD h1;have HB1:Hd (Bl W0 w1):=below_grown HS.o.bel HS.o.own h2 lr hbz;clear h1 h2);go_ret;refine ⟨y1,rfl,?_,HW.o.trans (HB1.o.mono HW.o.size)⟩;rw[<- HRE.o,List.length_append,List.map_append];have:=own_base HO1.o (show w.heap.size<=W0.heap.size by have:=HSZ.o;omega);rw[flat_u8] at this;exact this
end Go.Proofs.YtikilcbpogfgkaaGreat
