/- Lemmas. -/
import Derived.Test.YtikilcbpogfgkaaGreatJI13
set_option maxHeartbeats 12800000
set_option maxRecDepth 100000
namespace Go.Proofs.YtikilcbpogfgkaaGreat
open Go.RowKit
variable {k g:Nat} {w0 w W:World} {t state:Int} {S N X:List Int}
def EBox (w:World) (g:Nat) (tab:Int) (ep:Option Addr) (en ec:Nat) (len prio act:Int) (gp:Option Addr) (gn gc:Nat):Prop:=w.heap[g]?=some (.cells #[.int .i64 tab, .slice ep en ec, .int .i64 len, .int .i64 prio, .int .i64 act, .slice gp gn gc] 125 (0,0))
section
variable {w w':World} {g:Nat} {tab len prio act:Int} {ep gp:Option Addr} {en ec gn gc:Nat}
theorem EBox.cells (h:EBox w g tab ep en ec len prio act gp gn gc):w.cell? ⟨g,0,none⟩=some (.int .i64 tab)/\w.cell? ⟨g,1,none⟩=some (.slice ep en ec)/\w.cell? ⟨g,2,none⟩=some (.int .i64 len)/\w.cell? ⟨g,3,none⟩=some (.int .i64 prio)/\w.cell? ⟨g,4,none⟩=some (.int .i64 act)/\w.cell? ⟨g,5,none⟩=some (.slice gp gn gc):=by
 unfold EBox at h;exact gG3
theorem EBox.below (h:EBox w g tab ep en ec len prio act gp gn gc) (hb:Bl w w'):EBox w' g tab ep en ec len prio act gp gn gc:=(hb.block g (gA_ h).1).trans h
end
structure EntOk (p:Prg) (e:Ent):Prop where
 t0:0<=e.tab
 t1:e.tab<(p.tabs.length:Int)
 run:mayRunP p (p.tabs.getD e.tab.toNat ⟨[],[],[],0,[]⟩).acts e.act e.args=true
theorem mask01_is (c:Int):∃h l:Int,∀W,Calls Tryz.prog 87 #[.int .i64 c] W fun e w'=>e= .returned (.agg #[.int .u64 h, .int .u64 l])/\Bl W w':=by
 obtain ⟨h,l,e,-,-⟩:=numV_parts (2 ^ sh c-1);refine ⟨h,l,fun W=>?_⟩;have:=refMask_any c W;unfold RetNum at this;rw[e] at this;exact this
theorem one12_any (s:PgS) (p:Prg) (x:Ent) (ep:Option Addr) (en ec:Nat) (gp:Option Addr) (gn gc:Nat) (w:World) (hp:PgOk w s p) (hS:Sm p) (hkd:∀t∈p.tabs,t.kinds.length=t.keys.length)
 (he:PRow w (.slice ep en ec) x.pats) (hg:NRow w (.slice gp gn gc) x.args) (hgn:gn<=1000000):
 Calls Tryz.prog 54 #[pgV s, .agg #[.int .i64 x.tab, .slice ep en ec, .int .i64 x.len, .int .i64 x.prio, .int .i64 x.act, .slice gp gn gc]] w fun e w'=>AnsB (fun b=>b=true->EntOk p x) e/\Bl w w':=by
 obtain ⟨hn1,-,-,-⟩:=hp.tabs.ln;obtain ⟨xt,hxt⟩:=nm x.tab;obtain ⟨xl,hxl⟩:=nm x.len;obtain ⟨xp,hxp⟩:=nm x.prio;obtain ⟨xa,hxa⟩:=nm x.act;rw[<- hxt, <-hxl, <-hxp, <-hxa];have HX:=hD (And.intro hxt hxa);have HP:=hD hp;have HSM:=hD hS;have HKD:=hD hkd;have HE:=hD he;have HGR:=hD hg;have HGN:=hD hgn;have HN:=hD hn1;have HLN:Hd (en=x.pats.length):=he.ln.1;have hstn:s.tn<=6000:=by have:=hS.tabs;omega
 have HWD:Hd (∀ W c cp cn cc,Bl w W->CRow W (.slice cp cn cc) c->cn<=6000->CR 82 #[pgV s, .int .i64 (-1), .slice cp cn cc] W (wRes (widthP p (-1) c))):=fun W c cp cn cc h hc hn=>width_any s p (-1) c cp cn cc W (hp.below h) hS hc hn
 clear hxt hxl hxp hxa hp hS hkd he hg hgn hn1;unfold pgV at HWD⊢;go_enter Tryz.func54,Tryz.ntmps54;go_upto_region 1 with fail;obtain ⟨W0,hW0⟩:=nm ((w.alloc (.cells (pA s) 33)).alloc (.cells #[.int .i64 xt, .slice ep en ec, .int .i64 xl, .int .i64 xp, .int .i64 xa, .slice gp gn gc] 125));have HB0:Hd (Bl w W0):=by show Below _ _ _;rw[hW0];exact bL
 have HPB:Hd (PBox W0 w.heap.size s):=by show _=_;rw[hW0,Below.heap_alloc _ _ _ sm];exact heap_new _ _
 have HEB:Hd (EBox W0 (w.heap.size+1) xt ep en ec xl xp xa gp gn gc):=by
  exact gZ
 rw[<- hW0];clear hW0;obtain ⟨q0,q1,q2,q3,q4,q5,q6,q7,q8,q9,q10,q11⟩:=HPB.o.cells;obtain ⟨a0,a1,a2,a3,a4,a5⟩:=HEB.o.cells;by_cases hA:0<=xt/\xt<(s.tn:Int)/\0<=xp/\xp<=65536
 ·obtain ⟨h1,h2,h3,h4⟩:=hA;obtain ⟨m,rfl⟩:∃m:Nat,xt=(m:Int):=⟨xt.toNat,om⟩;have b1:¬(m:Int)<0:=om;have b2:¬(s.tn:Int)<=(m:Int):=om;have b3:¬xp<0:=om;have b4:¬65536<xp:=om;obtain ⟨t,ht⟩:∃t,p.tabs[m]?=some t:=⟨_,gE_ (by have:=HN.o;omega)⟩;have htm:=gM_ ht;obtain ⟨tb,tq,htp,htb,⟨kp,kn,kc,y0,hy0⟩,⟨up,un,uc,y1,hy1⟩,⟨lp,ln,lc,y2,hy2⟩,y3,⟨dp,dn,dc,y4,hy4⟩⟩:=HP.o.tabs.get ht;obtain ⟨da,hda⟩:=nm t.dact;rw[<- hda] at y3;obtain ⟨rm,hrm⟩:=nm (mayRunP p t.acts xa x.args);have HMR:Hd (∀ W,Bl w W->CR 84 #[pgV s, .slice lp ln lc, .agg #[.int .i64 xa, .slice gp gn gc]] W (.bool rm)):=fun W h=>by rw[hrm];exact mayRun_any s p t.acts lp ln lc _ x.args gp gn gc W (HP.o.below h) HSM.o (hy2.below keepI h) (by have:=hy2.ln.1;have:=HSM.o.tacts t htm;omega) (HGR.o.below keepN h) HGN.o
  have HOK:Hd (rm=true->EntOk p x):=fun h=>⟨by rw[<- HX.o.1];exact h1,by rw[<- HX.o.1, <-HN.o];exact h2,by rw[<- HX.o.1, <-HX.o.2,Int.toNat_natCast,getD_some ht, <-hrm];exact h⟩
  have HKL:Hd (kn=t.keys.length/\un=t.keys.length/\kn<=6000):=⟨hy0.ln.1,by rw[hy1.ln.1];exact HKD.o t htm,by have:=hy0.ln.1;have:=HSM.o.tkeys t htm;omega⟩;have HKC:Hd (∀ c∈t.keys,c.length<=6000):=HSM.o.tcode t htm;have HKR:=hD hy0;have HUR:=hD hy1;have HTC:Hd (∀ W,Bl w W->Cl W tb (tq+m*5) (.slice kp kn kc)/\Cl W tb (tq+m*5+1) (.slice up un uc)/\Cl W tb (tq+m*5+2) (.slice lp ln lc)/\Cl W tb (tq+m*5+3) (.int .i64 da)/\Cl W tb (tq+m*5+4) (.slice dp dn dc)):=fun W h=>
   ⟨(h.cell (p:=⟨tb,tq+m*5,none⟩) htb).trans y0,(h.cell (p:=⟨tb,tq+m*5+1,none⟩) htb).trans y1,(h.cell (p:=⟨tb,tq+m*5+2,none⟩) htb).trans y2,(h.cell (p:=⟨tb,tq+m*5+3,none⟩) htb).trans y3,(h.cell (p:=⟨tb,tq+m*5+4,none⟩) htb).trans y4⟩
  obtain ⟨t0,t1,t2,t3,t4⟩:=HTC.o W0 HB0.o;unfold pgV at HMR;rw[htp] at q4;clear htp ht htm hda hrm hy0 hy1 hy2 hy4 y0 y1 y2 y3 y4 h1 h3 h4;go_upto_region 4 with fail;obtain ⟨W1,hW1⟩:=nm (W0.alloc (.cells #[.slice kp kn kc, .slice up un uc, .slice lp ln lc, .int .i64 da, .slice dp dn dc] 121));have HB1:Hd (Bl W0 W1):=by show Below _ _ _;rw[hW1];exact br.alloc lr _
  have HTB:Hd (TBox W1 W0.heap.size kp kn kc up un uc lp ln lc da dp dn dc):=by show _=_;rw[hW1];exact heap_new _ _
  rw[<- hW1];clear hW1 q0 q1 q2 q3 q4 q5 q6 q7 q8 q9 q10 q11 a0 a1 a2 a3 a4 a5 t0 t1 t2 t3 t4;have HB01:=hD (HB0.o.trans (HB1.o.mono HB0.o.size));have HCE:Hd (∀ W,Bl W1 W->Pgc W w.heap.size s/\(Cl W (w.heap.size+1) 0 (.int .i64 (m:Int))/\Cl W (w.heap.size+1) 1 (.slice ep en ec)/\Cl W (w.heap.size+1) 2 (.int .i64 xl)/\Cl W (w.heap.size+1) 3 (.int .i64 xp)/\Cl W (w.heap.size+1) 4 (.int .i64 xa)/\Cl W (w.heap.size+1) 5 (.slice gp gn gc))/\
   (Cl W W0.heap.size 0 (.slice kp kn kc)/\Cl W W0.heap.size 1 (.slice up un uc)/\Cl W W0.heap.size 2 (.slice lp ln lc)/\Cl W W0.heap.size 3 (.int .i64 da)/\Cl W W0.heap.size 4 (.slice dp dn dc))):=fun W h=>
   ⟨(HPB.o.below (HB1.o.trans (h.mono HB1.o.size))).cells,(HEB.o.below (HB1.o.trans (h.mono HB1.o.size))).cells,(HTB.o.below h).cells⟩
  obtain ⟨⟨q0,q1,q2,q3,q4,q5,q6,q7,q8,q9,q10,q11⟩,⟨a0,a1,a2,a3,a4,a5⟩,t0,t1,t2,t3,t4⟩:=HCE.o W1 br;by_cases hlen:en=kn
  ·subst hlen;have hne:((en:Int)!=(en:Int))=false:=by simp
   cases rm
   ·go_wp2_with (go_at_call 84;(with_reducible refine (HMR.o _ HB01.o).mono ?_);rintro e w2 ⟨rfl,hb2⟩;have HB2:=hD hb2;clear hb2);go_ret;exact ⟨⟨_,rfl,fun h=>by cases h⟩,HB01.o.trans (HB2.o.mono HB01.o.size)⟩
   ·go_wp2_with (go_at_call 84;(with_reducible refine (HMR.o _ HB01.o).mono ?_);rintro e w2 ⟨rfl,hb2⟩;have HB2:=hD hb2;clear hb2);clear q0 q1 q2 q3 q4 q5 q6 q7 q8 q9 q10 q11 a0 a1 a2 a3 a4 a5 t0 t1 t2 t3 t4;go_loopw [6,7,8,9,10,11] (fun v6 v7 v8 v9 v10 v11 wr=>∃(k:Nat) (z:Int),k<=en/\v7= .int .i64 k/\v6= .int .i64 z/\Hd (Bl W1 wr)) (fun v6 v7 v8 v9 v10 v11 _=>en-(intOf v7).toNat)
    case atStart=>exact ⟨0,_,zl,rfl,rfl,HB2.o⟩
    case round=>
     obtain ⟨k,z,hk,rfl,rfl,HW⟩:=hrel;obtain ⟨⟨q0,q1,q2,q3,q4,q5,q6,q7,q8,q9,q10,q11⟩,⟨a0,a1,a2,a3,a4,a5⟩,t0,t1,t2,t3,t4⟩:=HCE.o wr HW.o;by_cases hlt:k<en
     ·have hki:(k:Int)<(en:Int):=om;have hb6:en<=6000:=by have:=HKL.o;omega
      have hun:(k:Int)<(un:Int):=by have:=HKL.o;omega
      obtain ⟨c,hc⟩:∃c,t.keys[k]?=some c:=⟨_,gE_ (by have:=HKL.o;omega)⟩;obtain ⟨pt,hpt⟩:∃c,x.pats[k]?=some c:=⟨_,gE_ (by have:=HLN.o;omega)⟩;have hbw:=HB01.o.trans (HW.o.mono HB01.o.size);obtain ⟨kb,ko,cp,cn,cc,hkp,hkb,y0,hy0⟩:=CsRow.el (HKR.o.below keepCs hbw) hc;obtain ⟨ub,uo,hup,hub,y1⟩:=URow.el (HUR.o.below keepU hbw) (j:=k) (by have:=HKL.o;have:=HUR.o.ln.1;omega);obtain ⟨pb,po,hpp,hpb,⟨hv,y2,y3⟩,hm,y4,y5⟩:=(HE.o.below keepP hbw).get hpt;obtain ⟨wv,wb,hwr⟩:∃wv wb,wRes (widthP p (-1) c)= .tuple #[.int .i64 wv, .bool wb]:=by cases widthP p (-1) c<;>exact ⟨_,_,rfl⟩
      have HC:Hd (∀ W,Bl wr W->CR 82 #[.agg (pA s), .int .i64 (-1), .slice cp cn cc] W (.tuple #[.int .i64 wv, .bool wb])):=fun W h=>by rw[<- hwr];exact HWD.o W c cp cn cc (hbw.trans (h.mono hbw.size)) (hy0.below keepNd h) (by have:=hy0.ln.1;have:=HKC.o c (gM_ hc);omega)
      have HMA:=hD (may11_any pt.v pt.m hv hm);have HLE:=hD (length11_any pt.v pt.m hv hm);generalize ((pt.v/B:Nat):Int)=v0 at*;generalize ((pt.v%B:Nat):Int)=v1 at*;generalize ((pt.m/B:Nat):Int)=m0 at*;generalize ((pt.m%B:Nat):Int)=m1 at*;obtain ⟨kd,hkd⟩:=nm (t.kinds.getD k 0);rw[<- hkd] at y1;rw[hkp] at t0;rw[hup] at t1;rw[hpp] at a1;have HEC:Hd (∀ W,Bl wr W->Cl W kb (ko+k) (.slice cp cn cc)/\Cl W ub (uo+k) (.int .u8 kd)/\Cl W pb (po+k*4) (.int .u64 v0)/\Cl W pb (po+k*4+1) (.int .u64 v1)/\Cl W pb (po+k*4+2) (.int .u64 m0)/\Cl W pb (po+k*4+2+1) (.int .u64 m1)):=fun W h=>
       ⟨(h.cell (p:=⟨kb,ko+k,none⟩) hkb).trans y0,(h.cell (p:=⟨ub,uo+k,none⟩) hub).trans y1,(h.cell (p:=⟨pb,po+k*4,none⟩) hpb).trans y2,(h.cell (p:=⟨pb,po+k*4+1,none⟩) hpb).trans y3,(h.cell (p:=⟨pb,po+k*4+2,none⟩) hpb).trans y4,(h.cell (p:=⟨pb,po+k*4+2+1,none⟩) hpb).trans y5⟩
      have HCN:Hd (∀ W,Bl wr W->Pgc W w.heap.size s/\Cl W (w.heap.size+1) 1 (.slice (some ⟨pb,po,none⟩) en ec)/\Cl W W0.heap.size 0 (.slice (some ⟨kb,ko,none⟩) en kc)/\Cl W W0.heap.size 1 (.slice (some ⟨ub,uo,none⟩) un uc)):=fun W h=>by
       obtain ⟨c1,⟨-,c2,-⟩,c3,c4,-⟩:=HCE.o W (HW.o.trans (h.mono HW.o.size));rw[hpp] at c2;rw[hkp] at c3;rw[hup] at c4;exact ⟨c1,c2,c3,c4⟩
      clear hc hpt hbw hkp hup hpp hy0 y0 y1 y2 y3 y4 y5 hv hm hwr hkd hkb hub hpb;go_upto_region 10 with fail;clear q0 q1 q2 q3 q4 q5 q6 q7 q8 q9 q10 q11 a0 a1 a2 a3 a4 a5 t0 t1 t2 t3 t4;refine roB wr ?_;refine sq (fun aa ww ll hh=>by have:=hh.oL 2;obtain ⟨⟨q0,q1,q2,q3,q4,q5,q6,q7,q8,q9,q10,q11⟩,c2,c3,c4⟩:=HCN.o ww hh.inv;exact ov (fC (HEC.o ww hh.inv))) ?_;refine sq (fun aa ww ll hh=>by have:=hh.oL 5;exact ov gX) ?_;refine sq (fun aa ww ll hh=>by have:=hh.gt 1 0;obtain ⟨⟨q0,q1,q2,q3,q4,q5,q6,q7,q8,q9,q10,q11⟩,c2,c3,c4⟩:=HCN.o ww hh.inv;exact ov (fC (HEC.o ww hh.inv))) ?_;refine sq (fun aa ww ll hh=>by exact ov (xmv (hh.oL 7))) ?_;refine sq (fun aa ww ll hh=>by have:=hh.gt 2 1;have:=hh.gt 3 0;exact ov gX) ?_;refine sq (fun aa ww ll hh=>by have:=hh.gt 4 0;obtain ⟨⟨q0,q1,q2,q3,q4,q5,q6,q7,q8,q9,q10,q11⟩,c2,c3,c4⟩:=HCN.o ww hh.inv;exact ov (fC (HEC.o ww hh.inv))) ?_;refine ⟨.eq (.tuple #[.int .i64 wv, .bool wb]),trivial,rfl,fun aa ww ll hh=>?_,?_⟩
      ·have e63:=hh.gt 0 5;have e68:=hh.gt 5 0;exact gI3
      refine stm 6 0 ?_;refine sq (fun aa ww ll hh=>by have:=hh.gt 7 0;exact ov gX) ?_;refine sq (fun aa ww ll hh=>by have:=hh.gt 7 1;exact ov gX) ?_;refine stm 8 1 ?_;refine stm 9 1 ?_;intro ll w3 hS hok;clear hok;simp only[ly];have HB3:=hD hS;clear hS;obtain ⟨c1,c2,c3,c4⟩:=HCN.o w3 HB3.o;obtain ⟨d0,d1,d2,d3,d4,d5⟩:=HEC.o w3 HB3.o;clear c1;go_upto_region 14 with (first
       |(go_at_call 85;(with_reducible refine (HMA.o _ _).mono ?_);rintro e w4 ⟨⟨bm,rfl,-⟩,hb4⟩;have HB4:=hD (HB3.o.trans (hb4.mono HB3.o.size));clear hb4;obtain ⟨-,c2,c3,c4⟩:=HCN.o w4 HB4.o;obtain ⟨d0,d1,d2,d3,d4,d5⟩:=HEC.o w4 HB4.o)
       |(go_at_call 86;(with_reducible refine (HLE.o _ _).mono ?_);rintro e w5 ⟨⟨ln5,bl5,rfl⟩,hb5⟩;have HB5:=hD (HB4.o.trans (hb5.mono HB4.o.size));clear hb5;obtain ⟨-,c2,c3,c4⟩:=HCN.o w5 HB5.o;obtain ⟨d0,d1,d2,d3,d4,d5⟩:=HEC.o w5 HB5.o))
      ·go_ret;exact ⟨⟨_,rfl,fun h=>by cases h⟩,HB01.o.trans ((HW.o.trans (HB4.o.mono HW.o.size)).mono HB01.o.size)⟩
      clear c2 c3 c4 d0 d1 d2 d3 d4 d5;have HCM:Hd (∀ W,Bl w5 W->(Cl W (w.heap.size+1) 1 (.slice (some ⟨pb,po,none⟩) en ec)/\Cl W W0.heap.size 0 (.slice (some ⟨kb,ko,none⟩) en kc)/\Cl W W0.heap.size 1 (.slice (some ⟨ub,uo,none⟩) un uc))/\(Cl W kb (ko+k) (.slice cp cn cc)/\Cl W ub (uo+k) (.int .u8 kd)/\Cl W pb (po+k*4) (.int .u64 v0)/\Cl W pb (po+k*4+1) (.int .u64 v1)/\Cl W pb (po+k*4+2) (.int .u64 m0)/\Cl W pb (po+k*4+2+1) (.int .u64 m1))):=fun W h=>
       ⟨(HCN.o W (HB5.o.trans (h.mono HB5.o.size))).2,HEC.o W (HB5.o.trans (h.mono HB5.o.size))⟩
      have HZ5:Hd (Bl w w5/\Bl W1 w5):=⟨HB01.o.trans ((HW.o.trans (HB5.o.mono HW.o.size)).mono HB01.o.size),HW.o.trans (HB5.o.mono HW.o.size)⟩;by_cases hk1:kd=1
      ·subst hk1;have e1:((1:Int)==1)=true:=rfl;have e2:((1:Int)==2)=false:=rfl;obtain ⟨mh,ml,hmk⟩:=mask01_is wv;have HMK:=hD hmk;obtain ⟨rb,hrb⟩:∃r:Bool,r=if m0=mh then (if m1=ml then false else true) else true:=⟨_,rfl⟩
       have HRB:=hD hrb;clear hrb;clear hmk;refine roB w5 ?_;refine sq (fun aa ww ll hh=>by have:=hh.oL 5;exact ov gX) ?_;refine sq (fun aa ww ll hh=>by have:=hh.gt 0 0;exact ov (fC (HCM.o ww hh.inv))) ?_;refine sq (fun aa ww ll hh=>by exact ov (xmv (hh.oL 7))) ?_;refine sq (fun aa ww ll hh=>by have:=hh.gt 1 1;have:=hh.gt 2 0;exact ov gX) ?_;refine sq (fun aa ww ll hh=>by have:=hh.gt 3 0;exact ov (fC (HCM.o ww hh.inv))) ?_;refine sq (fun aa ww ll hh=>by have:=hh.gt 4 0;have ec:=evc aa;exact ov gX) ?_;refine stm 5 0 ?_;refine sq (fun aa ww ll hh=>by have:=hh.oL 3;exact hh.og 0 gX) ?_;refine sq (fun aa ww ll hh=>by have:=hh.gt 7 0;exact hh.og 1 (fC (HCM.o ww hh.inv))) ?_;refine sq (fun aa ww ll hh=>by exact hh.og 2 (xmv (hh.oL 7))) ?_;refine sq (fun aa ww ll hh=>by have:=hh.gt 8 1;have:=hh.gt 9 0;exact hh.og 3 gX) ?_;refine sq (fun aa ww ll hh=>by have:=hh.gt 10 0;exact hh.og 4 gX) ?_;refine sq (fun aa ww ll hh=>by have:=hh.gt 11 0;exact hh.og 5 (fC (HCM.o ww hh.inv))) ?_;refine sq (fun aa ww ll hh=>by exact hh.og 6 (xmv (hh.oL 8))) ?_;refine ⟨.eq (.agg #[.int .u64 mh, .int .u64 ml]),trivial,rfl,fun aa ww ll hh=>?_,?_⟩
       ·have e103:=hh.gt 13 0;have ef:=evf aa;refine out_call_eq (hh.go 7 rfl kq rfl rfl) ?_ (HMK.o ww);exact gX
       refine ⟨.eq (.bool rb),trivial,rfl,fun aa ww ll hh=>?_,?_⟩
       ·have e102:=hh.gt 12 2;have e104:=hh.gt 14 0;refine hh.og 8 ?_;clear hh;generalize aa.eval=ev at e102 e104⊢;go_simp;rw[HRB.o];repeat' split
        all_goals rfl
       exact gE1
      have e0:¬kd=1:=hk1;have e1:(kd==1)=false:=by rw[beq_eq_false_iff_ne];exact hk1
      rcases (show kd=2\/¬kd=2 by omega) with hk2|hk2
      ·have e2:(kd==2)=true:=by rw[beq_iff_eq];exact hk2
       exact gK
      have e2:(kd==2)=false:=by rw[beq_eq_false_iff_ne];exact hk2
      exact gK
     obtain rfl:k=en:=om;have hki:¬(k:Int)<(k:Int):=om;go_wp2_with fail;go_ret;exact ⟨⟨_,rfl,fun _=>HOK.o (by trivial)⟩,HB01.o.trans (HW.o.mono HB01.o.size)⟩
  have hne:((en:Int)!=(kn:Int))=true:=by rw[bne_iff_ne];omega
  have hne2:¬(en:Int)=(kn:Int):=om;go_wp2_with fail;go_ret;exact ⟨⟨_,rfl,fun h=>by cases h⟩,HB01.o⟩
 rcases (show xt<0\/(¬ xt<0/\(s.tn:Int)<=xt)\/(¬ xt<0/\¬(s.tn:Int)<=xt/\xp<0)\/(¬ xt<0/\¬(s.tn:Int)<=xt/\¬xp<0/\65536<xp) by omega) with g1|⟨g1,g2⟩|⟨g1,g2,g3⟩|⟨g1,g2,g3,g4⟩
 all_goals
  go_wp2_with fail;go_ret;exact ⟨⟨_,rfl,fun h=>by cases h⟩,HB0.o⟩
open Go.RowKit
def OwnI (B:Nat) (W:World) (v:Value) (l:List Int):Prop:=W.ownsRow B 3 1 v l.length (l.map (Value.int .i64))
def Ap (u v:Value):Prop:=u.ownBlock=none\/u.ownBlock≠v.ownBlock
theorem Ap.symm {u v:Value} (h:Ap u v):Ap v u:=by
 unfold Ap at*;by_cases h1:v.ownBlock=none
 ·exact .inl h1
 right;rcases h with h|h
 ·rw[h];exact h1
 exact fun e=>h e.symm
theorem ap_nil (u:Value):Ap u (.slice none 0 0):=by
 unfold Ap;by_cases h:u.ownBlock=none
 ·exact .inl h
 exact .inr h
theorem nil_ap (u:Value):Ap (.slice none 0 0) u:=(ap_nil u).symm
structure Grw (W W':World) (v v':Value):Prop where
 grown:W.grownBy W' v.ownBlock
 lies:v'.ownBlock=v.ownBlock\/v'.ownBlock=some W.heap.size
section
variable {B:Nat} {W W':World} {u v v':Value} {l m:List Int}
theorem OwnI.alloc (h:OwnI B W v l) (o:Obj):OwnI B (W.alloc o) v l:=World.ownsRow.alloc h o
theorem OwnI.below (h:OwnI B W v l) (hb:Bl W W'):OwnI B W' v l:=by
 obtain ⟨h1,h2⟩:=h;refine ⟨h1,?_⟩;rcases h2 with h2|⟨g,cap,cur,h3,h4,h5,h6⟩
 ·exact .inl h2
 exact .inr ⟨g,cap,cur,h3,h4,(hb.block g (gA_ h5).1).trans h5,h6⟩
theorem OwnI.nil (B:Nat) (W:World):OwnI B W (.slice none 0 0) []:=World.ownsRow_nil _ _ _ _
theorem OwnI.one (W:World) (z:Int) (hB:B<=W.heap.size):OwnI B (W.alloc (.cells #[.int .i64 z] 3)) (.slice (some ⟨W.heap.size,0,none⟩) 1 1) [z]:=
 World.ownsRow_lit W #[.int .i64 z] 1 hB dq sm
theorem flat_ints:∀l:List Int,l.flatMap (fun n=>[Value.int .i64 n])=l.map (Value.int .i64)
 |[]=>rfl
 |a::l=>by rw[List.flatMap_cons,flat_ints l];rfl
theorem OwnI.row (h:OwnI B W v l):IRow W v l:=RowAt.of_flat flatI rfl (by
 rw[flat_ints];exact h)
theorem OwnI.shape (h:OwnI B W v l):∃pa c,v= .slice pa l.length c:=by
 obtain ⟨pa,c,e,-⟩:=h.row;exact ⟨pa,c,e⟩
theorem OwnI.lt (h:OwnI B W v l) (hk:v.ownBlock=some k):k<W.heap.size:=(World.ownsRow.lt h k hk).2
theorem Grw.own (hg:Grw W W' v v') (hu:OwnI B W u l) (ha:Ap u v):OwnI B W' u l:=World.ownsRow.kept hu hg.grown ha
theorem Grw.ap (hg:Grw W W' v v') (hu:OwnI B W u l) (ha:Ap u v):Ap u v':=by
 rcases hg.lies with h|h
 ·unfold Ap at *;rw[h];exact ha
 unfold Ap;rw[h];by_cases h1:u.ownBlock=none
 ·exact .inl h1
 refine .inr fun e=>?_
 have:=hu.lt e;omega
theorem Grw.below {b:Nat} (hg:Grw W W' v v') (hv:OwnI B W v l) (hb:Below b w0 W) (hB:b<=B) (hs:b<=W.heap.size):Below b w0 W':=below_grown hb hv hg.grown hB hs
theorem SBox.grw {tp kp bp:Option Addr} {tn tc kn kc bn bc:Nat} {tq:Int} (h:SBox W g tp tn tc kp kn kc bp bn bc tq) (hg:Grw W W' v v') (hv:OwnI B W v l):SBox W' g tp tn tc kp kn kc bp bn bc tq:=by
 have h0:=h;unfold SBox at h⊢;rw[<- h];refine hg.grown.block g (gA_ h).1 fun e=>?_
 rcases hv.2 with ⟨q,-⟩|⟨g',cap,cur,q1,-,q2,-⟩
 ·rw[q] at e;cases e
 rw[q1] at e;simp only[Value.ownBlock,Option.some.injEq] at e;subst e;rw[h] at q2;simp only[Option.some.injEq,Obj.cells.injEq] at q2;exact absurd q2.2.1 dq
end
def set4 (w:World) (g:Nat) (b0 b1 b2 b3:Value):World:=((((w.setCell ⟨g,0,none⟩ b0).setCell ⟨g,1,none⟩ b1).setCell ⟨g,2,none⟩ b2).setCell ⟨g,3,none⟩ b3)
theorem set4_heap {t:TypeId} {a0 a1 a2 a3:Value} (b0 b1 b2 b3:Value) (h:w.heap[g]?=some (.cells #[a0,a1,a2,a3] t (0,0))):(set4 w g b0 b1 b2 b3).heap[g]?=some (.cells #[b0,b1,b2,b3] t (0,0)):=by
 have h0:(w.setCell ⟨g,0,none⟩ b0).heap[g]?=some (.cells #[b0,a1,a2,a3] t (0,0)):=heap_setCell_same w g 0 _ t b0 h;have h1:((w.setCell ⟨g,0,none⟩ b0).setCell ⟨g,1,none⟩ b1).heap[g]?=some (.cells #[b0,b1,a2,a3] t (0,0)):=heap_setCell_same (w.setCell ⟨g,0,none⟩ b0) g 1 _ t b1 h0;have h2:(((w.setCell ⟨g,0,none⟩ b0).setCell ⟨g,1,none⟩ b1).setCell ⟨g,2,none⟩ b2).heap[g]?=some (.cells #[b0,b1,b2,a3] t (0,0)):=heap_setCell_same ((w.setCell ⟨g,0,none⟩ b0).setCell ⟨g,1,none⟩ b1) g 2 _ t b2 h1;have h3:((((w.setCell ⟨g,0,none⟩ b0).setCell ⟨g,1,none⟩ b1).setCell ⟨g,2,none⟩ b2).setCell ⟨g,3,none⟩ b3).heap[g]?=some (.cells #[b0,b1,b2,b3] t (0,0)):=heap_setCell_same (((w.setCell ⟨g,0,none⟩ b0).setCell ⟨g,1,none⟩ b1).setCell ⟨g,2,none⟩ b2) g 3 _ t b3 h2;exact h3
theorem set4_below {B:Nat} (b0 b1 b2 b3:Value) (h:Below B w0 w) (hg:B<=g):Below B w0 (set4 w g b0 b1 b2 b3):=by
 unfold set4;exact ((((h.setCell hg b0).setCell hg b1).setCell hg b2).setCell hg b3)
theorem app_int {ops:Array Oper} {rest:List Oper} {o:Oper} {a:Act} {Q:Exit->Act->World->Prop} (hgd:o.guard=none) (s x:Operand)
 (ho:o.op= .call { callee:= .builtin .append,args:=#[s,x],argTypes:=#[23,23] })
 (B:Nat) (v:Value) (l:List Int) (hs:a.eval s=v) (hown:OwnI B W v l) (g:Nat) (z:Int) (hx:a.eval x= .slice (some ⟨g,0,none⟩) 1 1) (hc:W.cell? ⟨g,0,none⟩=some (.int .i64 z)) (hl:l.length<=1000000) (hbase:B<=W.heap.size)
 (h:∀v' W',OwnI B W' v' (l++[z])->Grw W W' v v'->wpList Tryz.prog ops Q rest (a.put o.dst v') W'):wpList Tryz.prog ops Q (o::rest) a W:=by
 obtain ⟨i0,hi,hz0,hz1,hz2⟩:=info_parts infoInt;have hcell:∀j u,[Value.int .i64 z][j]?=some u->W.cell? ((⟨g,0,none⟩:Addr).add j)=some u:=by
  exact gY2
 exact wpList_append_own_at _ hgd s x _ ho B 3 i0 (.int .i64 0) 1 8 Tryz.underlying23 hi hz0 hz1 hz2 rfl dq v l.length (l.map (Value.int .i64)) hs hown ⟨g,0,none⟩ 1 1 [.int .i64 z] hx rfl hcell (fun u hu=>by simp at hu;subst hu;rfl) (by unfold maxLen;omega) om hbase fun v' w' h1 h2 _ h3=>h v' w' (by unfold OwnI;simpa using h1) ⟨h2,h3⟩
structure Rws (B:Nat) (W:World) (a b c d:Value) (S N X T:List Int):Prop where
 s:OwnI B W a S
 n:OwnI B W b N
 x:OwnI B W c X
 t:OwnI B W d T
 sn:Ap a b
 sx:Ap a c
 st:Ap a d
 nx:Ap b c
 nt:Ap b d
 xt:Ap c d
section
variable {B:Nat} {W W':World} {a b c d v':Value} {S N X T L:List Int}
theorem Rws.alloc (h:Rws B W a b c d S N X T) (o:Obj):Rws B (W.alloc o) a b c d S N X T:=⟨h.s.alloc o,h.n.alloc o,h.x.alloc o,h.t.alloc o,h.sn,h.sx,h.st,h.nx,h.nt,h.xt⟩
theorem Rws.below (h:Rws B W a b c d S N X T) (hb:Bl W W'):Rws B W' a b c d S N X T:=⟨h.s.below hb,h.n.below hb,h.x.below hb,h.t.below hb,h.sn,h.sx,h.st,h.nx,h.nt,h.xt⟩
theorem Rws.appS (h:Rws B W a b c d S N X T) (ho:OwnI B W' v' L) (hg:Grw W W' a v'):Rws B W' v' b c d L N X T:=
 ⟨ho,hg.own h.n h.sn.symm,hg.own h.x h.sx.symm,hg.own h.t h.st.symm,(hg.ap h.n h.sn.symm).symm,(hg.ap h.x h.sx.symm).symm,(hg.ap h.t h.st.symm).symm,h.nx,h.nt,h.xt⟩
theorem Rws.appX (h:Rws B W a b c d S N X T) (ho:OwnI B W' v' L) (hg:Grw W W' c v'):Rws B W' a b v' d S N L T:=
 ⟨hg.own h.s h.sx,hg.own h.n h.nx,ho,hg.own h.t h.xt.symm,h.sn,hg.ap h.s h.sx,h.st,hg.ap h.n h.nx,h.nt,(hg.ap h.t h.xt.symm).symm⟩
theorem Rws.appT (h:Rws B W a b c d S N X T) (ho:OwnI B W' v' L) (hg:Grw W W' d v'):Rws B W' a b c v' S N X L:=
 ⟨hg.own h.s h.st,hg.own h.n h.nt,hg.own h.x h.xt,ho,h.sn,h.sx,hg.ap h.s h.st,h.nx,hg.ap h.n h.nt,hg.ap h.x h.xt⟩
theorem Rws.noT (h:Rws B W a b c d S N X T):Rws B W a b c (.slice none 0 0) S N X []:=⟨h.s,h.n,h.x,OwnI.nil _ _,h.sn,h.sx,ap_nil _,h.nx,ap_nil _,ap_nil _⟩
theorem Rws.turn (h:Rws B W a b c d S N X T):Rws B W a c (.slice none 0 0) (.slice none 0 0) S X [] []:=⟨h.s,h.x,OwnI.nil _ _,OwnI.nil _ _,h.sx,ap_nil _,ap_nil _,ap_nil _,ap_nil _,ap_nil _⟩
end
theorem Rws.tcell {B:Nat} {a b c:Value} {T:List Int} {pa:Option Addr} {n cap:Nat} (h:Rws B W a b c (.slice pa n cap) S N X T) (ht:T[k]?=some t):∃tb tq,pa=some ⟨tb,tq,none⟩/\W.cell? ⟨tb,tq+k,none⟩=some (.int .i64 t):=by
 obtain ⟨tb,tq,e,-,hc⟩:=RowAt.get h.t.row ht;exact ⟨tb,tq,e,by rw[Nat.mul_one] at hc;exact hc⟩
structure Bd (p:Prg) (S X:List Int):Prop where
 nd:S.Nodup
 bd:∀t∈S,0<=t/\t<(p.steps.length:Int)
 xl:X.length<=S.length
theorem Bd.len {p:Prg} (h:Bd p S X):S.length<=p.steps.length:=nodup_len h.nd h.bd
theorem Bd.push {p:Prg} (h:Bd p S X) (hn:¬t∈S) (h0:0<=t) (h1:t<(p.steps.length:Int)):Bd p (S++[t]) (X++[t]) where
 nd:=by
  rw[List.nodup_append];refine ⟨h.nd,by simp,fun a ha b hb=>?_⟩;simp at hb;subst hb;intro e;subst e;exact hn ha
 bd:=fun u hu=>by
  rw[List.mem_append] at hu;rcases hu with hu|hu
  ·exact h.bd u hu
  ·simp at hu;subst hu;exact ⟨h0,h1⟩
 xl:=by simp;exact h.xl
theorem CycI.bnd {p:Prg} {fuel:Nat} {seen now:List Int} (h:CycI p state fuel seen now):Bd p seen []:=⟨h.nd,h.bd,by simp⟩
def contV (p:Prg) (state:Int) (r:List Int):Option (List Int×List Int)->Option (List Int×List Int)
 |none=>none
 |some s=>visN p state r s
theorem visN_at {p:Prg} {j:Nat} (h:N[j]?=some t) (s:List Int×List Int):visN p state (N.drop j) s=contV p state (N.drop (j+1)) (visT state (goesP (stepAt p t)) s):=by
 obtain ⟨hj,e⟩:=gL_ h;rw[List.drop_eq_getElem_cons hj,e];rfl
theorem visT_at {L:List Int} (h:L[k]?=some t) (S X:List Int):visT state (L.drop k) (S,X)=if t=state then none else if 0<=t/\¬t∈S then visT state (L.drop (k+1)) (S++[t],X++[t]) else visT state (L.drop (k+1)) (S,X):=by
 obtain ⟨hj,e⟩:=gL_ h;rw[List.drop_eq_getElem_cons hj,e];rfl
theorem visT_end (state:Int) (L:List Int) (s:List Int×List Int):visT state (L.drop L.length) s=some s:=by rw[List.drop_length];rfl
theorem visN_end (p:Prg) (state:Int) (L:List Int) (s:List Int×List Int):visN p state (L.drop L.length) s=some s:=by rw[List.drop_length];rfl
theorem goesP_ln (x:Stp):(goesP x).length<=1+x.brs.length:=by
 unfold goesP;rw[List.length_append,List.length_map];split<;>simp<;>omega
theorem brs_take (x:Stp) {y:Brn} (h:x.brs[k]?=some y):(x.brs.take k).map (·.to)++[y.to]=(x.brs.take (k+1)).map (·.to):=by
 rw[List.take_add_one,h];simp
theorem goesIn_of {p:Prg} (h:∀x∈p.steps,mayStepP p x=true):GoesIn p:=by
 intro i s hs t ht;have h1:=h s (gM_ hs);unfold mayStepP at h1;simp only[Bool.and_eq_true,decide_eq_true_eq] at h1;obtain ⟨⟨⟨-,-,-,h2⟩,-⟩,h3⟩:=h1;unfold goesP at ht;rw[List.mem_append] at ht;rcases ht with ht|ht
 ·split at ht
  ·simp at ht;subst ht;exact h2
  simp at ht
 obtain ⟨b,hb,rfl⟩:=List.mem_map.1 ht;split at h3
 ·rename_i hk;rw[decide_eq_true_eq] at h3;have:=List.length_pos_of_mem hb;omega
 rename_i hk;simp only[Bool.and_eq_true,decide_eq_true_eq] at h3;obtain ⟨-,h4⟩:=h3;obtain ⟨c,hc⟩:∃c,s.keys[0]?=some c:=⟨_,gE_ om⟩;have h5:=(allIdx_iff.1 h4) 0 c hc;split at h5
 ·cases h5
 have h6:=(List.all_eq_true.1 h5) b hb;simp only[Bool.and_eq_true,decide_eq_true_eq] at h6;exact h6.1.2.1
def lenOf:Value->Nat
 | .slice _ n _=>n
 |_=>0
end Go.Proofs.YtikilcbpogfgkaaGreat
