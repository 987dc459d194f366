/-
  Lemmas, joined: EntB, CycM.
-/
import Derived.Test.YtjfhfaodbjecdaaGreatJC12
import Derived.Test.YtjfhfaodbjecdaaGreatJC13
import Derived.Test.YtjfhfaodbjecdaaGreatJC01
import Derived.Test.YtjfhfaodbjecdaaGreatJC11
import Derived.Maps.AppendAt
set_option maxHeartbeats 12800000
set_option maxRecDepth 100000
namespace Go.Proofs.YtjfhfaodbjecdaaGreat
open Go.RowKit
def EBox (w:World) (g:Nat) (tab:Int) (ep:Option Addr) (en ec:Nat) (len prio act:Int) (gp:Option Addr) (gn gc:Nat):Prop:=w.heap[g]?=some (.cells #[.int .i64 tab, .slice ep en ec, .int .i64 len, .int .i64 prio, .int .i64 act, .slice gp gn gc] 98 (0,0))
section
variable {w w':World} {g:Nat} {tab len prio act:Int} {ep gp:Option Addr} {en ec gn gc:Nat}
theorem EBox.cells (h:EBox w g tab ep en ec len prio act gp gn gc):w.cell? ⟨g,0,none⟩=some (.int .i64 tab)/\w.cell? ⟨g,1,none⟩=some (.slice ep en ec)/\w.cell? ⟨g,2,none⟩=some (.int .i64 len)/\w.cell? ⟨g,3,none⟩=some (.int .i64 prio)/\w.cell? ⟨g,4,none⟩=some (.int .i64 act)/\w.cell? ⟨g,5,none⟩=some (.slice gp gn gc):=by
 unfold EBox at h;refine ⟨?_,?_,?_,?_,?_,?_⟩<;>simp[World.cell?,h]
theorem EBox.below (h:EBox w g tab ep en ec len prio act gp gn gc) (hb:Below w.heap.size w w'):EBox w' g tab ep en ec len prio act gp gn gc:=(hb.block g (Array.getElem?_eq_some_iff.1 h).1).trans h
end
structure EntOk (p:Prg) (e:Ent):Prop where
 t0:0<=e.tab
 t1:e.tab<(p.tabs.length:Int)
 run:mayRunP p (p.tabs.getD e.tab.toNat ⟨[],[],[],0,[]⟩).acts e.act e.args=true
theorem mask01_is (c:Int):∃h l:Int,∀W,Calls Tryz.prog 65 #[.int .i64 c] W fun e w'=>e= .returned (.agg #[.int .u64 h, .int .u64 l])/\Below W.heap.size W w':=by
 obtain ⟨h,l,e,-,-⟩:=numV_parts (2 ^ sh c-1);refine ⟨h,l,fun W=>?_⟩;have:=refMask_any c W;unfold RetNum at this;rw[e] at this;exact this
theorem one12_any (s:PgS) (p:Prg) (x:Ent) (ep:Option Addr) (en ec:Nat) (gp:Option Addr) (gn gc:Nat) (w:World) (hp:PgOk w s p) (hS:Sm p) (hkd:∀t∈p.tabs,t.kinds.length=t.keys.length)
 (he:PRow w (.slice ep en ec) x.pats) (hg:NRow w (.slice gp gn gc) x.args) (hgn:gn<=1000000):
 Calls Tryz.prog 40 #[pgV s, .agg #[.int .i64 x.tab, .slice ep en ec, .int .i64 x.len, .int .i64 x.prio, .int .i64 x.act, .slice gp gn gc]] w fun e w'=>AnsB (fun b=>b=true->EntOk p x) e/\Below w.heap.size w w':=by
 obtain ⟨hn1,-,-,-⟩:=hp.tabs.ln;obtain ⟨xt,hxt⟩:∃z,z=x.tab:=⟨_,rfl⟩;obtain ⟨xl,hxl⟩:∃z,z=x.len:=⟨_,rfl⟩;obtain ⟨xp,hxp⟩:∃z,z=x.prio:=⟨_,rfl⟩;obtain ⟨xa,hxa⟩:∃z,z=x.act:=⟨_,rfl⟩;rw[<- hxt, <-hxl, <-hxp, <-hxa];have HX:=hD (And.intro hxt hxa);have HP:=hD hp;have HSM:=hD hS;have HKD:=hD hkd;have HE:=hD he;have HGR:=hD hg;have HGN:=hD hgn;have HN:=hD hn1;have HLN:Hid (en=x.pats.length):=he.ln.1;have hstn:s.tn<=6000:=by have:=hS.tabs;omega
 have HWD:Hid (∀ W c cp cn cc,Below w.heap.size w W->CRow W (.slice cp cn cc) c->cn<=6000->Calls Tryz.prog 60 #[pgV s, .int .i64 (-1), .slice cp cn cc] W fun e w'=>e= .returned (wRes (widthP p (-1) c))/\Below W.heap.size W w'):=fun W c cp cn cc h hc hn=>width_any s p (-1) c cp cn cc W (hp.below h) hS hc hn
 clear hxt hxl hxp hxa hp hS hkd he hg hgn hn1;unfold pgV at HWD⊢;go_enter Tryz.func40,Tryz.ntmps40;go_upto_region 1 with fail
 obtain ⟨W0,hW0⟩:∃W0,W0=(w.alloc (.cells #[.slice s.hp s.hn s.hc, .slice s.mp s.mn s.mc, .slice s.sp s.sn s.sc, .slice s.ap s.an s.ac, .slice s.tp s.tn s.tc, .slice s.cp s.cn s.cc, .slice s.ep s.en s.ec, .slice s.v1 s.n1 s.c1, .slice s.v2 s.n2 s.c2, .slice s.v3 s.n3 s.c3, .slice s.v4 s.n4 s.c4, .slice s.v5 s.n5 s.c5] 33)).alloc (.cells #[.int .i64 xt, .slice ep en ec, .int .i64 xl, .int .i64 xp, .int .i64 xa, .slice gp gn gc] 98):=⟨_,rfl⟩;have HB0:Hid (Below w.heap.size w W0):=by show Below _ _ _;rw[hW0];exact (by repeat (first|exact Below.refl _ _|assumption|refine Below.drew ?_|refine blA ?_|refine blS ?_|refine blT ?_ (by assumption)))
 have HPB:Hid (PBox W0 w.heap.size s):=by show _=_;rw[hW0,Below.heap_alloc _ _ _ (by simp)];exact heap_new _ _
 have HEB:Hid (EBox W0 (w.heap.size+1) xt ep en ec xl xp xa gp gn gc):=by
  show _=_;rw[hW0];have:=heap_new (w.alloc (.cells #[.slice s.hp s.hn s.hc, .slice s.mp s.mn s.mc, .slice s.sp s.sn s.sc, .slice s.ap s.an s.ac, .slice s.tp s.tn s.tc, .slice s.cp s.cn s.cc, .slice s.ep s.en s.ec, .slice s.v1 s.n1 s.c1, .slice s.v2 s.n2 s.c2, .slice s.v3 s.n3 s.c3, .slice s.v4 s.n4 s.c4, .slice s.v5 s.n5 s.c5] 33)) (.cells #[.int .i64 xt, .slice ep en ec, .int .i64 xl, .int .i64 xp, .int .i64 xa, .slice gp gn gc] 98);simp only[World.size_alloc] at this;exact this
 rw[<- hW0];clear hW0;obtain ⟨q0,q1,q2,q3,q4,q5,q6,q7,q8,q9,q10,q11⟩:=HPB.out.cells;obtain ⟨a0,a1,a2,a3,a4,a5⟩:=HEB.out.cells;by_cases hA:0<=xt/\xt<(s.tn:Int)/\0<=xp/\xp<=65536
 ·obtain ⟨h1,h2,h3,h4⟩:=hA;obtain ⟨m,rfl⟩:∃m:Nat,xt=(m:Int):=⟨xt.toNat,by omega⟩;have b1:¬(m:Int)<0:=by omega
  have b2:¬(s.tn:Int)<=(m:Int):=by omega
  have b3:¬xp<0:=by omega
  have b4:¬65536<xp:=by omega
  obtain ⟨t,ht⟩:∃t,p.tabs[m]?=some t:=⟨_,List.getElem?_eq_getElem (by have:=HN.out;omega)⟩;have htm:=List.mem_of_getElem? ht;obtain ⟨tb,to,htp,htb,⟨kp,kn,kc,y0,hy0⟩,⟨up,un,uc,y1,hy1⟩,⟨lp,ln,lc,y2,hy2⟩,y3,⟨dp,dn,dc,y4,hy4⟩⟩:=HP.out.tabs.get ht;obtain ⟨da,hda⟩:∃d,d=t.dact:=⟨_,rfl⟩;rw[<- hda] at y3;obtain ⟨rm,hrm⟩:∃r,r=mayRunP p t.acts xa x.args:=⟨_,rfl⟩;have HMR:Hid (∀ W,Below w.heap.size w W->Calls Tryz.prog 62 #[pgV s, .slice lp ln lc, .agg #[.int .i64 xa, .slice gp gn gc]] W fun e w'=>e= .returned (.bool rm)/\Below W.heap.size W w'):=fun W h=>by rw[hrm];exact mayRun_any s p t.acts lp ln lc _ x.args gp gn gc W (HP.out.below h) HSM.out (hy2.below keepI h) (by have:=hy2.ln.1;have:=HSM.out.tacts t htm;omega) (HGR.out.below keepN h) HGN.out
  have HOK:Hid (rm=true->EntOk p x):=fun h=>⟨by rw[<- HX.out.1];exact h1,by rw[<- HX.out.1, <-HN.out];exact h2,by rw[<- HX.out.1, <-HX.out.2,Int.toNat_natCast,getD_some ht, <-hrm];exact h⟩
  have HKL:Hid (kn=t.keys.length/\un=t.keys.length/\kn<=6000):=⟨hy0.ln.1,by rw[hy1.ln.1];exact HKD.out t htm,by have:=hy0.ln.1;have:=HSM.out.tkeys t htm;omega⟩;have HKC:Hid (∀ c∈t.keys,c.length<=6000):=HSM.out.tcode t htm;have HKR:=hD hy0;have HUR:=hD hy1;have HTC:Hid (∀ W,Below w.heap.size w W->W.cell? ⟨tb,to+m*5,none⟩=some (.slice kp kn kc)/\W.cell? ⟨tb,to+m*5+1,none⟩=some (.slice up un uc)/\W.cell? ⟨tb,to+m*5+2,none⟩=some (.slice lp ln lc)/\W.cell? ⟨tb,to+m*5+3,none⟩=some (.int .i64 da)/\W.cell? ⟨tb,to+m*5+4,none⟩=some (.slice dp dn dc)):=fun W h=>
   ⟨(h.cell (p:=⟨tb,to+m*5,none⟩) htb).trans y0,(h.cell (p:=⟨tb,to+m*5+1,none⟩) htb).trans y1,(h.cell (p:=⟨tb,to+m*5+2,none⟩) htb).trans y2,(h.cell (p:=⟨tb,to+m*5+3,none⟩) htb).trans y3,(h.cell (p:=⟨tb,to+m*5+4,none⟩) htb).trans y4⟩
  obtain ⟨t0,t1,t2,t3,t4⟩:=HTC.out W0 HB0.out;unfold pgV at HMR;rw[htp] at q4;clear htp ht htm hda hrm hy0 hy1 hy2 hy4 y0 y1 y2 y3 y4 h1 h3 h4;go_upto_region 4 with fail
  obtain ⟨W1,hW1⟩:∃W1,W1=W0.alloc (.cells #[.slice kp kn kc, .slice up un uc, .slice lp ln lc, .int .i64 da, .slice dp dn dc] 54):=⟨_,rfl⟩;have HB1:Hid (Below W0.heap.size W0 W1):=by show Below _ _ _;rw[hW1];exact (Below.refl _ _).alloc (Nat.le_refl _) _
  have HTB:Hid (TBox W1 W0.heap.size kp kn kc up un uc lp ln lc da dp dn dc):=by show _=_;rw[hW1];exact heap_new _ _
  rw[<- hW1];clear hW1 q0 q1 q2 q3 q4 q5 q6 q7 q8 q9 q10 q11 a0 a1 a2 a3 a4 a5 t0 t1 t2 t3 t4;have HB01:Hid (Below w.heap.size w W1):=HB0.out.trans (HB1.out.mono HB0.out.size);have HCE:Hid (∀ W,Below W1.heap.size W1 W->(W.cell? ⟨w.heap.size,0,none⟩=some (.slice s.hp s.hn s.hc)/\W.cell? ⟨w.heap.size,1,none⟩=some (.slice s.mp s.mn s.mc)/\W.cell? ⟨w.heap.size,2,none⟩=some (.slice s.sp s.sn s.sc)/\W.cell? ⟨w.heap.size,3,none⟩=some (.slice s.ap s.an s.ac)/\W.cell? ⟨w.heap.size,4,none⟩=some (.slice s.tp s.tn s.tc)/\W.cell? ⟨w.heap.size,5,none⟩=some (.slice s.cp s.cn s.cc)/\W.cell? ⟨w.heap.size,6,none⟩=some (.slice s.ep s.en s.ec)/\W.cell? ⟨w.heap.size,7,none⟩=some (.slice s.v1 s.n1 s.c1)/\W.cell? ⟨w.heap.size,8,none⟩=some (.slice s.v2 s.n2 s.c2)/\W.cell? ⟨w.heap.size,9,none⟩=some (.slice s.v3 s.n3 s.c3)/\W.cell? ⟨w.heap.size,10,none⟩=some (.slice s.v4 s.n4 s.c4)/\W.cell? ⟨w.heap.size,11,none⟩=some (.slice s.v5 s.n5 s.c5))/\(W.cell? ⟨w.heap.size+1,0,none⟩=some (.int .i64 (m:Int))/\W.cell? ⟨w.heap.size+1,1,none⟩=some (.slice ep en ec)/\W.cell? ⟨w.heap.size+1,2,none⟩=some (.int .i64 xl)/\W.cell? ⟨w.heap.size+1,3,none⟩=some (.int .i64 xp)/\W.cell? ⟨w.heap.size+1,4,none⟩=some (.int .i64 xa)/\W.cell? ⟨w.heap.size+1,5,none⟩=some (.slice gp gn gc))/\
   (W.cell? ⟨W0.heap.size,0,none⟩=some (.slice kp kn kc)/\W.cell? ⟨W0.heap.size,1,none⟩=some (.slice up un uc)/\W.cell? ⟨W0.heap.size,2,none⟩=some (.slice lp ln lc)/\W.cell? ⟨W0.heap.size,3,none⟩=some (.int .i64 da)/\W.cell? ⟨W0.heap.size,4,none⟩=some (.slice dp dn dc))):=fun W h=>
   ⟨(HPB.out.below (HB1.out.trans (h.mono HB1.out.size))).cells,(HEB.out.below (HB1.out.trans (h.mono HB1.out.size))).cells,(HTB.out.below h).cells⟩
  obtain ⟨⟨q0,q1,q2,q3,q4,q5,q6,q7,q8,q9,q10,q11⟩,⟨a0,a1,a2,a3,a4,a5⟩,t0,t1,t2,t3,t4⟩:=HCE.out W1 (Below.refl _ _);by_cases hlen:en=kn
  ·subst hlen;have hne:((en:Int)!=(en:Int))=false:=by simp
   cases rm
   ·go_wp2_with (go_at_call 62;(with_reducible refine (HMR.out _ HB01.out).mono ?_);rintro e w2 ⟨rfl,hb2⟩;have HB2:=hD hb2;clear hb2);go_ret;exact ⟨⟨_,rfl,fun h=>by cases h⟩,HB01.out.trans (HB2.out.mono HB01.out.size)⟩
   ·go_wp2_with (go_at_call 62;(with_reducible refine (HMR.out _ HB01.out).mono ?_);rintro e w2 ⟨rfl,hb2⟩;have HB2:=hD hb2;clear hb2);clear q0 q1 q2 q3 q4 q5 q6 q7 q8 q9 q10 q11 a0 a1 a2 a3 a4 a5 t0 t1 t2 t3 t4;go_loopw [6,7,8,9,10,11] (fun v6 v7 v8 v9 v10 v11 wr=>∃(k:Nat) (z:Int),k<=en/\v7= .int .i64 k/\v6= .int .i64 z/\Hid (Below W1.heap.size W1 wr)) (fun v6 v7 v8 v9 v10 v11 _=>en-(intOf v7).toNat)
    case atStart=>exact ⟨0,_,Nat.zero_le _,rfl,rfl,HB2.out⟩
    case round=>
     obtain ⟨k,z,hk,rfl,rfl,HW⟩:=hrel;obtain ⟨⟨q0,q1,q2,q3,q4,q5,q6,q7,q8,q9,q10,q11⟩,⟨a0,a1,a2,a3,a4,a5⟩,t0,t1,t2,t3,t4⟩:=HCE.out wr HW.out;by_cases hlt:k<en
     ·have hki:(k:Int)<(en:Int):=by omega
      have hb6:en<=6000:=by have:=HKL.out;omega
      have hun:(k:Int)<(un:Int):=by have:=HKL.out;omega
      obtain ⟨c,hc⟩:∃c,t.keys[k]?=some c:=⟨_,List.getElem?_eq_getElem (by have:=HKL.out;omega)⟩;obtain ⟨pt,hpt⟩:∃c,x.pats[k]?=some c:=⟨_,List.getElem?_eq_getElem (by have:=HLN.out;omega)⟩;have hbw:=HB01.out.trans (HW.out.mono HB01.out.size);obtain ⟨kb,ko,cp,cn,cc,hkp,hkb,y0,hy0⟩:=CsRow.el (HKR.out.below keepCs hbw) hc;obtain ⟨ub,uo,hup,hub,y1⟩:=URow.el (HUR.out.below keepU hbw) (j:=k) (by have:=HKL.out;have:=HUR.out.ln.1;omega);obtain ⟨pb,po,hpp,hpb,⟨hv,y2,y3⟩,hm,y4,y5⟩:=(HE.out.below keepP hbw).get hpt;obtain ⟨wv,wb,hwr⟩:∃wv wb,wRes (widthP p (-1) c)= .tuple #[.int .i64 wv, .bool wb]:=by cases widthP p (-1) c<;>exact ⟨_,_,rfl⟩
      have HC:Hid (∀ W,Below wr.heap.size wr W->Calls Tryz.prog 60 #[.agg #[.slice s.hp s.hn s.hc, .slice s.mp s.mn s.mc, .slice s.sp s.sn s.sc, .slice s.ap s.an s.ac, .slice s.tp s.tn s.tc, .slice s.cp s.cn s.cc, .slice s.ep s.en s.ec, .slice s.v1 s.n1 s.c1, .slice s.v2 s.n2 s.c2, .slice s.v3 s.n3 s.c3, .slice s.v4 s.n4 s.c4, .slice s.v5 s.n5 s.c5], .int .i64 (-1), .slice cp cn cc] W fun e w'=>e= .returned (.tuple #[.int .i64 wv, .bool wb])/\Below W.heap.size W w'):=fun W h=>by rw[<- hwr];exact HWD.out W c cp cn cc (hbw.trans (h.mono hbw.size)) (hy0.below keepNd h) (by have:=hy0.ln.1;have:=HKC.out c (List.mem_of_getElem? hc);omega)
      have HMA:=hD (may11_any pt.v pt.m hv hm);have HLE:=hD (length11_any pt.v pt.m hv hm);generalize ((pt.v/B:Nat):Int)=v0 at*;generalize ((pt.v%B:Nat):Int)=v1 at*;generalize ((pt.m/B:Nat):Int)=m0 at*;generalize ((pt.m%B:Nat):Int)=m1 at*;obtain ⟨kd,hkd⟩:∃kd,kd=t.kinds.getD k 0:=⟨_,rfl⟩;rw[<- hkd] at y1;rw[hkp] at t0;rw[hup] at t1;rw[hpp] at a1;have HEC:Hid (∀ W,Below wr.heap.size wr W->W.cell? ⟨kb,ko+k,none⟩=some (.slice cp cn cc)/\W.cell? ⟨ub,uo+k,none⟩=some (.int .u8 kd)/\W.cell? ⟨pb,po+k*4,none⟩=some (.int .u64 v0)/\W.cell? ⟨pb,po+k*4+1,none⟩=some (.int .u64 v1)/\W.cell? ⟨pb,po+k*4+2,none⟩=some (.int .u64 m0)/\W.cell? ⟨pb,po+k*4+2+1,none⟩=some (.int .u64 m1)):=fun W h=>
       ⟨(h.cell (p:=⟨kb,ko+k,none⟩) hkb).trans y0,(h.cell (p:=⟨ub,uo+k,none⟩) hub).trans y1,(h.cell (p:=⟨pb,po+k*4,none⟩) hpb).trans y2,(h.cell (p:=⟨pb,po+k*4+1,none⟩) hpb).trans y3,(h.cell (p:=⟨pb,po+k*4+2,none⟩) hpb).trans y4,(h.cell (p:=⟨pb,po+k*4+2+1,none⟩) hpb).trans y5⟩
      have HCN:Hid (∀ W,Below wr.heap.size wr W->(W.cell? ⟨w.heap.size,0,none⟩=some (.slice s.hp s.hn s.hc)/\W.cell? ⟨w.heap.size,1,none⟩=some (.slice s.mp s.mn s.mc)/\W.cell? ⟨w.heap.size,2,none⟩=some (.slice s.sp s.sn s.sc)/\W.cell? ⟨w.heap.size,3,none⟩=some (.slice s.ap s.an s.ac)/\W.cell? ⟨w.heap.size,4,none⟩=some (.slice s.tp s.tn s.tc)/\W.cell? ⟨w.heap.size,5,none⟩=some (.slice s.cp s.cn s.cc)/\W.cell? ⟨w.heap.size,6,none⟩=some (.slice s.ep s.en s.ec)/\W.cell? ⟨w.heap.size,7,none⟩=some (.slice s.v1 s.n1 s.c1)/\W.cell? ⟨w.heap.size,8,none⟩=some (.slice s.v2 s.n2 s.c2)/\W.cell? ⟨w.heap.size,9,none⟩=some (.slice s.v3 s.n3 s.c3)/\W.cell? ⟨w.heap.size,10,none⟩=some (.slice s.v4 s.n4 s.c4)/\W.cell? ⟨w.heap.size,11,none⟩=some (.slice s.v5 s.n5 s.c5))/\W.cell? ⟨w.heap.size+1,1,none⟩=some (.slice (some ⟨pb,po,none⟩) en ec)/\W.cell? ⟨W0.heap.size,0,none⟩=some (.slice (some ⟨kb,ko,none⟩) en kc)/\W.cell? ⟨W0.heap.size,1,none⟩=some (.slice (some ⟨ub,uo,none⟩) un uc)):=fun W h=>by
       obtain ⟨c1,⟨-,c2,-⟩,c3,c4,-⟩:=HCE.out W (HW.out.trans (h.mono HW.out.size));rw[hpp] at c2;rw[hkp] at c3;rw[hup] at c4;exact ⟨c1,c2,c3,c4⟩
      clear hc hpt hbw hkp hup hpp hy0 y0 y1 y2 y3 y4 y5 hv hm hwr hkd hkb hub hpb;go_upto_region 10 with fail
      clear q0 q1 q2 q3 q4 q5 q6 q7 q8 q9 q10 q11 a0 a1 a2 a3 a4 a5 t0 t1 t2 t3 t4;refine roB wr ?_;refine stq ?_ (fun aa ww ll hh=>?_) ?_;rotate_left
      ·have e2:=hh.oL 2;obtain ⟨⟨q0,q1,q2,q3,q4,q5,q6,q7,q8,q9,q10,q11⟩,c2,c3,c4⟩:=HCN.out ww hh.inv;obtain ⟨d0,d1,d2,d3,d4,d5⟩:=HEC.out ww hh.inv;exact ov gX
      refine stq ?_ (fun aa ww ll hh=>?_) ?_;rotate_left
      ·have e5:=hh.oL 5;exact ov gX
      refine stq ?_ (fun aa ww ll hh=>?_) ?_;rotate_left
      ·have e64:=hh.gt 1 0;obtain ⟨⟨q0,q1,q2,q3,q4,q5,q6,q7,q8,q9,q10,q11⟩,c2,c3,c4⟩:=HCN.out ww hh.inv;obtain ⟨d0,d1,d2,d3,d4,d5⟩:=HEC.out ww hh.inv;exact ov gX
      refine stq ?_ (fun aa ww ll hh=>?_) ?_;rotate_left
      ·have e7:=hh.oL 7;refine ov ?_;rw[xmv e7]
      refine stq ?_ (fun aa ww ll hh=>?_) ?_;rotate_left
      ·have e65:=hh.gt 2 1;have e66:=hh.gt 3 0;exact ov gX
      refine stq ?_ (fun aa ww ll hh=>?_) ?_;rotate_left
      ·have e67:=hh.gt 4 0;obtain ⟨⟨q0,q1,q2,q3,q4,q5,q6,q7,q8,q9,q10,q11⟩,c2,c3,c4⟩:=HCN.out ww hh.inv;obtain ⟨d0,d1,d2,d3,d4,d5⟩:=HEC.out ww hh.inv;exact ov gX
      refine ⟨.eq (.tuple #[.int .i64 wv, .bool wb]),trivial,rfl,fun aa ww ll hh=>?_,?_⟩
      ·have e63:=hh.gt 0 5;have e68:=hh.gt 5 0;have ef:=evf aa;have ec:=evc aa;refine out_call_eq (wanted_none rfl) ?_ (HC.out ww hh.inv);exact gX
      refine stm 6 0 ?_;refine stq ?_ (fun aa ww ll hh=>?_) ?_;rotate_left
      ·have e62:=hh.gt 7 0;exact ov gX
      refine stq ?_ (fun aa ww ll hh=>?_) ?_;rotate_left
      ·have e62:=hh.gt 7 1;exact ov gX
      refine stm 8 1 ?_;refine stm 9 1 ?_;intro ll w3 hS hok;clear hok;simp only[List.reverse_cons,List.reverse_nil,List.nil_append,List.cons_append,layO,Out.val,Act.put,List.setIfInBounds_toArray,List.set_cons_zero,List.set_cons_succ];have HB3:=hD hS;clear hS;obtain ⟨c1,c2,c3,c4⟩:=HCN.out w3 HB3.out;obtain ⟨d0,d1,d2,d3,d4,d5⟩:=HEC.out w3 HB3.out;clear c1;go_upto_region 14 with (first
       |(go_at_call 63;(with_reducible refine (HMA.out _ _).mono ?_);rintro e w4 ⟨⟨bm,rfl,-⟩,hb4⟩;have HB4:Hid (Below wr.heap.size wr w4):=HB3.out.trans (hb4.mono HB3.out.size);clear hb4;obtain ⟨-,c2,c3,c4⟩:=HCN.out w4 HB4.out;obtain ⟨d0,d1,d2,d3,d4,d5⟩:=HEC.out w4 HB4.out)
       |(go_at_call 64;(with_reducible refine (HLE.out _ _).mono ?_);rintro e w5 ⟨⟨ln5,bl5,rfl⟩,hb5⟩;have HB5:Hid (Below wr.heap.size wr w5):=HB4.out.trans (hb5.mono HB4.out.size);clear hb5;obtain ⟨-,c2,c3,c4⟩:=HCN.out w5 HB5.out;obtain ⟨d0,d1,d2,d3,d4,d5⟩:=HEC.out w5 HB5.out))
      ·go_ret;exact ⟨⟨_,rfl,fun h=>by cases h⟩,HB01.out.trans ((HW.out.trans (HB4.out.mono HW.out.size)).mono HB01.out.size)⟩
      ·clear c2 c3 c4 d0 d1 d2 d3 d4 d5;have HCM:Hid (∀ W,Below w5.heap.size w5 W->(W.cell? ⟨w.heap.size+1,1,none⟩=some (.slice (some ⟨pb,po,none⟩) en ec)/\W.cell? ⟨W0.heap.size,0,none⟩=some (.slice (some ⟨kb,ko,none⟩) en kc)/\W.cell? ⟨W0.heap.size,1,none⟩=some (.slice (some ⟨ub,uo,none⟩) un uc))/\(W.cell? ⟨kb,ko+k,none⟩=some (.slice cp cn cc)/\W.cell? ⟨ub,uo+k,none⟩=some (.int .u8 kd)/\W.cell? ⟨pb,po+k*4,none⟩=some (.int .u64 v0)/\W.cell? ⟨pb,po+k*4+1,none⟩=some (.int .u64 v1)/\W.cell? ⟨pb,po+k*4+2,none⟩=some (.int .u64 m0)/\W.cell? ⟨pb,po+k*4+2+1,none⟩=some (.int .u64 m1))):=fun W h=>
        ⟨(HCN.out W (HB5.out.trans (h.mono HB5.out.size))).2,HEC.out W (HB5.out.trans (h.mono HB5.out.size))⟩
       have HZ5:Hid (Below w.heap.size w w5/\Below W1.heap.size W1 w5):=⟨HB01.out.trans ((HW.out.trans (HB5.out.mono HW.out.size)).mono HB01.out.size),HW.out.trans (HB5.out.mono HW.out.size)⟩;by_cases hk1:kd=1
       ·subst hk1;have e1:((1:Int)==1)=true:=rfl;have e2:((1:Int)==2)=false:=rfl;obtain ⟨mh,ml,hmk⟩:=mask01_is wv;have HMK:=hD hmk;obtain ⟨rb,hrb⟩:∃r:Bool,r=if m0=mh then (if m1=ml then false else true) else true:=⟨_,rfl⟩
        have HRB:=hD hrb;clear hrb;clear hmk;refine roB w5 ?_;refine stq ?_ (fun aa ww ll hh=>?_) ?_;rotate_left
        ·have e5:=hh.oL 5;exact ov gX
        refine stq ?_ (fun aa ww ll hh=>?_) ?_;rotate_left
        ·have e90:=hh.gt 0 0;obtain ⟨⟨c2,c3,c4⟩,d0,d1,d2,d3,d4,d5⟩:=HCM.out ww hh.inv;exact ov gX
        refine stq ?_ (fun aa ww ll hh=>?_) ?_;rotate_left
        ·have e7:=hh.oL 7;refine ov ?_;rw[xmv e7]
        refine stq ?_ (fun aa ww ll hh=>?_) ?_;rotate_left
        ·have e91:=hh.gt 1 1;have e92:=hh.gt 2 0;exact ov gX
        refine stq ?_ (fun aa ww ll hh=>?_) ?_;rotate_left
        ·have e93:=hh.gt 3 0;obtain ⟨⟨c2,c3,c4⟩,d0,d1,d2,d3,d4,d5⟩:=HCM.out ww hh.inv;exact ov gX
        refine stq ?_ (fun aa ww ll hh=>?_) ?_;rotate_left
        ·have e94:=hh.gt 4 0;have ec:=evc aa;exact ov gX
        refine stm 5 0 ?_;refine stq ?_ (fun aa ww ll hh=>?_) ?_;rotate_left
        ·have e3:=hh.oL 3;exact hh.og 0 gX
        refine stq ?_ (fun aa ww ll hh=>?_) ?_;rotate_left
        ·have e97:=hh.gt 7 0;obtain ⟨⟨c2,c3,c4⟩,d0,d1,d2,d3,d4,d5⟩:=HCM.out ww hh.inv;exact hh.og 1 gX
        refine stq ?_ (fun aa ww ll hh=>?_) ?_;rotate_left
        ·have e7:=hh.oL 7;refine hh.og 2 ?_;rw[xmv e7]
        refine stq ?_ (fun aa ww ll hh=>?_) ?_;rotate_left
        ·have e98:=hh.gt 8 1;have e99:=hh.gt 9 0;exact hh.og 3 gX
        refine stq ?_ (fun aa ww ll hh=>?_) ?_;rotate_left
        ·have e100:=hh.gt 10 0;exact hh.og 4 gX
        refine stq ?_ (fun aa ww ll hh=>?_) ?_;rotate_left
        ·have e101:=hh.gt 11 0;obtain ⟨⟨c2,c3,c4⟩,d0,d1,d2,d3,d4,d5⟩:=HCM.out ww hh.inv;exact hh.og 5 gX
        refine stq ?_ (fun aa ww ll hh=>?_) ?_;rotate_left
        ·have e8:=hh.oL 8;refine hh.og 6 ?_;rw[xmv e8]
        refine ⟨.eq (.agg #[.int .u64 mh, .int .u64 ml]),trivial,rfl,fun aa ww ll hh=>?_,?_⟩
        ·have e103:=hh.gt 13 0;have ef:=evf aa;refine out_call_eq (hh.go 7 rfl (by kernel_rfl) rfl rfl) ?_ (HMK.out ww);exact gX
        refine ⟨.eq (.bool rb),trivial,rfl,fun aa ww ll hh=>?_,?_⟩
        ·have e102:=hh.gt 12 2;have e104:=hh.gt 14 0;refine hh.og 8 ?_;clear hh;generalize aa.eval=ev at e102 e104⊢;go_simp;rw[HRB.out]
         repeat' split
         all_goals rfl
        refine stq ?_ (fun aa ww ll hh=>?_) ?_;rotate_left
        ·have e96:=hh.gt 6 9;have e105:=hh.gt 15 0;have ec:=evc aa;exact ov gX
        intro ll w6 hS hok;clear hok;simp only[List.reverse_cons,List.reverse_nil,List.nil_append,List.cons_append,layO,Out.val,Act.put,List.setIfInBounds_toArray,List.set_cons_zero,List.set_cons_succ];have HZ6:Hid (Below w.heap.size w w6/\Below W1.heap.size W1 w6):=⟨HZ5.out.1.trans (hS.mono HZ5.out.1.size),HZ5.out.2.trans (hS.mono HZ5.out.2.size)⟩;obtain ⟨⟨c2,c3,c4⟩,d0,d1,d2,d3,d4,d5⟩:=HCM.out w6 hS;clear hS;go_wp2_with fail
        all_goals first
         |(go_ret;exact ⟨⟨_,rfl,fun h=>by cases h⟩,HZ6.out.1⟩)
         |(
          go_roundw
          case rel=>exact ⟨k+1,_,by omega,by go_num,rfl,HZ6.out.2⟩
          case measure=>simp[intOf];omega)
       ·have e0:¬kd=1:=hk1;have e1:(kd==1)=false:=by rw[beq_eq_false_iff_ne];exact hk1
        rcases (show kd=2\/¬kd=2 by omega) with hk2|hk2
        ·have e2:(kd==2)=true:=by rw[beq_iff_eq];exact hk2
         refine roB w5 ?_;refine stq ?_ (fun aa ww ll hh=>?_) ?_;rotate_left
         ·have e5:=hh.oL 5;exact ov gX
         refine stq ?_ (fun aa ww ll hh=>?_) ?_;rotate_left
         ·have e90:=hh.gt 0 0;obtain ⟨⟨c2,c3,c4⟩,d0,d1,d2,d3,d4,d5⟩:=HCM.out ww hh.inv;exact ov gX
         refine stq ?_ (fun aa ww ll hh=>?_) ?_;rotate_left
         ·have e7:=hh.oL 7;refine ov ?_;rw[xmv e7]
         refine stq ?_ (fun aa ww ll hh=>?_) ?_;rotate_left
         ·have e91:=hh.gt 1 1;have e92:=hh.gt 2 0;exact ov gX
         refine stq ?_ (fun aa ww ll hh=>?_) ?_;rotate_left
         ·have e93:=hh.gt 3 0;obtain ⟨⟨c2,c3,c4⟩,d0,d1,d2,d3,d4,d5⟩:=HCM.out ww hh.inv;exact ov gX
         refine stq ?_ (fun aa ww ll hh=>?_) ?_;rotate_left
         ·have e94:=hh.gt 4 0;have ec:=evc aa;exact ov gX
         refine stm 5 0 ?_;refine stk 0 ?_;refine stk 1 ?_;refine stk 2 ?_;refine stk 3 ?_;refine stk 4 ?_;refine stk 5 ?_;refine stk 6 ?_;refine stk 7 ?_;refine stk 8 ?_;refine stq ?_ (fun aa ww ll hh=>?_) ?_;rotate_left
         ·have e96:=hh.gt 6 9;have e105:=hh.gt 15 0;have ec:=evc aa;exact ov gX
         intro ll w6 hS hok;clear hok;simp only[List.reverse_cons,List.reverse_nil,List.nil_append,List.cons_append,layO,Out.val,Act.put,List.setIfInBounds_toArray,List.set_cons_zero,List.set_cons_succ];have HZ6:Hid (Below w.heap.size w w6/\Below W1.heap.size W1 w6):=⟨HZ5.out.1.trans (hS.mono HZ5.out.1.size),HZ5.out.2.trans (hS.mono HZ5.out.2.size)⟩;obtain ⟨⟨c2,c3,c4⟩,d0,d1,d2,d3,d4,d5⟩:=HCM.out w6 hS;clear hS;go_wp2_with fail
         all_goals first
          |(go_ret;exact ⟨⟨_,rfl,fun h=>by cases h⟩,HZ6.out.1⟩)
          |(
           go_roundw
           case rel=>exact ⟨k+1,_,by omega,by go_num,rfl,HZ6.out.2⟩
           case measure=>simp[intOf];omega)
        ·have e2:(kd==2)=false:=by rw[beq_eq_false_iff_ne];exact hk2
         refine roB w5 ?_;refine stq ?_ (fun aa ww ll hh=>?_) ?_;rotate_left
         ·have e5:=hh.oL 5;exact ov gX
         refine stq ?_ (fun aa ww ll hh=>?_) ?_;rotate_left
         ·have e90:=hh.gt 0 0;obtain ⟨⟨c2,c3,c4⟩,d0,d1,d2,d3,d4,d5⟩:=HCM.out ww hh.inv;exact ov gX
         refine stq ?_ (fun aa ww ll hh=>?_) ?_;rotate_left
         ·have e7:=hh.oL 7;refine ov ?_;rw[xmv e7]
         refine stq ?_ (fun aa ww ll hh=>?_) ?_;rotate_left
         ·have e91:=hh.gt 1 1;have e92:=hh.gt 2 0;exact ov gX
         refine stq ?_ (fun aa ww ll hh=>?_) ?_;rotate_left
         ·have e93:=hh.gt 3 0;obtain ⟨⟨c2,c3,c4⟩,d0,d1,d2,d3,d4,d5⟩:=HCM.out ww hh.inv;exact ov gX
         refine stq ?_ (fun aa ww ll hh=>?_) ?_;rotate_left
         ·have e94:=hh.gt 4 0;have ec:=evc aa;exact ov gX
         refine stm 5 0 ?_;refine stk 0 ?_;refine stk 1 ?_;refine stk 2 ?_;refine stk 3 ?_;refine stk 4 ?_;refine stk 5 ?_;refine stk 6 ?_;refine stk 7 ?_;refine stk 8 ?_;refine stq ?_ (fun aa ww ll hh=>?_) ?_;rotate_left
         ·have e96:=hh.gt 6 9;have e105:=hh.gt 15 0;have ec:=evc aa;exact ov gX
         intro ll w6 hS hok;clear hok;simp only[List.reverse_cons,List.reverse_nil,List.nil_append,List.cons_append,layO,Out.val,Act.put,List.setIfInBounds_toArray,List.set_cons_zero,List.set_cons_succ];have HZ6:Hid (Below w.heap.size w w6/\Below W1.heap.size W1 w6):=⟨HZ5.out.1.trans (hS.mono HZ5.out.1.size),HZ5.out.2.trans (hS.mono HZ5.out.2.size)⟩;obtain ⟨⟨c2,c3,c4⟩,d0,d1,d2,d3,d4,d5⟩:=HCM.out w6 hS;clear hS;go_wp2_with fail
         all_goals first
          |(go_ret;exact ⟨⟨_,rfl,fun h=>by cases h⟩,HZ6.out.1⟩)
          |(
           go_roundw
           case rel=>exact ⟨k+1,_,by omega,by go_num,rfl,HZ6.out.2⟩
           case measure=>simp[intOf];omega)
     ·obtain rfl:k=en:=by omega
      have hki:¬(k:Int)<(k:Int):=by omega
      go_wp2_with fail;go_ret;exact ⟨⟨_,rfl,fun _=>HOK.out (by trivial)⟩,HB01.out.trans (HW.out.mono HB01.out.size)⟩
  ·have hne:((en:Int)!=(kn:Int))=true:=by rw[bne_iff_ne];omega
   have hne2:¬(en:Int)=(kn:Int):=by omega
   go_wp2_with fail;go_ret;exact ⟨⟨_,rfl,fun h=>by cases h⟩,HB01.out⟩
 ·rcases (show xt<0\/(¬ xt<0/\(s.tn:Int)<=xt)\/(¬ xt<0/\¬(s.tn:Int)<=xt/\xp<0)\/(¬ xt<0/\¬(s.tn:Int)<=xt/\¬xp<0/\65536<xp) by omega) with g1|⟨g1,g2⟩|⟨g1,g2,g3⟩|⟨g1,g2,g3,g4⟩
  all_goals
   go_wp2_with fail;go_ret;exact ⟨⟨_,rfl,fun h=>by cases h⟩,HB0.out⟩
open Go.RowKit
def OwnI (B:Nat) (W:World) (v:Value) (l:List Int):Prop:=W.ownsRow B 3 1 v l.length (l.map (Value.int .i64))
def Ap (u v:Value):Prop:=u.ownBlock=none\/u.ownBlock≠v.ownBlock
theorem Ap.symm {u v:Value} (h:Ap u v):Ap v u:=by
 unfold Ap at*;by_cases h1:v.ownBlock=none
 ·exact .inl h1
 ·right;rcases h with h|h
  ·rw[h];exact h1
  ·exact fun e=>h e.symm
theorem ap_nil (u:Value):Ap u (.slice none 0 0):=by
 unfold Ap;by_cases h:u.ownBlock=none
 ·exact .inl h
 ·exact .inr h
theorem nil_ap (u:Value):Ap (.slice none 0 0) u:=(ap_nil u).symm
structure Grw (W W':World) (v v':Value):Prop where
 grown:W.grownBy W' v.ownBlock
 lies:v'.ownBlock=v.ownBlock\/v'.ownBlock=some W.heap.size
section
variable {B:Nat} {W W':World} {u v v':Value} {l m:List Int}
theorem OwnI.alloc (h:OwnI B W v l) (o:Obj):OwnI B (W.alloc o) v l:=World.ownsRow.alloc h o
theorem OwnI.below (h:OwnI B W v l) (hb:Below W.heap.size W W'):OwnI B W' v l:=by
 obtain ⟨h1,h2⟩:=h;refine ⟨h1,?_⟩;rcases h2 with h2|⟨g,cap,cur,h3,h4,h5,h6⟩
 ·exact .inl h2
 ·exact .inr ⟨g,cap,cur,h3,h4,(hb.block g (Array.getElem?_eq_some_iff.1 h5).1).trans h5,h6⟩
theorem OwnI.nil (B:Nat) (W:World):OwnI B W (.slice none 0 0) []:=World.ownsRow_nil _ _ _ _
theorem OwnI.one (W:World) (z:Int) (hB:B<=W.heap.size):OwnI B (W.alloc (.cells #[.int .i64 z] 3)) (.slice (some ⟨W.heap.size,0,none⟩) 1 1) [z]:=
 World.ownsRow_lit W #[.int .i64 z] 1 hB (by decide) (by simp)
theorem flat_ints:∀l:List Int,l.flatMap (fun n=>[Value.int .i64 n])=l.map (Value.int .i64)
 |[]=>rfl
 |a::l=>by rw[List.flatMap_cons,flat_ints l];rfl
theorem OwnI.row (h:OwnI B W v l):IRow W v l:=RowAt.of_flat flatI rfl (by
 rw[flat_ints];exact h)
theorem OwnI.shape (h:OwnI B W v l):∃pa c,v= .slice pa l.length c:=by
 obtain ⟨pa,c,e,-⟩:=h.row;exact ⟨pa,c,e⟩
theorem OwnI.lt (h:OwnI B W v l) {k:Nat} (hk:v.ownBlock=some k):k<W.heap.size:=(World.ownsRow.lt h k hk).2
theorem Grw.own (hg:Grw W W' v v') (hu:OwnI B W u l) (ha:Ap u v):OwnI B W' u l:=World.ownsRow.kept hu hg.grown ha
theorem Grw.ap (hg:Grw W W' v v') (hu:OwnI B W u l) (ha:Ap u v):Ap u v':=by
 rcases hg.lies with h|h
 ·unfold Ap at *;rw[h];exact ha
 ·unfold Ap;rw[h];by_cases h1:u.ownBlock=none
  ·exact .inl h1
  ·refine .inr fun e=>?_
   have:=hu.lt e;omega
theorem Grw.below {b:Nat} {w0:World} (hg:Grw W W' v v') (hv:OwnI B W v l) (hb:Below b w0 W) (hB:b<=B) (hs:b<=W.heap.size):Below b w0 W':=below_grown hb hv hg.grown hB hs
theorem SBox.grw {g:Nat} {tp kp bp:Option Addr} {tn tc kn kc bn bc:Nat} {to:Int} (h:SBox W g tp tn tc kp kn kc bp bn bc to) (hg:Grw W W' v v') (hv:OwnI B W v l):SBox W' g tp tn tc kp kn kc bp bn bc to:=by
 have h0:=h;unfold SBox at h⊢;rw[<- h];refine hg.grown.block g (Array.getElem?_eq_some_iff.1 h).1 fun e=>?_
 rcases hv.2 with ⟨q,-⟩|⟨g',cap,cur,q1,-,q2,-⟩
 ·rw[q] at e;cases e
 ·rw[q1] at e;simp only[Value.ownBlock,Option.some.injEq] at e;subst e;rw[h] at q2;simp only[Option.some.injEq,Obj.cells.injEq] at q2;exact absurd q2.2.1 (by decide)
end
def set4 (w:World) (g:Nat) (b0 b1 b2 b3:Value):World:=((((w.setCell ⟨g,0,none⟩ b0).setCell ⟨g,1,none⟩ b1).setCell ⟨g,2,none⟩ b2).setCell ⟨g,3,none⟩ b3)
theorem set4_heap {w:World} {g:Nat} {t:TypeId} {a0 a1 a2 a3:Value} (b0 b1 b2 b3:Value) (h:w.heap[g]?=some (.cells #[a0,a1,a2,a3] t (0,0))):(set4 w g b0 b1 b2 b3).heap[g]?=some (.cells #[b0,b1,b2,b3] t (0,0)):=by
 have h0:(w.setCell ⟨g,0,none⟩ b0).heap[g]?=some (.cells #[b0,a1,a2,a3] t (0,0)):=heap_setCell_same w g 0 _ t b0 h;have h1:((w.setCell ⟨g,0,none⟩ b0).setCell ⟨g,1,none⟩ b1).heap[g]?=some (.cells #[b0,b1,a2,a3] t (0,0)):=heap_setCell_same (w.setCell ⟨g,0,none⟩ b0) g 1 _ t b1 h0;have h2:(((w.setCell ⟨g,0,none⟩ b0).setCell ⟨g,1,none⟩ b1).setCell ⟨g,2,none⟩ b2).heap[g]?=some (.cells #[b0,b1,b2,a3] t (0,0)):=heap_setCell_same ((w.setCell ⟨g,0,none⟩ b0).setCell ⟨g,1,none⟩ b1) g 2 _ t b2 h1;have h3:((((w.setCell ⟨g,0,none⟩ b0).setCell ⟨g,1,none⟩ b1).setCell ⟨g,2,none⟩ b2).setCell ⟨g,3,none⟩ b3).heap[g]?=some (.cells #[b0,b1,b2,b3] t (0,0)):=heap_setCell_same (((w.setCell ⟨g,0,none⟩ b0).setCell ⟨g,1,none⟩ b1).setCell ⟨g,2,none⟩ b2) g 3 _ t b3 h2;exact h3
theorem set4_below {B:Nat} {w0 w:World} {g:Nat} (b0 b1 b2 b3:Value) (h:Below B w0 w) (hg:B<=g):Below B w0 (set4 w g b0 b1 b2 b3):=by
 unfold set4;exact ((((h.setCell hg b0).setCell hg b1).setCell hg b2).setCell hg b3)
theorem app_int {ops:Array Oper} {rest:List Oper} {o:Oper} {a:Act} {Q:Exit->Act->World->Prop} {W:World} (hgd:o.guard=none) (s x:Operand)
 (ho:o.op= .call { callee:= .builtin .append,args:=#[s,x],argTypes:=#[23,23] })
 (B:Nat) (v:Value) (l:List Int) (hs:a.eval s=v) (hown:OwnI B W v l) (g:Nat) (z:Int) (hx:a.eval x= .slice (some ⟨g,0,none⟩) 1 1) (hc:W.cell? ⟨g,0,none⟩=some (.int .i64 z)) (hl:l.length<=1000000) (hbase:B<=W.heap.size)
 (h:∀v' W',OwnI B W' v' (l++[z])->Grw W W' v v'->wpList Tryz.prog ops Q rest (a.put o.dst v') W'):wpList Tryz.prog ops Q (o::rest) a W:=by
 obtain ⟨i0,hi,hz0,hz1,hz2⟩:=info_parts infoInt;have hcell:∀j u,[Value.int .i64 z][j]?=some u->W.cell? ((⟨g,0,none⟩:Addr).add j)=some u:=by
  intro j u hu
  match j,hu with
  |0,hu=>simp at hu;subst hu;simpa [Addr.add] using hc
 exact wpList_append_own_at _ hgd s x _ ho B 3 i0 (.int .i64 0) 1 8 Tryz.underlying23 hi hz0 hz1 hz2 rfl (by decide) v l.length (l.map (Value.int .i64)) hs hown ⟨g,0,none⟩ 1 1 [.int .i64 z] hx rfl hcell (fun u hu=>by simp at hu;subst hu;rfl) (by unfold maxLen;omega) (by omega) hbase fun v' w' h1 h2 _ h3=>h v' w' (by unfold OwnI;simpa using h1) ⟨h2,h3⟩
structure Rws (B:Nat) (W:World) (a b c d:Value) (S N X T:List Int):Prop where
 s:OwnI B W a S
 n:OwnI B W b N
 x:OwnI B W c X
 t:OwnI B W d T
 sn:Ap a b
 sx:Ap a c
 st:Ap a d
 nx:Ap b c
 nt:Ap b d
 xt:Ap c d
section
variable {B:Nat} {W W':World} {a b c d v':Value} {S N X T L:List Int}
theorem Rws.alloc (h:Rws B W a b c d S N X T) (o:Obj):Rws B (W.alloc o) a b c d S N X T:=⟨h.s.alloc o,h.n.alloc o,h.x.alloc o,h.t.alloc o,h.sn,h.sx,h.st,h.nx,h.nt,h.xt⟩
theorem Rws.below (h:Rws B W a b c d S N X T) (hb:Below W.heap.size W W'):Rws B W' a b c d S N X T:=⟨h.s.below hb,h.n.below hb,h.x.below hb,h.t.below hb,h.sn,h.sx,h.st,h.nx,h.nt,h.xt⟩
theorem Rws.appS (h:Rws B W a b c d S N X T) (ho:OwnI B W' v' L) (hg:Grw W W' a v'):Rws B W' v' b c d L N X T:=
 ⟨ho,hg.own h.n h.sn.symm,hg.own h.x h.sx.symm,hg.own h.t h.st.symm,(hg.ap h.n h.sn.symm).symm,(hg.ap h.x h.sx.symm).symm,(hg.ap h.t h.st.symm).symm,h.nx,h.nt,h.xt⟩
theorem Rws.appX (h:Rws B W a b c d S N X T) (ho:OwnI B W' v' L) (hg:Grw W W' c v'):Rws B W' a b v' d S N L T:=
 ⟨hg.own h.s h.sx,hg.own h.n h.nx,ho,hg.own h.t h.xt.symm,h.sn,hg.ap h.s h.sx,h.st,hg.ap h.n h.nx,h.nt,(hg.ap h.t h.xt.symm).symm⟩
theorem Rws.appT (h:Rws B W a b c d S N X T) (ho:OwnI B W' v' L) (hg:Grw W W' d v'):Rws B W' a b c v' S N X L:=
 ⟨hg.own h.s h.st,hg.own h.n h.nt,hg.own h.x h.xt,ho,h.sn,h.sx,hg.ap h.s h.st,h.nx,hg.ap h.n h.nt,hg.ap h.x h.xt⟩
theorem Rws.noT (h:Rws B W a b c d S N X T):Rws B W a b c (.slice none 0 0) S N X []:=⟨h.s,h.n,h.x,OwnI.nil _ _,h.sn,h.sx,ap_nil _,h.nx,ap_nil _,ap_nil _⟩
theorem Rws.turn (h:Rws B W a b c d S N X T):Rws B W a c (.slice none 0 0) (.slice none 0 0) S X [] []:=⟨h.s,h.x,OwnI.nil _ _,OwnI.nil _ _,h.sx,ap_nil _,ap_nil _,ap_nil _,ap_nil _,ap_nil _⟩
end
theorem Rws.tcell {B:Nat} {W:World} {a b c:Value} {S N X T:List Int} {pa:Option Addr} {n cap:Nat} (h:Rws B W a b c (.slice pa n cap) S N X T) {k:Nat} {t:Int} (ht:T[k]?=some t):∃tb to,pa=some ⟨tb,to,none⟩/\W.cell? ⟨tb,to+k,none⟩=some (.int .i64 t):=by
 obtain ⟨tb,to,e,-,hc⟩:=RowAt.get h.t.row ht;exact ⟨tb,to,e,by rw[Nat.mul_one] at hc;exact hc⟩
structure Bd (p:Prg) (S X:List Int):Prop where
 nd:S.Nodup
 bd:∀t∈S,0<=t/\t<(p.steps.length:Int)
 xl:X.length<=S.length
theorem Bd.len {p:Prg} {S X:List Int} (h:Bd p S X):S.length<=p.steps.length:=nodup_len h.nd h.bd
theorem Bd.push {p:Prg} {S X:List Int} (h:Bd p S X) {t:Int} (hn:¬t∈S) (h0:0<=t) (h1:t<(p.steps.length:Int)):Bd p (S++[t]) (X++[t]) where
 nd:=by
  rw[List.nodup_append];refine ⟨h.nd,by simp,fun a ha b hb=>?_⟩;simp at hb;subst hb;intro e;subst e;exact hn ha
 bd:=fun u hu=>by
  rw[List.mem_append] at hu;rcases hu with hu|hu
  ·exact h.bd u hu
  ·simp at hu;subst hu;exact ⟨h0,h1⟩
 xl:=by simp;exact h.xl
theorem CycI.bnd {p:Prg} {state:Int} {fuel:Nat} {seen now:List Int} (h:CycI p state fuel seen now):Bd p seen []:=⟨h.nd,h.bd,by simp⟩
def contV (p:Prg) (state:Int) (r:List Int):Option (List Int×List Int)->Option (List Int×List Int)
 |none=>none
 |some s=>visN p state r s
theorem visN_at {p:Prg} {state:Int} {N:List Int} {j:Nat} {t:Int} (h:N[j]?=some t) (s:List Int×List Int):visN p state (N.drop j) s=contV p state (N.drop (j+1)) (visT state (goesP (stepAt p t)) s):=by
 obtain ⟨hj,e⟩:=List.getElem?_eq_some_iff.1 h;rw[List.drop_eq_getElem_cons hj,e];rfl
theorem visT_at {state:Int} {L:List Int} {k:Nat} {t:Int} (h:L[k]?=some t) (S X:List Int):visT state (L.drop k) (S,X)=if t=state then none else if 0<=t/\¬t∈S then visT state (L.drop (k+1)) (S++[t],X++[t]) else visT state (L.drop (k+1)) (S,X):=by
 obtain ⟨hj,e⟩:=List.getElem?_eq_some_iff.1 h;rw[List.drop_eq_getElem_cons hj,e];rfl
theorem visT_end (state:Int) (L:List Int) (s:List Int×List Int):visT state (L.drop L.length) s=some s:=by rw[List.drop_length];rfl
theorem visN_end (p:Prg) (state:Int) (L:List Int) (s:List Int×List Int):visN p state (L.drop L.length) s=some s:=by rw[List.drop_length];rfl
theorem goesP_ln (x:Stp):(goesP x).length<=1+x.brs.length:=by
 unfold goesP;rw[List.length_append,List.length_map];split<;>simp<;>omega
theorem brs_take (x:Stp) {k:Nat} {y:Brn} (h:x.brs[k]?=some y):(x.brs.take k).map (·.to)++[y.to]=(x.brs.take (k+1)).map (·.to):=by
 rw[List.take_add_one,h];simp
theorem goesIn_of {p:Prg} (h:∀x∈p.steps,mayStepP p x=true):GoesIn p:=by
 intro i s hs t ht;have h1:=h s (List.mem_of_getElem? hs);unfold mayStepP at h1;simp only[Bool.and_eq_true,decide_eq_true_eq] at h1;obtain ⟨⟨⟨-,-,-,h2⟩,-⟩,h3⟩:=h1;unfold goesP at ht;rw[List.mem_append] at ht;rcases ht with ht|ht
 ·split at ht
  ·simp at ht;subst ht;exact h2
  ·simp at ht
 ·obtain ⟨b,hb,rfl⟩:=List.mem_map.1 ht;split at h3
  ·rename_i hk;rw[decide_eq_true_eq] at h3;have:=List.length_pos_of_mem hb;omega
  ·rename_i hk;simp only[Bool.and_eq_true,decide_eq_true_eq] at h3;obtain ⟨-,h4⟩:=h3;obtain ⟨c,hc⟩:∃c,s.keys[0]?=some c:=⟨_,List.getElem?_eq_getElem (by omega)⟩;have h5:=(allIdx_iff.1 h4) 0 c hc;split at h5
   ·cases h5
   ·have h6:=(List.all_eq_true.1 h5) b hb;simp only[Bool.and_eq_true,decide_eq_true_eq] at h6;exact h6.1.2.1
def lenOf:Value->Nat
 | .slice _ n _=>n
 |_=>0
end Go.Proofs.YtjfhfaodbjecdaaGreat
