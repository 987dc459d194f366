/-
  journey.Walk of any program, entries and net.
-/
import Derived.Test.YtikilcbpogfgkaaGreatJH26
set_option maxHeartbeats 12800000
set_option maxRecDepth 100000
namespace Go.Proofs.YtikilcbpogfgkaaGreat
open Go.RowKit Stab
def walkBad (_p:Prg) (ls:List (List Ent)) (n:Net) (e:Ed) (hops:Int):Prop:=hops<1\/6<hops\/ls.length≠n.sws.length\/(nextT n e).2.1=false\/e.sw<0\/(ls.length:Int)<=e.sw
def noT:Trc:=⟨[],0,⟨0,0⟩,[],false⟩
def AnsW (b:Nat) (w:World) (T:Trc) (er:Int) (e:Ending):Prop:=∃k:TrS,e= .returned (.tuple #[trV k T, .int .i64 er])/\TrO b w k T
theorem walkA_any (s:PgS) (p:Prg) (ls:List (List Ent)) (lp:Option Addr) (ln lc:Nat) (t:NtS) (n:Net) (e:Ed) (bp:Option Addr) (bn bc:Nat) (xs:List Int) (hops:Int) (w:World) (hp:PgOk w s p) (hk:∀l∈ls,PaOk p l) (hl:EsRow w (.slice lp ln lc) ls) (hn:NtOk w t n) (hs:NtSm n) (hb:URow w (.slice bp bn bc) xs) (hxl:xs.length<=1000000):
 Calls Tryz.prog 14 #[pgV s, .slice lp ln lc,ntV t,EdV e, .slice bp bn bc, .int .i64 hops] w fun r w'=>(walkBad p ls n e hops->AnsW w.heap.size w' noT 2 r)/\(¬ walkBad p ls n e hops->AnsW w.heap.size w' (walkF p ls n hops.toNat e xs [] false) 0 r)/\Bl w w':=by
 have HLL:Hd (ln=ls.length/\t.sn=n.sws.length):=⟨hl.ln.1,hn.sws.ln.1⟩;have HNX:Hd (∀ W e,Bl w W->Calls Tryz.prog 34 #[ntV t,EdV e] W fun r w'=>r= .returned (.tuple #[EdV (nextT n e).1, .bool (nextT n e).2.1, .bool (nextT n e).2.2])/\Bl W w'):=fun W e h=>next_any t n e W (hn.below h)
 have HCL:Hd (∀ W,Bl w W->Calls Tryz.prog 35 #[.slice bp bn bc] W fun e w'=>(∃ v,e= .returned v/\w'.ownsRow W.heap.size 5 1 v xs.length (xs.map (Value.int .u8)))/\Bl W w'):=fun W h=>cloneO_any _ xs W (hb.below keepU h) hxl
 have HLS:Hd (∀ j:Nat,(j:Int)<(ls.length:Int)->∃b o ep en ec,lp=some ⟨b,o,none⟩/\b<w.heap.size/\Cl w b (o+j) (.slice ep en ec)/\∀W port v c (ys:List Int),Bl w W->URow W (.slice v ys.length c) ys->ys.length<=1000000->0<=port/\port<=511->Calls Tryz.prog 8 #[pgV s, .slice ep en ec, .int .i64 port, .slice v ys.length c] W fun e w'=>AnsGn W.heap.size w' (passP p (ls.getD j []) port ys) e/\Bl W w'):=fun j hj=>by
  have hj2:j<ls.length:=om
  obtain ⟨b,o,e1,h1,ep,en,ec,h2,h3⟩:=hl.get (gE_ hj2);rw[Nat.mul_one] at h2;have hd:ls.getD j []=ls[j]:=by rw[List.getD_eq_getElem?_getD,gE_ hj2,Option.getD_some]
  refine ⟨b,o,ep,en,ec,e1,h1,h2,fun W port v c ys hW hy hyl hpo=>?_⟩;rw[hd];exact passA_any s p ls[j] ep en ec port v ys.length c ys W (hp.below hW) (hk _ (List.getElem_mem hj2)) (h3.below keepE hW) hy hyl hpo
 have HGL:Hd (∀ (j:Nat) port ys,(j:Int)<(ls.length:Int)->(passP p (ls.getD j []) port ys).o=true->(passP p (ls.getD j []) port ys).b.length<=64):=fun j port ys hj h=>by
  have hj2:j<ls.length:=om
  have hd:ls.getD j []=ls[j]:=by rw[List.getD_eq_getElem?_getD,gE_ hj2,Option.getD_some]
  rw[hd] at h⊢;exact ((gn_ok (hk _ (List.getElem_mem hj2)) port ys).o h).2.2.1
 have HTP:Hd (∀ e,(nextT n e).2.1=true->0<=e.port/\e.port<=511):=fun e h=>by
  unfold nextT at h;by_cases q:ntThere n e=true
  ·exact there_port hs q
  ·rw[if_neg q] at h;cases h
 have HNP:Hd (∀ e,(nextT n e).2.2=true->0<=(nextT n e).1.port/\(nextT n e).1.port<=511):=fun e h=>next_port hs h
 have HXL:=hD hxl;obtain ⟨NX,hNX⟩:=nm (nextT n);have HBAD:Hd (walkBad p ls n e hops↔(hops<1\/6<hops\/ln≠t.sn\/(NX e).2.1=false\/e.sw<0\/(ln:Int)<=e.sw)):=by show _↔_;rw[HLL.o.1,HLL.o.2,hNX];exact Iff.rfl
 generalize hBD:walkBad p ls n e hops=BAD at*;clear hBD;have HNXE:=hD hNX;rw[<- hNX] at HNX HTP HNP;clear hp hk hl hn hs hb hxl hNX;obtain ⟨FIN,hFIN⟩:=nm (walkF p ls n hops.toNat e xs [] false);have HFIN:=hD hFIN.symm;rw[<- hFIN];clear hFIN;obtain ⟨sw0,po0⟩:=e;unfold pgV at HLS⊢;unfold ntV EdV at HNX⊢;dsimp only at HBAD⊢;go_enter Tryz.func14,Tryz.ntmps14;go_upto_region 1 with fail
 obtain ⟨W0,hW0⟩:=nm ((((w.alloc (.cells (pA s) 33)).alloc (.cells #[.slice t.sp t.sn t.sc, .slice t.pp t.pn t.pc, .slice t.lp t.ln t.lc] 52)).alloc (.cells #[.int .i64 sw0, .int .i64 po0] 54)).alloc (.cells #[.slice none 0 0, .int .u8 0, .int .i64 0, .int .i64 0, .slice none 0 0, .bool false] 59));have HB0:Hd (Bl w W0):=by show Below _ _ _;rw[hW0];exact bL
 have HC4:Hd (GBox W0 w.heap.size s/\NBx W0 (w.heap.size+1) t/\EBx W0 (w.heap.size+1+1) ⟨sw0,po0⟩/\TBx W0 (w.heap.size+1+1+1) (.slice none 0 0) (.slice none 0 0) 0 ⟨0,0⟩ false):=by rw[hW0];exact chain4 w _ _ _ _
 have HSZ0:Hd (W0.heap.size=w.heap.size+1+1+1+1):=by show _=_;rw[hW0];simp
 rw[<- hW0];clear hW0;obtain ⟨n0,n1,n2⟩:=HC4.o.2.1.cells;obtain ⟨f0,f1⟩:=HC4.o.2.2.1.cells;go_step3;go_upto_region 2 with (go_at_call 34;refine (HNX.o _ ⟨sw0,po0⟩ HB0.o).mono ?_;rintro r w1 ⟨rfl,hb1⟩;have HB1:=hD hb1;clear hb1)
 generalize hth:(NX ⟨sw0,po0⟩).2.1=TH at*;generalize (NX ⟨sw0,po0⟩).2.2=LK at*;generalize (NX ⟨sw0,po0⟩).1=E1 at*;have HTH:=hD hth;clear hth;obtain ⟨W1,hW1⟩:=nm (w1.alloc (.cells #[.int .i64 E1.sw, .int .i64 E1.port] 54));have HBW:Hd (Bl W0 W1):=by show Below _ _ _;rw[hW1];exact HB1.o.alloc HB1.o.size _
 rw[<- hW1];clear hW1 HB1 n0 n1 n2 f0 f1;have HC1:Hd (GBox W1 w.heap.size s/\NBx W1 (w.heap.size+1) t/\EBx W1 (w.heap.size+1+1) ⟨sw0,po0⟩/\TBx W1 (w.heap.size+1+1+1) (.slice none 0 0) (.slice none 0 0) 0 ⟨0,0⟩ false):=by
  obtain ⟨h1,h2,h3,h4⟩:=HC4.o;exact ⟨(HBW.o.block _ (lt_some h1)).trans h1,(HBW.o.block _ (lt_some h2)).trans h2,(HBW.o.block _ (lt_some h3)).trans h3,h4.below HBW.o⟩
 have HW1:=hD (HB0.o.trans (HBW.o.mono HB0.o.size));clear HC4;obtain ⟨n0,n1,n2⟩:=HC1.o.2.1.cells;obtain ⟨f0,f1⟩:=HC1.o.2.2.1.cells;dsimp only at f0 f1;go_cut [62] (fun c wx=>∃b:Bool,c= .bool b/\Hd (b=true↔BAD)/\W1=wx)
 case first=>
  cases TH
  all_goals
   go_wp2_with fail
  all_goals
   go_meet;refine ⟨_,rfl,?_,rfl⟩;show _↔_;rw[HBAD.o]
   first
    |(simp_all;done)
    |(simp_all;omega)
    |omega
 obtain ⟨b,rfl,HBB,rfl⟩:=hcut;have HRX:Hd (TBx W1 (w.heap.size+1+1+1) (.slice none 0 0) (.slice none 0 0) 0 ⟨0,0⟩ false):=HC1.o.2.2.2;cases b
 ·have hnb:=mt HBB.o.2 dq;have hnb2:=mt HBAD.o.2 hnb;have HNB:=hD hnb;obtain ⟨z1,z2,z3,z4,z5,z6⟩:1<=hops/\hops<=6/\ln=t.sn/\TH=true/\0<=sw0/\sw0<(ln:Int):=by
   refine ⟨om,om,Classical.not_not.1 fun h=>hnb2 (.inr (.inr (.inl h))),?_,om,om⟩;cases TH
   ·exact absurd (.inr (.inr (.inr (.inl rfl)))) hnb2
   ·rfl
  subst z4;have HPO:=hD (HTP.o _ HTH.o);have HLN:=hD z3;clear hnb hnb2 z3 HBB HBAD n0 n1 n2 HTH;go_upto_region 5 with fail
  obtain ⟨W2,hW2⟩:=nm (W1.alloc (.cells #[.slice none 0 0, .int .u8 2, .int .i64 0, .int .i64 0, .slice none 0 0, .bool false] 59));have HB2:Hd (Bl W1 W2):=by show Below _ _ _;rw[hW2];exact br.alloc lr _
  have HT2:Hd (TBx W2 W1.heap.size (.slice none 0 0) (.slice none 0 0) 2 ⟨0,0⟩ false):=by show _=_;rw[hW2];exact heap_new _ _
  have HW2:=hD (HW1.o.trans (HB2.o.mono HW1.o.size));rw[<- hW2];clear hW2 f0 f1;have HE2:Hd (EBx W2 (w.heap.size+1+1) ⟨sw0,po0⟩):=(HB2.o.block _ (lt_some HC1.o.2.2.1)).trans HC1.o.2.2.1;obtain ⟨f0,f1⟩:=HE2.o.cells;dsimp only at f0 f1;have hw2:=HW2.o;have F0:=hD f0;have F1:=hD f1;clear f0 f1;go_cut [18,19] (fun a c wx=>∃(A:Nat) (nv:Value),a= .pointer (some ⟨A,0,none⟩)/\c=nv/\Hd (Bl W2 wx)/\Hd (EBx wx A ⟨sw0,po0⟩)/\Hd (W2.heap.size<=A)/\Hd (wx.ownsRow W2.heap.size 5 1 nv xs.length (xs.map (Value.int .u8))))
  case first=>
   refine region_outR (ER W2.heap.size ⟨sw0,po0⟩) (ER.refl _ _) kq (fun W=>Bl W2 W) (fun _ _ h hr=>h.trans hr.low) kq (Below.drew br) ?_;refine sq (fun aa ww ll hh=>by have:=hh.oL 9;have f0:=(hh.inv.cell (cell_there F0.o).1).trans F0.o;have f1:=(hh.inv.cell (cell_there F1.o).1).trans F1.o;exact ov gX) ?_;refine sq (fun aa ww ll hh=>by exact ov (xmv (hh.oL 4))) ?_;refine ⟨.rel (fun W v=>W.ownsRow W2.heap.size 5 1 v xs.length (xs.map (Value.int .u8))),(fun W W' v h hr=>hr.row v _ _ h),rfl,fun aa ww ll hh=>?_,?_⟩
   ·have e66:=hh.gt 1 0;have ef:=evf aa;have HI:=hh.inv;refine out_call (wanted_none rfl) ?_ ((HCL.o ww (hw2.trans (HI.mono hw2.size))).mono fun e w3 h=>by obtain ⟨⟨v,h1,h2⟩,h3⟩:=h;exact ⟨v,h1,own_base h2 HI.size,ER.of_below HI.size h3⟩);try clear HI;exact gX
   refine ⟨.rel (fun W v=>∃g:Nat,v= .pointer (some ⟨g,0,none⟩)/\W2.heap.size<=g/\(EBx W g ⟨0,0⟩\/EBx W g ⟨sw0,po0⟩)),(fun W W' v ⟨g,h1,h2,h3⟩ hr=>⟨g,h1,h2,hr.ko g h2 h3⟩),rfl,fun aa ww ll hh=>?_,?_⟩
   ·have hsz:=hh.inv.size;clear hh;refine out_new (wanted_none rfl) (w':=ww.alloc (.cells #[.int .i64 0, .int .i64 0] 54)) (v:= .pointer (some ⟨ww.heap.size,0,none⟩)) ?_ (ER.of_below hsz (br.alloc lr _)) ⟨_,rfl,hsz, .inl (heap_new _ _)⟩;go_simp
    try rfl
   refine ⟨.rell [3] (fun vs W _=>∃g:Nat,vs=[.pointer (some ⟨g,0,none⟩)]/\W2.heap.size<=g/\EBx W g ⟨sw0,po0⟩),(fun vs W W' v ⟨g,h1,h2,h3⟩ hr=>⟨g,h1,h2,hr.k1 g h2 h3⟩),rfl,fun aa ww ll hh=>?_,?_⟩
   ·obtain ⟨x18,e18,-,p18⟩:=hh.got 3 0 kq rfl rfl rfl;have e65:=hh.gt 0 3;obtain ⟨z18,ez18,lz18,gg,rfl,h2,h3⟩:=hh.got 3 0 kq rfl rfl rfl;obtain ⟨ee,hd⟩:∃ee,EBx ww gg ee:=by rcases h3 with h|h<;>exact ⟨_,h⟩
    obtain ⟨u0,u1⟩:=hd.cells;have r0:=hd.free 0;have r1:=hd.free 1;have hs:=ER.store (e:=⟨sw0,po0⟩) h2 h3;refine out_store (wanted_none rfl) (w':=(ww.setCell ⟨gg,0,none⟩ (.int .i64 sw0)).setCell ⟨gg,1,none⟩ (.int .i64 po0)) ?_ hs.1 ⟨gg,by simp only[List.map_cons,List.map_nil,lz18],h2,hs.2⟩;rw[ez18] at e18;subst e18;have e18:=ez18;try clear p18;exact gX
   refine ⟨.rel (fun W v=>W.ownsRow W2.heap.size 5 1 v xs.length (xs.map (Value.int .u8))),(fun W W' v h hr=>hr.row v _ _ h),rfl,fun aa ww ll hh=>?_,?_⟩
   ·obtain ⟨x67,e67,-,p67⟩:=hh.got 2 2 kq rfl rfl rfl;refine out_new (v:=x67) (wanted_none rfl) ?_ (ER.refl _ _ _) p67;rw[ex_moveO (by first|exact .inl rfl|exact .inr rfl) e67]
   intro ll w3 hS3 hok;have p4:=hok 4 _ rfl;have p5:=hok 5 _ rfl;clear hok;simp only[ly];obtain ⟨A,e4,b4,h4⟩:=p4;simp only[List.map_cons,List.map_nil,List.cons.injEq,and_true] at e4;rw[e4];clear e4;go_wp2_with fail;go_meet;exact ⟨A,_,rfl,rfl,hS3,h4,b4,p5⟩
  obtain ⟨A,nv,rfl,hnv,HB3,HE3,HA3,HO3⟩:=hcut;obtain rfl:nv=_:=hnv.symm;clear hw2 F0 F1;obtain ⟨B,hB⟩:=nm W1.heap.size;have HJ0:Hd (JSt B wc B A (.slice none 0 0) nv [] false ⟨sw0,po0⟩ xs):=by
   have hsz:B<W2.heap.size:=by rw[hB];exact lt_some HT2.o
   exact ⟨by rw[hB];exact HT2.o.below HB3.o,HE3.o,World.ownsRow_nil _ _ _ _,(fun q hq=>by cases hq),own_base HO3.o om,⟨Nat.le_refl _,by have:=HA3.o;omega⟩⟩
  have HBC:Hd (Below B W1 wc):=by show Below _ _ _;rw[hB];exact HB2.o.trans (HB3.o.mono HB2.o.size)
  have HBS:Hd (B=W1.heap.size/\w.heap.size+1+1+1<B):=⟨hB,by rw[hB];exact lt_some HRX.o⟩;rw[<- hB];clear hB HB3 HE3 HA3 HO3 HT2 HE2 HW2 HB2;obtain ⟨H,hH⟩:∃H:Nat,hops=(H:Int):=⟨hops.toNat,om⟩;subst hH;have HF0:Hd (walkF p ls n H ⟨sw0,po0⟩ xs (([]:List (Hp×Value)).map Prod.fst) false=FIN):=HFIN.o;clear HFIN;go_wp2_with fail;go_step3
  try go_wp2_with fail
  go_loopg [19,20] H (fun g a b wr=>∃(m:Nat) (e:Ed) (ys:List Int) (hv:Value) (hq:List (Hp×Value)) (acc:Bool),b= .int .i64 (m:Int)/\1<=m/\m+g=H+1/\1<=g/\Hd (JSt B wr B A hv a hq acc e ys)/\Hd (walkF p ls n g e ys (hq.map Prod.fst) acc=FIN)/\Hd (0<=e.sw/\e.sw<(ln:Int)/\0<=e.port/\e.port<=511)/\Hd (ys.length<=1000000)/\Hd (hq.length+1=m)/\Hd (Below B W1 wr))
  case atStart=>exact ⟨1,⟨sw0,po0⟩,xs, .slice none 0 0,[],false,rfl,om,om,om,HJ0,HF0,⟨z5,z6,HPO.o.1,HPO.o.2⟩,HXL,rfl,HBC⟩
  case round=>
   obtain ⟨m,⟨sw,po⟩,ys,hv,hq,acc,rfl,hm1,hmg,hg1,HJ,HWF,HEP,HYL,HQL,HBR⟩:=hrel;obtain ⟨g,rfl⟩:∃g,gk=g+1:=⟨gk-1,om⟩;obtain ⟨np,nc,hnv⟩:=own_sh HJ.o.now;subst hnv;obtain ⟨hvp,hvn,hvc,rfl⟩:=own_sh3 HJ.o.own;have HWR:Hd (Bl w wr):=HW1.o.trans (HBR.o.mono (by have:=HBS.o;omega));have HGR:Hd (GBox wr w.heap.size s/\NBx wr (w.heap.size+1) t):=⟨(HBR.o.block _ (by have:=HBS.o;omega)).trans HC1.o.1,(HBR.o.block _ (by have:=HBS.o;omega)).trans HC1.o.2.1⟩;obtain ⟨j,hj⟩:∃j:Nat,sw=(j:Int):=⟨sw.toNat,by have:=HEP.o.1;dsimp only at this;omega⟩;subst hj;obtain ⟨c0,c1,c2,c3,c4,c5⟩:=HJ.o.t.cells;obtain ⟨a0,a1⟩:=HJ.o.a.cells;dsimp only at c2 c3 a0 a1;have k0:=HJ.o.t.free 0;have hql:hq.length<=6:=by have:=HQL.o;omega
   obtain rfl:hvn=hq.length:=by have:=HJ.o.own;obtain ⟨-,⟨q,q2⟩|⟨g',cap,cur,q,-⟩⟩:=this<;>(simp only[Value.slice.injEq] at q;omega)
   have HWZ:Hd (B<=wr.heap.size):=by show B<=_;have:=HJ.o.tlt;omega
   go_upto_region 9 with (at_builtin;refine append_at elemHp rfl (.tmp 71) (.tmp 75) rfl B (.slice hvp hq.length hvc) hq.length _ rfl (World.ownsRow.alloc HJ.o.own _) (.slice (some ⟨wr.heap.size,0,none⟩) 1 1) 1 [.int .i64 (j:Int), .int .i64 po, .slice np ys.length nc] rfl (src_one (g:=wr.heap.size) rfl (fun u hu=>by simp at hu;rcases hu with rfl|rfl|rfl<;>rfl) (fun j u hj=>by match j,hj with|0,hj=>cases hj;simp[go_sem]|1,hj=>cases hj;simp[go_sem]|2,hj=>cases hj;simp[go_sem])) om (by unfold maxLen;omega) (by have:=HWZ.o;simp only[World.size_alloc];omega) ?_;intro y3 w3 h1 h2;obtain ⟨yp,yn,yc,rfl⟩:=own_sh3 h1;have HO3:=hD h1;have HG3:=hD h2;clear h1 h2;have HT3:Hd (TBx w3 B (.slice hvp hq.length hvc) (.slice none 0 0) 2 ⟨0,0⟩ acc):=((HG3.o.grown.block B (by have:=HJ.o.tlt;simp only[World.size_alloc];omega) (fun e=>own_notT HJ.o.own HJ.o.t _ e.symm rfl)).trans (Below.heap_alloc _ _ _ HJ.o.tlt)).trans HJ.o.t;have d0:=HT3.o.cells.1;have k3:=HT3.o.free 0)
   obtain ⟨W4,hW4⟩:=nm (w3.setCell ⟨B,0,none⟩ (.slice yp yn yc));have HJ4:Hd (JSt B W4 B A (.slice yp yn yc) (.slice np ys.length nc) (hq++[(⟨⟨j,po⟩,ys⟩, .slice np ys.length nc)]) acc ⟨j,po⟩ ys):=by rw[hW4];exact HJ.o.push HWZ.o HO3.o HG3.o
   have HB4:Hd (Below B W1 W4):=by
    have h1:Below B W1 w3:=below_grown (HBR.o.alloc HWZ.o _) (World.ownsRow.alloc HJ.o.own _) HG3.o.grown lr (by have:=HWZ.o;simp only[World.size_alloc];omega);show Below _ _ _;rw[hW4];exact h1.setCell lr _
   have hlx:(hq++[((⟨⟨j,po⟩,ys⟩:Hp),Value.slice np ys.length nc)]).length=m:=by rw[List.length_append,List.length_singleton];exact HQL.o
   have hpx:(hq++[((⟨⟨j,po⟩,ys⟩:Hp),Value.slice np ys.length nc)]).map Prod.fst=hq.map Prod.fst++[⟨⟨j,po⟩,ys⟩]:=by rw[List.map_append];rfl
   have HLX:=hD hlx;have HPX:=hD hpx;clear hlx hpx;rw[<- hW4];clear hW4 HO3 HG3 HT3 d0 k3 c0 c1 c2 c3 c4 c5 a0 a1 k0 HQL hql;generalize hq++[((⟨⟨j,po⟩,ys⟩:Hp),Value.slice np ys.length nc)]=hr at*;have HW4:Hd (Bl w W4):=HW1.o.trans (HB4.o.mono (by have:=HBS.o;omega));have HG4:Hd (GBox W4 w.heap.size s/\NBx W4 (w.heap.size+1) t):=⟨(HB4.o.block _ (by have:=HBS.o;omega)).trans HC1.o.1,(HB4.o.block _ (by have:=HBS.o;omega)).trans HC1.o.2.1⟩;obtain ⟨lb,lo,ep,en,ec,hlp,hlb,hlc,hcall⟩:=HLS.o j (by have:=HLL.o.1;have:=HEP.o.2.1;dsimp only at this;omega);have hlj:(j:Int)<(ln:Int):=HEP.o.2.1;have hlj2:j<ln:=om
   subst hlp;obtain ⟨G,hG⟩:=nm (passP p (ls.getD j []) po ys);have HCP:Hd (∀ W,Bl W4 W->Calls Tryz.prog 8 #[.agg (pA s), .slice ep en ec, .int .i64 po, .slice np ys.length nc] W fun e w'=>AnsGn W.heap.size w' G e/\Bl W w'):=fun W h=>by rw[hG];exact hcall W po np nc ys (HW4.o.trans (h.mono HW4.o.size)) (HJ4.o.now.below h).row HYL.o ⟨HEP.o.2.2.1,HEP.o.2.2.2⟩
   have HLC:Hd (∀ W,Bl W4 W->Cl W lb (lo+j) (.slice ep en ec)/\Cl W A 0 (.int .i64 (j:Int))/\Cl W A 1 (.int .i64 po)):=fun W h=>⟨((HW4.o.trans (h.mono HW4.o.size)).cell (p:=⟨lb,lo+j,none⟩) hlb).trans hlc,(HJ4.o.below h).a.cells⟩
   have HGO:Hd (G.o=true->G.b.length<=64):=fun h=>by rw[hG] at h⊢;exact HGL.o j po ys (by have:=HLL.o.1;omega) h
   have HGE:=hD hG;clear hG hlc hcall;refine region_outR (GR W4.heap.size G) (GR.refl _ _) kq (fun W=>Bl W4 W) (fun _ _ h hr=>h.trans hr.low) kq (Below.drew br) ?_;refine sq (fun aa ww ll hh=>by have:=hh.oL 6;obtain ⟨l0,a0,a1⟩:=HLC.o ww hh.inv;obtain ⟨q0,q1,q2,q3,q4,q5,q6,q7,q8,q9,q10,q11⟩:=HG4.o.1.cells;replace q0:=(hh.inv.cell (cell_there q0).1).trans q0;replace q1:=(hh.inv.cell (cell_there q1).1).trans q1;replace q2:=(hh.inv.cell (cell_there q2).1).trans q2;replace q3:=(hh.inv.cell (cell_there q3).1).trans q3;replace q4:=(hh.inv.cell (cell_there q4).1).trans q4;replace q5:=(hh.inv.cell (cell_there q5).1).trans q5;replace q6:=(hh.inv.cell (cell_there q6).1).trans q6;replace q7:=(hh.inv.cell (cell_there q7).1).trans q7;replace q8:=(hh.inv.cell (cell_there q8).1).trans q8;replace q9:=(hh.inv.cell (cell_there q9).1).trans q9;replace q10:=(hh.inv.cell (cell_there q10).1).trans q10;replace q11:=(hh.inv.cell (cell_there q11).1).trans q11;exact ov gX) ?_;refine sq (fun aa ww ll hh=>by exact ov (xmv (hh.oL 1))) ?_;refine sq (fun aa ww ll hh=>by have:=hh.oL 18;exact ov gX) ?_;refine sq (fun aa ww ll hh=>by have:=hh.gt 2 0;obtain ⟨l0,a0,a1⟩:=HLC.o ww hh.inv;obtain ⟨q0,q1,q2,q3,q4,q5,q6,q7,q8,q9,q10,q11⟩:=HG4.o.1.cells;replace q0:=(hh.inv.cell (cell_there q0).1).trans q0;replace q1:=(hh.inv.cell (cell_there q1).1).trans q1;replace q2:=(hh.inv.cell (cell_there q2).1).trans q2;replace q3:=(hh.inv.cell (cell_there q3).1).trans q3;replace q4:=(hh.inv.cell (cell_there q4).1).trans q4;replace q5:=(hh.inv.cell (cell_there q5).1).trans q5;replace q6:=(hh.inv.cell (cell_there q6).1).trans q6;replace q7:=(hh.inv.cell (cell_there q7).1).trans q7;replace q8:=(hh.inv.cell (cell_there q8).1).trans q8;replace q9:=(hh.inv.cell (cell_there q9).1).trans q9;replace q10:=(hh.inv.cell (cell_there q10).1).trans q10;replace q11:=(hh.inv.cell (cell_there q11).1).trans q11;exact ov gX) ?_;refine sq (fun aa ww ll hh=>by have:=hh.gt 1 2;have:=hh.gt 3 0;exact ov gX) ?_;refine sq (fun aa ww ll hh=>by have:=hh.gt 4 0;obtain ⟨l0,a0,a1⟩:=HLC.o ww hh.inv;obtain ⟨q0,q1,q2,q3,q4,q5,q6,q7,q8,q9,q10,q11⟩:=HG4.o.1.cells;replace q0:=(hh.inv.cell (cell_there q0).1).trans q0;replace q1:=(hh.inv.cell (cell_there q1).1).trans q1;replace q2:=(hh.inv.cell (cell_there q2).1).trans q2;replace q3:=(hh.inv.cell (cell_there q3).1).trans q3;replace q4:=(hh.inv.cell (cell_there q4).1).trans q4;replace q5:=(hh.inv.cell (cell_there q5).1).trans q5;replace q6:=(hh.inv.cell (cell_there q6).1).trans q6;replace q7:=(hh.inv.cell (cell_there q7).1).trans q7;replace q8:=(hh.inv.cell (cell_there q8).1).trans q8;replace q9:=(hh.inv.cell (cell_there q9).1).trans q9;replace q10:=(hh.inv.cell (cell_there q10).1).trans q10;replace q11:=(hh.inv.cell (cell_there q11).1).trans q11;exact ov gX) ?_;refine sq (fun aa ww ll hh=>by have:=hh.oL 18;exact ov gX) ?_;refine sq (fun aa ww ll hh=>by have:=hh.gt 6 0;obtain ⟨l0,a0,a1⟩:=HLC.o ww hh.inv;obtain ⟨q0,q1,q2,q3,q4,q5,q6,q7,q8,q9,q10,q11⟩:=HG4.o.1.cells;replace q0:=(hh.inv.cell (cell_there q0).1).trans q0;replace q1:=(hh.inv.cell (cell_there q1).1).trans q1;replace q2:=(hh.inv.cell (cell_there q2).1).trans q2;replace q3:=(hh.inv.cell (cell_there q3).1).trans q3;replace q4:=(hh.inv.cell (cell_there q4).1).trans q4;replace q5:=(hh.inv.cell (cell_there q5).1).trans q5;replace q6:=(hh.inv.cell (cell_there q6).1).trans q6;replace q7:=(hh.inv.cell (cell_there q7).1).trans q7;replace q8:=(hh.inv.cell (cell_there q8).1).trans q8;replace q9:=(hh.inv.cell (cell_there q9).1).trans q9;replace q10:=(hh.inv.cell (cell_there q10).1).trans q10;replace q11:=(hh.inv.cell (cell_there q11).1).trans q11;exact ov gX) ?_;refine sq (fun aa ww ll hh=>by exact ov (xmv (hh.oL 19))) ?_;refine ⟨.rel (fun W v=>∃bv,v= .agg #[.bool G.acc, .bool G.o, .bool G.long, .bool G.access, .int .i64 G.port,bv]/\By W4.heap.size W bv G.b),(fun W W' v ⟨bv,h1,h2⟩ hr=>⟨bv,h1,hr.row bv h2⟩),rfl,fun aa ww ll hh=>?_,?_⟩
   ·have e78:=hh.gt 0 8;have e83:=hh.gt 5 3;have e85:=hh.gt 7 1;have e86:=hh.gt 8 0;have ef:=evf aa;have ec:=evc aa;have HI:=hh.inv;refine out_call (wanted_none rfl) ?_ ((HCP.o ww HI).mono fun e w2 h=>by obtain ⟨⟨bv,h1,h2⟩,h3⟩:=h;exact ⟨_,h1,⟨bv,rfl,own_base h2 HI.size⟩,GR.of_below HI.size h3⟩);try clear HI;exact gX
   refine ⟨.rel (fun W v=>∃g:Nat,v= .pointer (some ⟨g,0,none⟩)/\W4.heap.size<=g/\(W.heap[g]?=some G0\/GDone W4.heap.size G W g)),(fun W W' v ⟨g,h1,h2,h3⟩ hr=>⟨g,h1,h2,hr.ko g h2 h3⟩),rfl,fun aa ww ll hh=>?_,?_⟩
   ·have hsz:=hh.inv.size;clear hh;refine out_new (wanted_none rfl) (w':=ww.alloc (.cells #[.bool false, .bool false, .bool false, .bool false, .int .i64 0, .slice none 0 0] 39)) (v:= .pointer (some ⟨ww.heap.size,0,none⟩)) ?_ (GR.of_below hsz (br.alloc lr _)) ⟨_,rfl,hsz, .inl (heap_new _ _)⟩;go_simp
    try rfl
   refine ⟨.rell [10] (fun vs W _=>∃g:Nat,vs=[.pointer (some ⟨g,0,none⟩)]/\W4.heap.size<=g/\GDone W4.heap.size G W g),(fun vs W W' v ⟨g,h1,h2,h3⟩ hr=>⟨g,h1,h2,hr.k1 g h2 h3⟩),rfl,fun aa ww ll hh=>?_,?_⟩
   ·obtain ⟨x21,e21,-,p21⟩:=hh.got 10 0 kq rfl rfl rfl;obtain ⟨x87,e87,-,p87⟩:=hh.got 9 1 kq rfl rfl rfl;obtain ⟨z21,ez21,lz21,gg,rfl,h2,h3⟩:=hh.got 10 0 kq rfl rfl rfl;obtain ⟨bv,rfl,hbv⟩:=p87;obtain ⟨pa,cap,rfl⟩:=own_sh hbv;obtain ⟨d0,d1,d2,d3,d4,d5,hd⟩:=g_sixW h3;have u0:=Gx.cell (i:=0) hd rfl;have u1:=Gx.cell (i:=1) hd rfl;have u2:=Gx.cell (i:=2) hd rfl;have u3:=Gx.cell (i:=3) hd rfl;have u4:=Gx.cell (i:=4) hd rfl;have u5:=Gx.cell (i:=5) hd rfl;have r0:=Gx.free hd 0;have r1:=Gx.free hd 1;have r2:=Gx.free hd 2;have r3:=Gx.free hd 3;have r4:=Gx.free hd 4;have r5:=Gx.free hd 5;have hs:=GR.store h2 h3 hbv;refine out_store (wanted_none rfl) (w':=set6 ww gg (.bool G.acc) (.bool G.o) (.bool G.long) (.bool G.access) (.int .i64 G.port) (.slice pa G.b.length cap)) ?_ hs.1 ⟨gg,by simp only[List.map_cons,List.map_nil,lz21],h2,hs.2⟩;rw[ez21] at e21;subst e21;have e21:=ez21;try clear hbv;exact gX
   intro ll w5 hS5 hok;have p11:=hok 11 _ rfl;clear hok;simp only[ly];obtain ⟨K1,e1,b1,bv,h1,u1⟩:=p11;simp only[List.map_cons,List.map_nil,List.cons.injEq,and_true] at e1;rw[e1];clear e1;obtain ⟨q1,cq,rfl⟩:=own_sh u1;have HJ5:Hd (JSt B w5 B A (.slice yp yn yc) (.slice np ys.length nc) hr acc ⟨j,po⟩ ys):=HJ4.o.below hS5;have hb5':Below B W1 w5:=HB4.o.trans (hS5.mono (by have:=HJ4.o.tlt;omega));have HB5:=hD hb5';have HB1:Hd (B<W4.heap.size/\W4.heap.size<=K1):=⟨HJ4.o.tlt,b1⟩;obtain ⟨gacc,gout,glong,gax,gpo,gb⟩:=G;dsimp only at HGO u1;have HU5:Hd (By B w5 (.slice q1 gb.length cq) gb):=own_base u1 (by have:=HJ4.o.tlt;omega);have HX5:Hd (Gx w5 K1 [.bool gacc, .bool gout, .bool glong, .bool gax, .int .i64 gpo, .slice q1 gb.length cq]):=h1;have HAQ:Hd (A<W4.heap.size):=HJ4.o.alt;clear h1 u1 hS5 hb5' b1 HJ4 HB4 HW4 HG4 HCP HLC HLS HWR HGR HJ HBR HWZ;generalize W4.heap.size=B4 at*;go_upto_region 10 with fail
   go_cut [] (fun wx=>w5.setCell ⟨B,5,none⟩ (.bool (acc||gax))=wx)
   case first=>
    obtain ⟨c0,c1,c2,c3,c4,c5⟩:=HJ5.o.t.cells;have k5:=HJ5.o.t.free 5;have x3:=Gx.cell (i:=3) HX5.o rfl;cases acc<;>cases gax
    all_goals
     go_wp2_with fail;go_meet;exact rfl
   obtain ⟨W6,hW6⟩:=nm (w5.setCell ⟨B,5,none⟩ (.bool (acc||gax)));rw[<- hW6] at hcut;subst hcut;have HJ6:Hd (JSt B W6 B A (.slice yp yn yc) (.slice np ys.length nc) hr (acc||gax) ⟨j,po⟩ ys):=by rw[hW6];exact HJ5.o.acq _
   have HB6:Hd (Below B W1 W6):=by show Below _ _ _;rw[hW6];exact HB5.o.setCell lr _
   have HX6:Hd (Gx W6 K1 [.bool gacc, .bool gout, .bool glong, .bool gax, .int .i64 gpo, .slice q1 gb.length cq]):=by show _=_;rw[hW6];exact (setCell_heap (by have:=HB1.o;omega)).trans HX5.o
   have HU6:Hd (By B W6 (.slice q1 gb.length cq) gb):=by show By _ _ _ _;rw[hW6];exact own_far HU5.o fun z hz=>setCell_heap (HU5.o.notT HJ5.o.t z hz)
   clear hW6 HJ5 HB5 HX5 HU5;obtain ⟨a0,a1⟩:=HJ6.o.a.cells;dsimp only at a0 a1;have x4:=Gx.cell (i:=4) HX6.o rfl;go_upto_region 12 with fail
   obtain ⟨W7,hW7⟩:=nm (W6.alloc (.cells #[.int .i64 (j:Int), .int .i64 gpo] 54));have HB7:Hd (Bl W6 W7):=by show Below _ _ _;rw[hW7];exact br.alloc lr _
   have HE7:Hd (EBx W7 W6.heap.size ⟨j,gpo⟩):=by show _=_;rw[hW7];exact heap_new _ _
   rw[<- hW7];clear hW7 a0 a1 x4;have HN7:Hd (Bl w W7/\NBx W7 (w.heap.size+1) t):=by
    have h1:Below B W1 W7:=HB6.o.trans (HB7.o.mono (by have:=HJ6.o.tlt;omega));exact ⟨HW1.o.trans (h1.mono (by have:=HBS.o;omega)),(h1.block _ (by have:=HBS.o;omega)).trans HC1.o.2.1⟩
   obtain ⟨n0,n1,n2⟩:=HN7.o.2.cells;obtain ⟨a0,a1⟩:=HE7.o.cells;dsimp only at a0 a1;go_upto_region 13 with (go_at_call 34;refine (HNX.o _ ⟨j,gpo⟩ HN7.o.1).mono ?_;rintro r w8 ⟨rfl,hb8⟩;have HB8:=hD hb8;clear hb8)
   obtain ⟨RN,hRN⟩:=nm (NX ⟨j,gpo⟩);rw[<- hRN];have HRN:=hD hRN;clear hRN n0 n1 n2 a0 a1;obtain ⟨⟨nsw,npo⟩,there,linked⟩:=RN;dsimp only;obtain ⟨W9,hW9⟩:=nm (w8.alloc (.cells #[.int .i64 nsw, .int .i64 npo] 54));have hb9:Bl w8 W9:=by rw[hW9];exact br.alloc lr _
   have HE9:Hd (EBx W9 w8.heap.size ⟨nsw,npo⟩):=by show _=_;rw[hW9];exact heap_new _ _
   rw[<- hW9];clear hW9;have HB9:Hd (Bl W6 W9):=(HB7.o.trans (HB8.o.mono HB7.o.size)).trans (hb9.mono (by have:=HB7.o.size;have:=HB8.o.size;omega));have HF9:Hd (EBx W9 W6.heap.size ⟨j,gpo⟩):=(HE7.o.below HB8.o).below hb9;have HJ9:Hd (JSt B W9 B A (.slice yp yn yc) (.slice np ys.length nc) hr (acc||gax) ⟨j,po⟩ ys):=HJ6.o.below HB9.o;have HX9:Hd (Gx W9 K1 [.bool gacc, .bool gout, .bool glong, .bool gax, .int .i64 gpo, .slice q1 gb.length cq]):=(HB9.o.block _ (lt_some HX6.o)).trans HX6.o;have HU9:Hd (By B W9 (.slice q1 gb.length cq) gb):=HU6.o.below HB9.o;have HB10:Hd (Below B W1 W9):=HB6.o.trans (HB9.o.mono (by have:=HJ6.o.tlt;omega));have HSW:Hd (B<W6.heap.size/\W6.heap.size<W9.heap.size/\w8.heap.size<W9.heap.size):=⟨HJ6.o.tlt,lt_some HF9.o,lt_some HE9.o⟩;have HSV:Hd (B<w8.heap.size/\A<w8.heap.size):=by show _/\_;have:=HB7.o.size;have:=HB8.o.size;have:=HJ6.o.tlt;have:=HJ6.o.alt;omega
   clear HJ6 HB6 HX6 HU6 HB7 HE7 HN7 HB8 hb9 HB9;generalize W6.heap.size=K2 at*;generalize w8.heap.size=K3 at*;have HWX:Hd (walkF p ls n (g+1) ⟨j,po⟩ ys (hq.map Prod.fst) acc=if gout=false\/there=false then ⟨hr.map Prod.fst,2,⟨0,0⟩,[],acc||gax⟩ else if linked=false then ⟨hr.map Prod.fst,1,⟨j,gpo⟩,gb,acc||gax⟩ else if g=0\/nsw<0\/(ls.length:Int)<=nsw then ⟨hr.map Prod.fst,3,⟨nsw,npo⟩,gb,acc||gax⟩ else walkF p ls n g ⟨nsw,npo⟩ gb (hr.map Prod.fst) (acc||gax)):=by
    show _=_;rw[walkF];simp only[Int.toNat_natCast];rw[<- HGE.o, <-HNXE.o, <-HRN.o, <-HPX.o]
   have HRW:Hd (TBx W9 (w.heap.size+1+1+1) (.slice none 0 0) (.slice none 0 0) 0 ⟨0,0⟩ false):=(HB10.o.block _ (by have:=HBS.o;omega)).trans HRX.o;have x1:=Gx.cell (i:=1) HX9.o rfl;have u1:¬K1=B:=by have:=HB1.o;omega
   have u2:¬B=K1:=by have:=HB1.o;omega
   have u3:¬K2=B:=by have:=HSW.o;omega
   have u4:¬B=K2:=by have:=HSW.o;omega
   have u5:¬K3=B:=by have:=HSV.o;omega
   have u6:¬B=K3:=by have:=HSV.o;omega
   by_cases hc1:gout=false\/there=false
   ·have HFE:=hD ((HWX.o.trans (if_pos hc1)).symm.trans HWF.o);have hsp:gout=false\/(gout=true/\there=false):=by revert hc1;cases gout<;>simp
    have HTE:Hd (TBx W9 B (.slice yp yn yc) (.slice none 0 0) 2 ⟨0,0⟩ (acc||gax)):=HJ9.o.t;have HKE:Hd (∀ z,B<=z->z≠B->W9.heap[z]?=W9.heap[z]?):=fun _ _ _=>rfl
    have HBV9:Hd (By B W9 (.slice none 0 0) []):=World.ownsRow_nil _ _ _ _;clear hc1 HWX;have HBE:=HB10;rcases hsp with rfl|⟨rfl,rfl⟩
    all_goals
     have HTO:Hd (∀ W7:World,(∀ z,B<=z->z≠B->W7.heap[z]?=W9.heap[z]?)->TrO w.heap.size W7 ⟨yp,yn,yc,none,0,0⟩ ⟨hr.map Prod.fst,2,⟨0,0⟩,[],acc||gax⟩):=fun W7 h=>(JSt.ends (how:=2) (at_:=⟨0,0⟩) (ac2:=acc||gax) HJ9.o HBV9.o h).lower (by have:=HBS.o;omega)
     obtain ⟨c0,c1,c2,c3,c4,c5⟩:=HTE.o.cells;obtain ⟨z0,z1,z2,z3,z4,z5⟩:=HRW.o.cells;dsimp only at c2 c3 z2 z3;have zf0:=HRW.o.free 0;have zf1:=HRW.o.free 1;have zf2:=HRW.o.free 2;have zf3:=HRW.o.free 3;have zf4:=HRW.o.free 4;have zf5:=HRW.o.free 5;go_wp2_with fail
     try rw[Exit.noGoto_ret]
     clear c0 c1 c2 c3 c4 c5 z0 z1 z2 z3 z4 z5 zf0 zf1 zf2 zf3 zf4 zf5;have hg:=set6_heap (.slice yp yn yc) (.int .u8 2) (.int .i64 0) (.int .i64 0) (.slice none 0 0) (.bool (acc||gax)) HRW.o;have hb7:=set6_below (.slice yp yn yc) (.int .u8 2) (.int .i64 0) (.int .i64 0) (.slice none 0 0) (.bool (acc||gax)) (HW1.o.trans (HBE.o.mono (by have:=HBS.o;omega))) (g:=w.heap.size+1+1+1) om;obtain ⟨W7,hW7⟩:=nm (set6 (W9) (w.heap.size+1+1+1) (.slice yp yn yc) (.int .u8 2) (.int .i64 0) (.int .i64 0) (.slice none 0 0) (.bool (acc||gax)));have hot2:∀k,k≠w.heap.size+1+1+1->W7.heap[k]?=(W9).heap[k]?:=fun k hk=>by rw[hW7];exact set6_other (W9) (.slice yp yn yc) (.int .u8 2) (.int .i64 0) (.int .i64 0) (.slice none 0 0) (.bool (acc||gax)) hk
     have hsz7:W7.heap.size=(W9).heap.size:=by rw[hW7];exact set6_size (W9) _ (.slice yp yn yc) (.int .u8 2) (.int .i64 0) (.int .i64 0) (.slice none 0 0) (.bool (acc||gax))
     rw[<- hW7] at hg hb7;unfold set6 at hW7;rw[<- hW7];have m0:W7.cell? ⟨w.heap.size+1+1+1,0,none⟩=some (.slice yp yn yc):=by simp[World.cell?,hg]
     have m1:W7.cell? ⟨w.heap.size+1+1+1,1,none⟩=some (.int .u8 2):=by simp[World.cell?,hg]
     have m2:W7.cell? ⟨w.heap.size+1+1+1,2,none⟩=some (.int .i64 0):=by simp[World.cell?,hg]
     have m3:W7.cell? ⟨w.heap.size+1+1+1,3,none⟩=some (.int .i64 0):=by simp[World.cell?,hg]
     have m4:W7.cell? ⟨w.heap.size+1+1+1,4,none⟩=some (.slice none 0 0):=by simp[World.cell?,hg]
     have m5:W7.cell? ⟨w.heap.size+1+1+1,5,none⟩=some (.bool (acc||gax)):=by simp[World.cell?,hg]
     refine bodyPost_ret (v:= .tuple #[.agg #[.slice yp yn yc, .int .u8 2, .int .i64 0, .int .i64 0, .slice none 0 0, .bool (acc||gax)], .int .i64 0]) ?_ rfl ⟨fun h=>absurd h HNB.o,fun _=>⟨⟨yp,yn,yc,none,0,0⟩,by rw[<- HFE.o];rfl,by rw[<- HFE.o];exact HTO.o W7 (fun z h1 h2=>(hot2 z (by have:=HBS.o;omega)).trans (by first|exact HKE.o z h1 h2|rfl))⟩,hb7⟩;simp[results,Tryz.results14,go_sem,m0,m1,m2,m3,m4,m5]
   ·obtain ⟨rfl,rfl⟩:gout=true/\there=true:=by revert hc1;cases gout<;>cases there<;>simp
    have HWX2:=hD (HWX.o.trans (if_neg hc1));clear hc1 HWX;have x5:=Gx.cell (i:=5) HX9.o rfl;cases linked
    ·have HFE:=hD ((HWX2.o.trans (if_pos rfl)).symm.trans HWF.o);obtain ⟨a0,a1⟩:=HF9.o.cells;obtain ⟨c0,c1,c2,c3,c4,c5⟩:=HJ9.o.t.cells;have k1:=HJ9.o.t.free 1;have k2:=HJ9.o.t.free 2;have k3:=HJ9.o.t.free 3;have k4:=HJ9.o.t.free 4;dsimp only at a0 a1;go_upto_region 15 with fail
     go_region;obtain ⟨W10,hW10⟩:=nm (((((W9.setCell ⟨B,1,none⟩ (.int .u8 1)).setCell ⟨B,2,none⟩ (.int .i64 (j:Int))).setCell ⟨B,3,none⟩ (.int .i64 gpo)).setCell ⟨B,4,none⟩ (.slice q1 gb.length cq)).drew);have hT10:TBx W10 B (.slice yp yn yc) (.slice q1 gb.length cq) 1 ⟨(j:Int),gpo⟩ (acc||gax):=by
      rw[hW10];exact heap_setCell_same (((W9.setCell ⟨B,1,none⟩ (.int .u8 1)).setCell ⟨B,2,none⟩ (.int .i64 (j:Int))).setCell ⟨B,3,none⟩ (.int .i64 gpo)) B 4 _ _ _ (heap_setCell_same ((W9.setCell ⟨B,1,none⟩ (.int .u8 1)).setCell ⟨B,2,none⟩ (.int .i64 (j:Int))) B 3 _ _ _ (heap_setCell_same (W9.setCell ⟨B,1,none⟩ (.int .u8 1)) B 2 _ _ _ (heap_setCell_same W9 B 1 _ _ _ HJ9.o.t)))
     have ho10:∀z,z≠B->W10.heap[z]?=W9.heap[z]?:=fun z hz=>by rw[hW10];exact (setCell_heap hz).trans ((setCell_heap hz).trans ((setCell_heap hz).trans (setCell_heap hz)))
     have HTE:=hD hT10;have HKE:Hd (∀ z,B<=z->z≠B->W10.heap[z]?=W9.heap[z]?):=fun z _ h=>ho10 z h
     have HBV9:=HU9;have HBE:Hd (Below B W1 W10):=by
      have h1:Below B W9 W10:=by rw[hW10];exact ((((br.setCell (p:=⟨B,1,none⟩) lr _).setCell (p:=⟨B,2,none⟩) lr _).setCell (p:=⟨B,3,none⟩) lr _).setCell (p:=⟨B,4,none⟩) lr _).drew
      exact HB10.o.trans h1
     have hrw:TBx W10 (w.heap.size+1+1+1) (.slice none 0 0) (.slice none 0 0) 0 ⟨0,0⟩ false:=(ho10 _ (by have:=HBS.o;omega)).trans HRW.o;clear HRW;have HRW:=hD hrw;rw[<- hW10];clear hW10 hT10 ho10 hrw a0 a1 c0 c1 c2 c3 c4 c5 k1 k2 k3 k4 x1 x5;have HTO:Hd (∀ W7:World,(∀ z,B<=z->z≠B->W7.heap[z]?=W9.heap[z]?)->TrO w.heap.size W7 ⟨yp,yn,yc,q1,gb.length,cq⟩ ⟨hr.map Prod.fst,1,⟨(j:Int),gpo⟩,gb,acc||gax⟩):=fun W7 h=>(JSt.ends (how:=1) (at_:=⟨(j:Int),gpo⟩) (ac2:=acc||gax) HJ9.o HBV9.o h).lower (by have:=HBS.o;omega)
     obtain ⟨c0,c1,c2,c3,c4,c5⟩:=HTE.o.cells;obtain ⟨z0,z1,z2,z3,z4,z5⟩:=HRW.o.cells;dsimp only at c2 c3 z2 z3;have zf0:=HRW.o.free 0;have zf1:=HRW.o.free 1;have zf2:=HRW.o.free 2;have zf3:=HRW.o.free 3;have zf4:=HRW.o.free 4;have zf5:=HRW.o.free 5;go_wp2_with fail
     try rw[Exit.noGoto_ret]
     clear c0 c1 c2 c3 c4 c5 z0 z1 z2 z3 z4 z5 zf0 zf1 zf2 zf3 zf4 zf5;have hg:=set6_heap (.slice yp yn yc) (.int .u8 1) (.int .i64 (j:Int)) (.int .i64 gpo) (.slice q1 gb.length cq) (.bool (acc||gax)) HRW.o;have hb7:=set6_below (.slice yp yn yc) (.int .u8 1) (.int .i64 (j:Int)) (.int .i64 gpo) (.slice q1 gb.length cq) (.bool (acc||gax)) (HW1.o.trans (HBE.o.mono (by have:=HBS.o;omega))) (g:=w.heap.size+1+1+1) om;obtain ⟨W7,hW7⟩:=nm (set6 (W10) (w.heap.size+1+1+1) (.slice yp yn yc) (.int .u8 1) (.int .i64 (j:Int)) (.int .i64 gpo) (.slice q1 gb.length cq) (.bool (acc||gax)));have hot2:∀k,k≠w.heap.size+1+1+1->W7.heap[k]?=(W10).heap[k]?:=fun k hk=>by rw[hW7];exact set6_other (W10) (.slice yp yn yc) (.int .u8 1) (.int .i64 (j:Int)) (.int .i64 gpo) (.slice q1 gb.length cq) (.bool (acc||gax)) hk
     have hsz7:W7.heap.size=(W10).heap.size:=by rw[hW7];exact set6_size (W10) _ (.slice yp yn yc) (.int .u8 1) (.int .i64 (j:Int)) (.int .i64 gpo) (.slice q1 gb.length cq) (.bool (acc||gax))
     rw[<- hW7] at hg hb7;unfold set6 at hW7;rw[<- hW7];have m0:W7.cell? ⟨w.heap.size+1+1+1,0,none⟩=some (.slice yp yn yc):=by simp[World.cell?,hg]
     have m1:W7.cell? ⟨w.heap.size+1+1+1,1,none⟩=some (.int .u8 1):=by simp[World.cell?,hg]
     have m2:W7.cell? ⟨w.heap.size+1+1+1,2,none⟩=some (.int .i64 (j:Int)):=by simp[World.cell?,hg]
     have m3:W7.cell? ⟨w.heap.size+1+1+1,3,none⟩=some (.int .i64 gpo):=by simp[World.cell?,hg]
     have m4:W7.cell? ⟨w.heap.size+1+1+1,4,none⟩=some (.slice q1 gb.length cq):=by simp[World.cell?,hg]
     have m5:W7.cell? ⟨w.heap.size+1+1+1,5,none⟩=some (.bool (acc||gax)):=by simp[World.cell?,hg]
     refine bodyPost_ret (v:= .tuple #[.agg #[.slice yp yn yc, .int .u8 1, .int .i64 (j:Int), .int .i64 gpo, .slice q1 gb.length cq, .bool (acc||gax)], .int .i64 0]) ?_ rfl ⟨fun h=>absurd h HNB.o,fun _=>⟨⟨yp,yn,yc,q1,gb.length,cq⟩,by rw[<- HFE.o];rfl,by rw[<- HFE.o];exact HTO.o W7 (fun z h1 h2=>(hot2 z (by have:=HBS.o;omega)).trans (by first|exact HKE.o z h1 h2|rfl))⟩,hb7⟩;simp[results,Tryz.results14,go_sem,m0,m1,m2,m3,m4,m5]
    ·obtain ⟨a0,a1⟩:=HE9.o.cells;dsimp only at a0 a1;have HWX3:=hD (HWX2.o.trans (if_neg dq));clear HWX2;go_upto_region 16 with fail
     go_cut [124] (fun c wx=>∃b:Bool,c= .bool b/\Hd (b=true↔(g=0\/nsw<0\/(ls.length:Int)<=nsw))/\W9=wx)
     case first=>
      have hll:=HLL.o.1;have HGM:Hd ((m:Int)=(H:Int)↔g=0):=by show _↔_;omega
      by_cases hq0:(m:Int)=(H:Int)
      ·have hq1:=HGM.o.1 hq0;clear hll;have hbq:((m:Int)==(H:Int))=true:=beq_iff_eq.2 hq0;clear hq0;go_wp2_with fail;go_meet;exact ⟨true,rfl,(iff_of_true rfl (.inl hq1):_↔_),rfl⟩
      ·have hq1:=mt HGM.o.2 hq0;clear hll;have hbq:((m:Int)==(H:Int))=false:=beq_false_of_ne hq0;by_cases h1:nsw<0
       ·go_wp2_with fail;go_meet;exact ⟨true,rfl,(iff_of_true rfl (.inr (.inl h1)):_↔_),rfl⟩
       ·by_cases h2:(ln:Int)<=nsw
        ·go_wp2_with fail;go_meet;exact ⟨true,rfl,(iff_of_true rfl (.inr (.inr (by have:=HLL.o.1;omega))):_↔_),rfl⟩
        ·go_wp2_with fail;go_meet;exact ⟨false,rfl,(iff_of_false dq (fun q=>by have:=HLL.o.1;omega):_↔_),rfl⟩
     obtain ⟨b,rfl,HBQ,rfl⟩:=hcut;cases b
     ·have hng:=mt HBQ.o.2 dq;have HWF2:=hD ((HWX3.o.trans (if_neg hng)).symm.trans HWF.o);have HNG:=hD hng;have HPN:Hd (0<=npo/\npo<=511):=by have h:=HNP.o ⟨j,gpo⟩ (by rw[<- HRN.o]);rw[<- HRN.o] at h;exact h
      clear hng HBQ HWX3;have r0:=HJ9.o.a.free 0;have r1:=HJ9.o.a.free 1;obtain ⟨e0,e1⟩:=HJ9.o.a.cells;dsimp only at e0 e1;have u7:¬K1=A:=by have:=HB1.o;have:=HAQ.o;omega
      have u8:¬K3=A:=by have:=HSV.o;omega
      go_upto_region 18 with fail
      go_region;obtain ⟨W10,hW10⟩:=nm (((W9.setCell ⟨A,0,none⟩ (.int .i64 nsw)).setCell ⟨A,1,none⟩ (.int .i64 npo)).drew);have HJ10:Hd (JSt B W10 B A (.slice yp yn yc) (.slice q1 gb.length cq) hr (acc||gax) ⟨nsw,npo⟩ gb):=by
       rw[hW10];exact HJ9.o.move (e2:=⟨nsw,npo⟩) HU9.o
      have HB11:Hd (Below B W1 W10):=by
       have h1:Below B W9 W10:=by rw[hW10];exact (((br.setCell (p:=⟨A,0,none⟩) HJ9.o.lo.2 _).setCell (p:=⟨A,1,none⟩) HJ9.o.lo.2 _)).drew
       exact HB10.o.trans h1
      rw[<- hW10];clear hW10 x1 x5 u1 u2 u3 u4 u5 u6 u7 u8 a0 a1 e0 e1 r0 r1;go_wp2_with fail;go_roundg g
      case measure=>omega
      case rel=>exact ⟨m+1,⟨nsw,npo⟩,gb,_,hr,_,by go_num,om,om,by have:=HNG.o;omega,HJ10,HWF2,⟨by have:=HNG.o;show 0<=nsw;omega,by have:=HNG.o;have:=HLL.o.1;show nsw<(ln:Int);omega,HPN.o.1,HPN.o.2⟩,by have:=HGO.o (by trivial);show gb.length<=1000000;omega,by show hr.length+1=m+1;rw[HLX.o],HB11⟩
     ·have hng:=HBQ.o.1 rfl;have HFE:=hD ((HWX3.o.trans (if_pos hng)).symm.trans HWF.o);clear hng HBQ HWX3;obtain ⟨c0,c1,c2,c3,c4,c5⟩:=HJ9.o.t.cells;have k1:=HJ9.o.t.free 1;have k2:=HJ9.o.t.free 2;have k3:=HJ9.o.t.free 3;have k4:=HJ9.o.t.free 4;go_upto_region 17 with fail
      go_region;obtain ⟨W10,hW10⟩:=nm (((((W9.setCell ⟨B,1,none⟩ (.int .u8 3)).setCell ⟨B,2,none⟩ (.int .i64 nsw)).setCell ⟨B,3,none⟩ (.int .i64 npo)).setCell ⟨B,4,none⟩ (.slice q1 gb.length cq)).drew);have hT10:TBx W10 B (.slice yp yn yc) (.slice q1 gb.length cq) 3 ⟨nsw,npo⟩ (acc||gax):=by
       rw[hW10];exact heap_setCell_same (((W9.setCell ⟨B,1,none⟩ (.int .u8 3)).setCell ⟨B,2,none⟩ (.int .i64 nsw)).setCell ⟨B,3,none⟩ (.int .i64 npo)) B 4 _ _ _ (heap_setCell_same ((W9.setCell ⟨B,1,none⟩ (.int .u8 3)).setCell ⟨B,2,none⟩ (.int .i64 nsw)) B 3 _ _ _ (heap_setCell_same (W9.setCell ⟨B,1,none⟩ (.int .u8 3)) B 2 _ _ _ (heap_setCell_same W9 B 1 _ _ _ HJ9.o.t)))
      have ho10:∀z,z≠B->W10.heap[z]?=W9.heap[z]?:=fun z hz=>by rw[hW10];exact (setCell_heap hz).trans ((setCell_heap hz).trans ((setCell_heap hz).trans (setCell_heap hz)))
      have HTE:=hD hT10;have HKE:Hd (∀ z,B<=z->z≠B->W10.heap[z]?=W9.heap[z]?):=fun z _ h=>ho10 z h
      have HBV9:=HU9;have HBE:Hd (Below B W1 W10):=by
       have h1:Below B W9 W10:=by rw[hW10];exact ((((br.setCell (p:=⟨B,1,none⟩) lr _).setCell (p:=⟨B,2,none⟩) lr _).setCell (p:=⟨B,3,none⟩) lr _).setCell (p:=⟨B,4,none⟩) lr _).drew
       exact HB10.o.trans h1
      have hrw:TBx W10 (w.heap.size+1+1+1) (.slice none 0 0) (.slice none 0 0) 0 ⟨0,0⟩ false:=(ho10 _ (by have:=HBS.o;omega)).trans HRW.o;clear HRW;have HRW:=hD hrw;rw[<- hW10];clear hW10 hT10 ho10 hrw a0 a1 c0 c1 c2 c3 c4 c5 k1 k2 k3 k4 x1 x5;have HTO:Hd (∀ W7:World,(∀ z,B<=z->z≠B->W7.heap[z]?=W9.heap[z]?)->TrO w.heap.size W7 ⟨yp,yn,yc,q1,gb.length,cq⟩ ⟨hr.map Prod.fst,3,⟨nsw,npo⟩,gb,acc||gax⟩):=fun W7 h=>(JSt.ends (how:=3) (at_:=⟨nsw,npo⟩) (ac2:=acc||gax) HJ9.o HBV9.o h).lower (by have:=HBS.o;omega)
      obtain ⟨c0,c1,c2,c3,c4,c5⟩:=HTE.o.cells;obtain ⟨z0,z1,z2,z3,z4,z5⟩:=HRW.o.cells;dsimp only at c2 c3 z2 z3;have zf0:=HRW.o.free 0;have zf1:=HRW.o.free 1;have zf2:=HRW.o.free 2;have zf3:=HRW.o.free 3;have zf4:=HRW.o.free 4;have zf5:=HRW.o.free 5;go_wp2_with fail
      try rw[Exit.noGoto_ret]
      clear c0 c1 c2 c3 c4 c5 z0 z1 z2 z3 z4 z5 zf0 zf1 zf2 zf3 zf4 zf5;have hg:=set6_heap (.slice yp yn yc) (.int .u8 3) (.int .i64 nsw) (.int .i64 npo) (.slice q1 gb.length cq) (.bool (acc||gax)) HRW.o;have hb7:=set6_below (.slice yp yn yc) (.int .u8 3) (.int .i64 nsw) (.int .i64 npo) (.slice q1 gb.length cq) (.bool (acc||gax)) (HW1.o.trans (HBE.o.mono (by have:=HBS.o;omega))) (g:=w.heap.size+1+1+1) om;obtain ⟨W7,hW7⟩:=nm (set6 (W10) (w.heap.size+1+1+1) (.slice yp yn yc) (.int .u8 3) (.int .i64 nsw) (.int .i64 npo) (.slice q1 gb.length cq) (.bool (acc||gax)));have hot2:∀k,k≠w.heap.size+1+1+1->W7.heap[k]?=(W10).heap[k]?:=fun k hk=>by rw[hW7];exact set6_other (W10) (.slice yp yn yc) (.int .u8 3) (.int .i64 nsw) (.int .i64 npo) (.slice q1 gb.length cq) (.bool (acc||gax)) hk
      have hsz7:W7.heap.size=(W10).heap.size:=by rw[hW7];exact set6_size (W10) _ (.slice yp yn yc) (.int .u8 3) (.int .i64 nsw) (.int .i64 npo) (.slice q1 gb.length cq) (.bool (acc||gax))
      rw[<- hW7] at hg hb7;unfold set6 at hW7;rw[<- hW7];have m0:W7.cell? ⟨w.heap.size+1+1+1,0,none⟩=some (.slice yp yn yc):=by simp[World.cell?,hg]
      have m1:W7.cell? ⟨w.heap.size+1+1+1,1,none⟩=some (.int .u8 3):=by simp[World.cell?,hg]
      have m2:W7.cell? ⟨w.heap.size+1+1+1,2,none⟩=some (.int .i64 nsw):=by simp[World.cell?,hg]
      have m3:W7.cell? ⟨w.heap.size+1+1+1,3,none⟩=some (.int .i64 npo):=by simp[World.cell?,hg]
      have m4:W7.cell? ⟨w.heap.size+1+1+1,4,none⟩=some (.slice q1 gb.length cq):=by simp[World.cell?,hg]
      have m5:W7.cell? ⟨w.heap.size+1+1+1,5,none⟩=some (.bool (acc||gax)):=by simp[World.cell?,hg]
      refine bodyPost_ret (v:= .tuple #[.agg #[.slice yp yn yc, .int .u8 3, .int .i64 nsw, .int .i64 npo, .slice q1 gb.length cq, .bool (acc||gax)], .int .i64 0]) ?_ rfl ⟨fun h=>absurd h HNB.o,fun _=>⟨⟨yp,yn,yc,q1,gb.length,cq⟩,by rw[<- HFE.o];rfl,by rw[<- HFE.o];exact HTO.o W7 (fun z h1 h2=>(hot2 z (by have:=HBS.o;omega)).trans (by first|exact HKE.o z h1 h2|rfl))⟩,hb7⟩;simp[results,Tryz.results14,go_sem,m0,m1,m2,m3,m4,m5]
 ·have hbad:=HBB.o.1 rfl;have HBD:=hD hbad;clear hbad;obtain ⟨c0,c1,c2,c3,c4,c5⟩:=HRX.o.cells;dsimp only at c2 c3;have cf0:=HRX.o.free 0;have cf1:=HRX.o.free 1;have cf2:=HRX.o.free 2;have cf3:=HRX.o.free 3;have cf4:=HRX.o.free 4;have cf5:=HRX.o.free 5;go_wp2_with fail;have hg:=set6_heap (.slice none 0 0) (.int .u8 0) (.int .i64 0) (.int .i64 0) (.slice none 0 0) (.bool false) HRX.o;have hb7:=set6_below (.slice none 0 0) (.int .u8 0) (.int .i64 0) (.int .i64 0) (.slice none 0 0) (.bool false) HW1.o (g:=w.heap.size+1+1+1) om;obtain ⟨W7,hW7⟩:=nm (set6 (W1) (w.heap.size+1+1+1) (.slice none 0 0) (.int .u8 0) (.int .i64 0) (.int .i64 0) (.slice none 0 0) (.bool false));have hot2:∀k,k≠w.heap.size+1+1+1->W7.heap[k]?=(W1).heap[k]?:=fun k hk=>by rw[hW7];exact set6_other (W1) (.slice none 0 0) (.int .u8 0) (.int .i64 0) (.int .i64 0) (.slice none 0 0) (.bool false) hk
  have hsz7:W7.heap.size=(W1).heap.size:=by rw[hW7];exact set6_size (W1) _ (.slice none 0 0) (.int .u8 0) (.int .i64 0) (.int .i64 0) (.slice none 0 0) (.bool false)
  rw[<- hW7] at hg hb7;unfold set6 at hW7;rw[<- hW7];have m0:W7.cell? ⟨w.heap.size+1+1+1,0,none⟩=some (.slice none 0 0):=by simp[World.cell?,hg]
  have m1:W7.cell? ⟨w.heap.size+1+1+1,1,none⟩=some (.int .u8 0):=by simp[World.cell?,hg]
  have m2:W7.cell? ⟨w.heap.size+1+1+1,2,none⟩=some (.int .i64 0):=by simp[World.cell?,hg]
  have m3:W7.cell? ⟨w.heap.size+1+1+1,3,none⟩=some (.int .i64 0):=by simp[World.cell?,hg]
  have m4:W7.cell? ⟨w.heap.size+1+1+1,4,none⟩=some (.slice none 0 0):=by simp[World.cell?,hg]
  have m5:W7.cell? ⟨w.heap.size+1+1+1,5,none⟩=some (.bool false):=by simp[World.cell?,hg]
  refine bodyPost_ret (v:= .tuple #[.agg #[.slice none 0 0, .int .u8 0, .int .i64 0, .int .i64 0, .slice none 0 0, .bool false], .int .i64 2]) ?_ rfl ⟨fun _=>⟨⟨none,0,0,none,0,0⟩,rfl,⟨[],rfl,World.ownsRow_nil _ _ _ _,fun q hq=>by cases hq⟩,World.ownsRow_nil _ _ _ _⟩,fun h=>absurd HBD.o h,hb7⟩;simp[results,Tryz.results14,go_sem,m0,m1,m2,m3,m4,m5]
end Go.Proofs.YtikilcbpogfgkaaGreat
