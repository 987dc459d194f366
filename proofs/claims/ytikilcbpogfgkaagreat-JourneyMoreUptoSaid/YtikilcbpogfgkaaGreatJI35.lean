/- Lemmas. -/
import Derived.Test.YtikilcbpogfgkaaGreatJI34
set_option maxHeartbeats 6400000
set_option maxRecDepth 100000
namespace Go.Proofs.YtikilcbpogfgkaaGreat
open Go.RowKit Stab
variable {o:List Int} {c g many:Nat} {w:World} {s:List Int×Nat} {st:Stp} {x:Pkt}
theorem infoU8e:(Tryz.prog.info? 5).map (fun i=>(i.zero,i.size,i.bytes))=some (some (.int .u8 0),1,1):=by kernel_rfl
theorem app_u8 {ops:Array Oper} {rest:List Oper} {o:Oper} {a:Act} {Q:Exit->Act->World->Prop} {W:World} (hgd:o.guard=none) (s x:Operand)
 (ho:o.op= .call { callee:= .builtin .append,args:=#[s,x],argTypes:=#[35,35] })
 (B:Nat) (v:Value) (l:List Int) (hs:a.eval s=v) (hown:W.ownsRow B 5 1 v l.length (l.map (Value.int .u8))) (g:Nat) (z:Int) (hx:a.eval x= .slice (some ⟨g,0,none⟩) 1 1) (hc:W.cell? ⟨g,0,none⟩=some (.int .u8 z)) (hl:l.length<=1000000) (hbase:B<=W.heap.size)
 (h:∀v' W',W'.ownsRow B 5 1 v' (l++[z]).length ((l++[z]).map (Value.int .u8))->W.grownBy W' v.ownBlock->wpList Tryz.prog ops Q rest (a.put o.dst v') W'):wpList Tryz.prog ops Q (o::rest) a W:=by
 obtain ⟨i0,hi,hz0,hz1,hz2⟩:=info_parts infoU8e;have hcell:∀j u,[Value.int .u8 z][j]?=some u->W.cell? ((⟨g,0,none⟩:Addr).add j)=some u:=by
  exact gY2
 exact wpList_append_own _ hgd s x _ ho B 5 i0 (.int .u8 0) 1 1 Tryz.underlying35 hi hz0 hz1 hz2 rfl dq v l.length (l.map (Value.int .u8)) hs hown ⟨g,0,none⟩ 1 1 [.int .u8 z] hx rfl hcell (fun u hu=>by simp at hu;subst hu;rfl) (by unfold maxLen;omega) om hbase fun v' w' h1 h2 _=>h v' w' (by simpa using h1) h2
def orP (v:Int) (k:Nat):Int:=bits .or .u8 v (2 ^ (7-k)%256)
def lyF (o:List Int) (many:Nat) (bit:Bool):List Int:=
 if bit=true then (if many%8=0 then o++[0] else o).set ((if many%8=0 then o++[0] else o).length-1) (orP ((if many%8=0 then o++[0] else o).getD ((if many%8=0 then o++[0] else o).length-1) 0) (many%8)) else (if many%8=0 then o++[0] else o)
def lyW (n:Nat) (w:Nat):List Int×Nat->Nat->List Int×Nat
 |s,0=>s
 |s,i+1=>let t:=lyW n w s i;(lyF t.1 t.2 (n.testBit (w-1-i)),t.2+1)
def lyH (ws:List Int) (l:List Nat):List Int×Nat->Nat->List Int×Nat
 |s,0=>s
 |s,f+1=>lyW (l.getD f 0) (ws.getD f 0).toNat (lyH ws l s f) (ws.getD f 0).toNat
def lyA (p:Prg) (x:Pkt):Nat->List Int×Nat
 |0=>([],0)
 |k+1=>let h:=(p.emit.getD k 0).toNat;if x.valid.getD h false=true then lyH (wdsP p h) (x.fields.getD h []) (lyA p x k) (wdsP p h).length else lyA p x k
def emtP (p:Prg) (x:Pkt):List Int:=(lyA p x p.emit.length).1++x.rest
structure LayX (B gm gg:Nat) (W0:World) (o:List Int) (many:Nat) (y:Value) (w:World):Prop where
 bel:Below B W0 w
 lo:B<=gm/\B<=gg/\gm≠gg
 hm:w.heap[gm]?=some (.cells #[.int .i64 (many:Int)] 3 (0,0))
 hy:w.heap[gg]?=some (.cells #[y] 35 (0,0))
 own:w.ownsRow B 5 1 y o.length (o.map (Value.int .u8))
section
variable {B gm gg:Nat} {W0 w w':World} {o:List Int} {many:Nat} {y:Value}
theorem LayX.apart (h:LayX B gm gg W0 o many y w) {k:Nat} (hk:y.ownBlock=some k):k≠gm/\k≠gg:=by
 rcases h.own.2 with ⟨rfl,-⟩|⟨g,cap,cur,rfl,-,h2,-⟩
 ·cases hk
 cases hk;refine ⟨?_,?_⟩<;>rintro rfl
 ·rw[h.hm] at h2;cases h2
 ·rw[h.hy] at h2;cases h2
theorem LayX.grew (h:LayX B gm gg W0 o many y w) (hg:w.grownBy w' y.ownBlock):w'.heap[gg]?=some (.cells #[y] 35 (0,0)):=(hg.block _ (lt_some h.hy) fun e=>(h.apart e.symm).2 rfl).trans h.hy
theorem LayX.blocks (h:LayX B gm gg W0 o many y w) {k:Nat} (hk:k=gm\/k=gg\/y.ownBlock=some k):B<=k/\k<w.heap.size:=by
 rcases hk with rfl|rfl|e
 ·exact ⟨h.lo.1,lt_some h.hm⟩
 ·exact ⟨h.lo.2.1,lt_some h.hy⟩
 exact own_size h.own e
theorem LayX.kept (h:LayX B gm gg W0 o many y w) (hb:Below B W0 w') (hk:∀k,B<=k->k<w.heap.size->w'.heap[k]?=w.heap[k]?):LayX B gm gg W0 o many y w':=
 ⟨hb,h.lo,(hk _ (h.blocks (.inl rfl)).1 (h.blocks (.inl rfl)).2).trans h.hm,(hk _ (h.blocks (.inr (.inl rfl))).1 (h.blocks (.inr (.inl rfl))).2).trans h.hy,own_far h.own fun k e=>hk k (own_size h.own e).1 (own_size h.own e).2⟩
theorem LayX.below (h:LayX B gm gg W0 o many y w) (hb:Bl w w'):LayX B gm gg W0 o many y w':=h.kept (h.bel.trans (hb.mono (by have:=(h.blocks (.inl rfl));omega))) fun k _ h2=>hb.block k h2
theorem own_nofz {n:Nat} {xs:List Value} (h:w.ownsRow B 5 1 (.slice (some ⟨g,0,none⟩) n c) n xs) (i:Nat):w.frozen? ⟨g,i,none⟩=false:=by
 rcases h.2 with ⟨h1,-⟩|⟨g',cap,cur,h1,-,h2,-⟩
 ·cases h1
 cases h1;simp[World.frozen?,h2]
theorem LayX.put {i:Nat} (h:LayX B gm gg W0 o many (.slice (some ⟨g,0,none⟩) o.length c) w) (hi:i<o.length) (z:Int):LayX B gm gg W0 (o.set i z) many (.slice (some ⟨g,0,none⟩) o.length c) (w.setCell ⟨g,i,none⟩ (.int .u8 z)):=by
 have ha:=h.apart (k:=g) rfl;have h1:=own_set h.own (i:=i) (by simpa using hi) (.int .u8 z);refine ⟨h.bel.setCell (p:=⟨g,i,none⟩) (h.blocks (.inr (.inr rfl))).1 _,h.lo,(heap_setCell_other _ _ gm _ (fun e=>ha.1 e.symm)).trans h.hm,(heap_setCell_other _ _ gg _ (fun e=>ha.2 e.symm)).trans h.hy,?_⟩;rw[List.length_set,List.map_set];exact h1
theorem LayX.count (h:LayX B gm gg W0 o many y w):LayX B gm gg W0 o (many+1) y (w.setCell ⟨gm,0,none⟩ (.int .i64 ((many+1:Nat):Int))):=
 ⟨h.bel.setCell h.lo.1 _,h.lo,heap_setCell_same w gm 0 _ _ _ h.hm,(heap_setCell_other _ _ gg _ (fun e=>h.lo.2.2 e.symm)).trans h.hy,own_far h.own fun k e=>heap_setCell_other _ _ k _ (h.apart e).1⟩
theorem LayX.push {v':Value} {z:Int} (h:LayX B gm gg W0 o many y w) (ho:w'.ownsRow B 5 1 v' (o++[z]).length ((o++[z]).map (Value.int .u8))) (hg:w.grownBy w' y.ownBlock):LayX B gm gg W0 (o++[z]) many v' (w'.setCell ⟨gg,0,none⟩ v'):=by
 have hb:Below B W0 w':=below_grown h.bel h.own hg lr (by have:=h.blocks (.inl rfl);omega);have e1:w'.heap[gm]?=some (.cells #[.int .i64 (many:Int)] 3 (0,0)):=(hg.block _ (lt_some h.hm) fun e=>(h.apart e.symm).1 rfl).trans h.hm;have e2:w'.heap[gg]?=some (.cells #[y] 35 (0,0)):=(hg.block _ (lt_some h.hy) fun e=>(h.apart e.symm).2 rfl).trans h.hy;refine ⟨hb.setCell h.lo.2.1 _,h.lo,(heap_setCell_other _ _ gm _ h.lo.2.2).trans e1,heap_setCell_same w' gg 0 _ _ _ e2,own_far ho fun k e=>heap_setCell_other _ _ k _ ?_⟩;rcases ho.2 with ⟨rfl,-⟩|⟨g,cap,cur,rfl,-,h2,-⟩
 ·cases e
 cases e;rintro rfl;rw[e2] at h2;cases h2
end
theorem layE_any {B gm gg:Nat} {W0:World} {y:Value} (bit:Bool) (S:LayX B gm gg W0 o many y w) (hl:o.length=(many+7)/8) (hm:many<=4000000):
 Calls Tryz.prog 56 #[.bool bit, .pointer (some ⟨gm,0,none⟩), .pointer (some ⟨gg,0,none⟩)] w fun e w'=>e= .returned (.tuple #[])/\∃y',LayX B gm gg W0 (lyF o many bit) (many+1) y' w':=by
 have HS:=hD S;have hm8:(many:Int).tmod 8=((many%8:Nat):Int):=by rw[Int.tmod_eq_emod_of_nonneg om];omega
 have c0:w.cell? ⟨gm,0,none⟩=some (.int .i64 (many:Int)):=by simp[World.cell?,S.hm]
 have f0:w.frozen? ⟨gm,0,none⟩=false:=by simp[World.frozen?,S.hm]
 have c1:w.cell? ⟨gg,0,none⟩=some y:=by simp[World.cell?,S.hy]
 have f1:w.frozen? ⟨gg,0,none⟩=false:=by simp[World.frozen?,S.hy]
 have hlo:o.length<=1000000:=om;have HL:=hD hl;have HBW:Hd (B<=w.heap.size):=by have:=S.blocks (.inl rfl);show _<=_;omega
 obtain ⟨R,hR⟩:=nm (lyF o many bit);have HR:Hd (lyF o many bit=R):=hR.symm;rw[<- hR];clear S hl hR;go_enter Tryz.func56,Tryz.ntmps56;by_cases h8:many%8=0
 ·have h8i:((many%8:Nat):Int)=0:=om;go_upto_region 2 with (refine app_u8 rfl (.tmp 7) (.tmp 8) rfl B y o rfl (HS.o.own.alloc _) w.heap.size 0 rfl (by simp[go_sem]) hlo (by have:=HBW.o;simp only[World.size_alloc];omega) ?_;intro v1 w1 h1 h2;have H1:=hD h1;have H2:=hD h2;go_loud (obtain ⟨g,c,rfl,-⟩:=own_some h1 sm);go_loud (have e1:=(HS.o.below (br.alloc lr _)).grew h2);have c3:w1.cell? ⟨gg,0,none⟩=some y:=(by simp[World.cell?,e1]);have f3:w1.frozen? ⟨gg,0,none⟩=false:=(by simp[World.frozen?,e1]);go_loud (clear h1 h2 e1 c0 f0 c1 f1));obtain ⟨W2,hW2⟩:=nm (w1.setCell ⟨gg,0,none⟩ (.slice (some ⟨g,0,none⟩) (o.length+1) c));have HS2:Hd (LayX B gm gg W0 (o++[0]) many (.slice (some ⟨g,0,none⟩) (o.length+1) c) W2):=by
   have:=(HS.o.below (br.alloc lr _)).push H1.o H2.o;rw[show (o++[(0:Int)]).length=o.length+1 by simp] at this;show LayX _ _ _ _ _ _ _ _;rw[hW2];exact this
  rw[<- hW2];have HO1:Hd ((o++[(0:Int)]).length=o.length+1):=by show _=_;simp
  have HF:Hd (R=if bit=true then (o++[0]).set ((o++[0]).length-1) (orP ((o++[0]).getD ((o++[0]).length-1) 0) (many%8)) else o++[0]):=by show _=_;rw[<- HR.o];unfold lyF;simp only[if_pos h8]
  clear HR H1 H2 HS HL c3 f3 h8i h8 hW2;generalize o++[(0:Int)]=o1 at*;have hLb:o.length<=1000000:=hlo;clear hlo;generalize o.length=L at*;exact gH
 have h8i:¬((many%8:Nat):Int)=0:=om;obtain ⟨L,hL⟩:∃L,o.length=L+1:=⟨o.length-1,by have:=HL.o;omega⟩;obtain ⟨g,c,rfl,-⟩:=own_some HS.o.own om;rw[hL] at c1 HS;go_upto_region 2 with fail;have HO1:Hd (o.length=L+1):=hL;have HF:Hd (R=if bit=true then o.set (o.length-1) (orP (o.getD (o.length-1) 0) (many%8)) else o):=by show _=_;rw[<- HR.o];unfold lyF;simp only[if_neg h8]
 have HS2:=HS;have hLb:L<=1000000:=om;clear HR HL HS c0 f0 c1 f1 h8 h8i hlo hL;obtain ⟨o1,ho1⟩:=nm o;rw[<- ho1] at HS2 HO1 HF;clear ho1;generalize w=W2 at*;exact gH
open Go.RowKit Stab
theorem bit_lo1 (z:Nat) (hz:z<B):(bits .and .u64 (z:Int) 1==1)=z.testBit 0:=by
 have h:=and_cast z 1 hz (by unfold B;omega);have e:((1:Nat):Int)=1:=rfl;rw[e] at h;rw[h,nat_mask1,Nat.testBit_zero];rcases Nat.mod_two_eq_zero_or_one z with h|h<;>rw[h]<;>rfl
theorem fld_lo (u v:Int) (W:World):(Instr.field 82 (.agg #[.int .u64 u, .int .u64 v]) 1).run Tryz.prog W= .ok (.int .u64 v) W:=by kernel_rfl
def bitK (n:Nat) (i:Int):Bool:=decide (0<=i)&&decide (i<128)&&n.testBit i.toNat
theorem nBit_any (n:Nat) (i:Int) (w:World) (hn:n<B*B):
 Calls Tryz.prog 59 #[numV n, .int .i64 i] w fun e w'=>e= .returned (.bool (bitK n i))/\Bl w w':=by
 obtain ⟨y,z,he,hy,hz0⟩:=numV_parts n;have HE:=hD he;have HN:=hD hn;clear hn;rw[he];clear he hy hz0;by_cases h0:0<=i
 ·by_cases h1:i<128
  ·have HR:∀m,m=n/2 ^ sh i->Hd ((bits .and .u64 ((m%B:Nat):Int) 1==1)=bitK n i):=by
    intro m hm;show _=_;have e1:sh i=i.toNat:=by unfold sh;omega
    rw[bit_lo1 _ (low_lt _),hm,e1,B_pow,Nat.testBit_mod_two_pow,Nat.testBit_div_two_pow];simp[bitK,h0,h1]
   go_enter Tryz.func59,Tryz.ntmps59;go_wp2_with fail;rw[<- HE.o];refine (numShr_any n _ _ HN.o).mono ?_;rintro e w1 ⟨rfl,hb⟩;obtain ⟨u,v,hm,hu,hv⟩:=numV_parts (n/2 ^ sh i);have HM:Hd (v=n/2 ^ sh i%B):=hv;clear hu hv;rw[hm];clear hm;have hfl:=fld_lo;go_wp2_with fail;go_ret;exact ⟨by rw[HM.o,(HR _ rfl).o];rfl,bL⟩
  have hd:Hd (bitK n i=false):=by show _=_;simp[bitK,h1]
  go_enter Tryz.func59,Tryz.ntmps59;go_wp2_with fail;go_ret;exact ⟨by rw[hd.o];rfl,bL⟩
 have hd:Hd (bitK n i=false):=by show _=_;simp[bitK,h0]
 go_enter Tryz.func59,Tryz.ntmps59;go_wp2_with fail;go_ret;exact ⟨by rw[hd.o];rfl,bL⟩
theorem nBit_at (n w i:Nat) (hi:i<w) (hw:w<=128):bitK n ((w:Int)-1-(i:Int))=n.testBit (w-1-i):=by
 have e:((w:Int)-1-(i:Int))=((w-1-i:Nat):Int):=om;unfold bitK;rw[e,Int.toNat_natCast,decide_eq_true om,decide_eq_true om,Bool.true_and,Bool.true_and]
def LyOk (t:List Int×Nat):Prop:=t.1.length=(t.2+7)/8
theorem lyF_ok {b:Bool} (h:o.length=(many+7)/8):(lyF o many b).length=(many+1+7)/8:=by
 unfold lyF;split<;>split<;>first|omega|(simp only[List.length_set,List.length_append,List.length_cons,List.length_nil];omega)
theorem lyW_ok (n w:Nat) (h:LyOk s):∀i,LyOk (lyW n w s i)/\(lyW n w s i).2=s.2+i
 |0=>⟨h,rfl⟩
 |i+1=>by
  obtain ⟨h1,h2⟩:=lyW_ok n w h i;unfold lyW;exact ⟨lyF_ok h1,by show _+1=_;omega⟩
theorem lyH_ok (ws:List Int) (l:List Nat) (h:LyOk s):∀f,f<=ws.length->LyOk (lyH ws l s f)/\(lyH ws l s f).2=s.2+offN ws f
 |0,_=>⟨h,by show _=_;unfold lyH offN;simp⟩
 |f+1,hf=>by
  obtain ⟨h1,h2⟩:=lyH_ok ws l h f om;obtain ⟨h3,h4⟩:=lyW_ok (l.getD f 0) (ws.getD f 0).toNat h1 (ws.getD f 0).toNat;unfold lyH;exact ⟨h3,by rw[h4,h2,offN_succ ws f om];omega⟩
theorem offN_le {p:Prg} (hd:HdOk p) {h:Nat} {ws:List Int} (hw:p.heads[h]?=some ws) {f:Nat} (hf:f<=ws.length):offN ws f<=256:=by
 obtain ⟨h1,-,-,h4,-⟩:=hd.w h ws hw;have e1:=offN_sum h1 f hf;have e2:=sum_mono h1 f hf;omega
theorem lyA_ok {p:Prg} (hd:HdOk p) (x:Pkt) (he:∀h∈p.emit,0<=h/\h<(p.heads.length:Int)):∀k,k<=p.emit.length->LyOk (lyA p x k)/\(lyA p x k).2<=256*k
 |0,_=>⟨by show _=_;unfold lyA;rfl,by unfold lyA;simp⟩
 |k+1,hk=>by
  obtain ⟨h1,h2⟩:=lyA_ok hd x he k om;unfold lyA;dsimp only;split
  ·obtain ⟨z0,z1⟩:=he _ (gM_ (some_getD (l:=p.emit) (j:=k) 0 om));have hl:(p.emit.getD k 0).toNat<p.heads.length:=om
   have hw:p.heads[(p.emit.getD k 0).toNat]?=some (wdsP p (p.emit.getD k 0).toNat):=by unfold wdsP;exact some_getD (l:=p.heads) (j:=(p.emit.getD k 0).toNat) [] hl
   obtain ⟨h3,h4⟩:=lyH_ok (wdsP p (p.emit.getD k 0).toNat) (x.fields.getD (p.emit.getD k 0).toNat []) h1 _ lr;have h5:=offN_le hd hw lr;exact ⟨h3,om⟩
  ·exact ⟨h1,om⟩
open Go.RowKit Stab
theorem branchA_any (b:Brn) (ks:List Nat) (gk bn bc kn kc:Nat) (bp kp:Option Addr) (w:World) (hb:PRow w (.slice bp bn bc) b.pats) (hkc:w.cell? ⟨gk,0,none⟩=some (.slice kp kn kc)) (hks:NRow w (.slice kp kn kc) ks) (hlen:b.pats.length=ks.length) (hpl:ks.length<=6000):
 Calls Tryz.prog 68 #[.agg #[.slice bp bn bc, .int .i64 b.to], .pointer (some ⟨gk,0,none⟩)] w fun e w'=>e= .returned (.bool (brP b ks))/\Bl w w':=by
 have HT:Hd ((∀ (k:Nat) (p:Pt) (n:Nat),b.pats[k]?=some p->ks[k]?=some n->agr p n=true)->brP b ks=true):=fun h=>matB_yes (e:=⟨0,b.pats,0,0,0,[]⟩) rfl hlen h
 have HF:Hd (∀ (k n:Nat) (p:Pt),b.pats[k]?=some p->ks[k]?=some n->agr p n=false->brP b ks=false):=fun k n p q1 q2 q3=>matB_not (e:=⟨0,b.pats,0,0,0,[]⟩) q1 q2 q3
 obtain rfl:bn=b.pats.length:=hb.ln.1;obtain rfl:kn=ks.length:=hks.ln.1;have HP:=hD hb;have HK:=hD hks;have HKC:=hD hkc;generalize brP b ks=R at*;obtain ⟨n,hn⟩:=nm b.pats.length;have hn2:n=ks.length:=hn.trans hlen;rw[<- hn] at HP⊢;rw[<- hn2] at HK HKC hpl;have HN:=hD hn;have HN2:=hD hn2;clear hn hn2 hlen hb hks hkc;go_enter Tryz.func68,Tryz.ntmps68;go_upto_region 1 with fail;obtain ⟨W0,hW0⟩:=nm (w.alloc (.cells #[.slice bp n bc, .int .i64 b.to] 140));have HB0:Hd (Bl w W0):=by show Below _ _ _;rw[hW0];exact br.alloc lr _
 have HX0:Hd (W0.heap[w.heap.size]?=some (.cells #[.slice bp n bc, .int .i64 b.to] 140 (0,0))):=by show _=_;rw[hW0];exact heap_new _ _
 rw[<- hW0];clear hW0;have c0:W0.cell? ⟨w.heap.size,0,none⟩=some (.slice bp n bc):=by simp[World.cell?,HX0.o]
 go_wp2_with fail;clear c0;go_loopw [9] (fun i wr=>∃k:Nat,k<=n/\i= .int .i64 k/\Hd (∀ (j:Nat) (p:Pt) (x:Nat),j<k->b.pats[j]?=some p->ks[j]?=some x->agr p x=true)/\Hd (Bl W0 wr)) (fun i _=>n-(intOf i).toNat)
 case atStart=>exact ⟨0,om,rfl,fun j _ _ h=>absurd h om,Below.refl _ _⟩
 case round=>
  obtain ⟨k,hkn,rfl,HJ,HW⟩:=hrel;have HWW:=hD (HB0.o.trans (HW.o.mono HB0.o.size));by_cases hlt:k<n
  ·obtain ⟨p,hp⟩:∃p,b.pats[k]?=some p:=⟨_,gE_ (by have:=HN.o;omega)⟩;obtain ⟨x,hx⟩:∃x,ks[k]?=some x:=⟨_,gE_ (by have:=HN2.o;omega)⟩;obtain ⟨pb,po,pc',hpe,hpb,⟨pv0,pc0,pc1⟩,⟨pm0,pc2,pc3⟩⟩:=(HP.o.below keepP HWW.o).at hp;obtain ⟨kb,ko,kc',hke,hkb,kx0,kc0,kc1⟩:=(HK.o.below keepN HWW.o).at hx;simp only[Value.slice.injEq] at hpe hke;obtain ⟨rfl,-,-⟩:=hpe;obtain ⟨rfl,-,-⟩:=hke;obtain ⟨v,m⟩:=p;simp only at pv0 pc0 pc1 pm0 pc2 pc3;have hkg:wr.cell? ⟨gk,0,none⟩=some (.slice (some ⟨kb,ko,none⟩) n kc):=(HWW.o.cell (cell_there HKC.o).1).trans HKC.o;have HC:Hd (∀ W,CR 69 #[.agg #[.int .u64 ((v/B:Nat):Int), .int .u64 ((v%B:Nat):Int), .int .u64 ((m/B:Nat):Int), .int .u64 ((m%B:Nat):Int)], .agg #[.int .u64 ((x/B:Nat):Int), .int .u64 ((x%B:Nat):Int)]] W (.bool (agr ⟨v,m⟩ x))):=fun W=>agrees_any ⟨v,m⟩ x W kx0 pv0 pm0
   have HPK:=hD (And.intro hp hx);generalize ((v/B:Nat):Int)=q0 at*;generalize ((v%B:Nat):Int)=q1 at*;generalize ((m/B:Nat):Int)=q2 at*;generalize ((m%B:Nat):Int)=q3 at*;generalize ((x/B:Nat):Int)=q4 at*;generalize ((x%B:Nat):Int)=q5 at*;obtain ⟨r,hr⟩:=nm (agr ⟨v,m⟩ x);rw[<- hr] at HC;have HR:=hD hr;have z1:(k:Int)<(n:Int):=om;have z2:¬(n:Int)<=(k:Int):=om;clear hp hx pv0 pm0 kx0 hr;go_upto_region 4 with fail;obtain ⟨W5,hW5⟩:=nm (wr.alloc (.cells #[.int .u64 q0, .int .u64 q1, .int .u64 q2, .int .u64 q3] 142));have hb5:Bl wr W5:=by rw[hW5];exact br.alloc lr _
   have hx5:W5.heap[wr.heap.size]?=some (.cells #[.int .u64 q0, .int .u64 q1, .int .u64 q2, .int .u64 q3] 142 (0,0)):=by rw[hW5];exact heap_new _ _
   rw[<- hW5];clear hW5;have HCE:Hd (∀ W,Bl W5 W->Cl W gk 0 (.slice (some ⟨kb,ko,none⟩) n kc)/\Cl W wr.heap.size 0 (.int .u64 q0)/\Cl W wr.heap.size 1 (.int .u64 q1)/\Cl W wr.heap.size 2 (.int .u64 q2)/\Cl W wr.heap.size 3 (.int .u64 q3)/\Cl W kb (ko+k*2) (.int .u64 q4)/\Cl W kb (ko+k*2+1) (.int .u64 q5)):=fun W h=>by
    have h1:=hb5.trans (h.mono hb5.size);have h2:=(h.block _ (lt_some hx5)).trans hx5;exact ⟨(h1.cell (cell_there hkg).1).trans hkg,by simp[World.cell?,h2],by simp[World.cell?,h2],by simp[World.cell?,h2],by simp[World.cell?,h2],(h1.cell (cell_there kc0).1).trans kc0,(h1.cell (cell_there kc1).1).trans kc1⟩
   have HB5:=hD (HW.o.trans (hb5.mono HW.o.size));clear hb5 hx5 hkg kc0 kc1 pc0 pc1 pc2 pc3 hpb hkb;refine roB W5 ?_;refine sq (fun aa ww ll hh=>by exact ov (xmv (hh.oL 4))) ?_;refine sq (fun aa ww ll hh=>by have:=hh.oL 1;exact ov (fC (HCE.o ww hh.inv))) ?_;refine sq (fun aa ww ll hh=>by have:=hh.gt 1 0;exact ov (fC (HCE.o ww hh.inv))) ?_;refine sq (fun aa ww ll hh=>by have:=hh.gt 0 2;have:=hh.gt 2 0;exact ov gX) ?_;refine stm 3 0 ?_;refine sq (fun aa ww ll hh=>by have:=hh.oL 5;exact hh.og 0 (fC (HCE.o ww hh.inv))) ?_;refine sq (fun aa ww ll hh=>by have:=hh.oL 1;exact hh.og 1 (fC (HCE.o ww hh.inv))) ?_;refine sq (fun aa ww ll hh=>by exact hh.og 2 (xmv (hh.oL 4))) ?_;refine sq (fun aa ww ll hh=>by have:=hh.gt 6 1;have:=hh.gt 7 0;exact hh.og 3 gX) ?_;refine sq (fun aa ww ll hh=>by have:=hh.gt 8 0;exact hh.og 4 (fC (HCE.o ww hh.inv))) ?_;refine ⟨.eq (.bool r),trivial,rfl,fun aa ww ll hh=>?_,?_⟩
   ·have e19:=hh.gt 5 4;have e23:=hh.gt 9 0;have ef:=evf aa;refine out_call_eq (hh.go 5 rfl kq rfl rfl) ?_ (HC.o ww);exact gX
   refine sq (fun aa ww ll hh=>by have:=hh.gt 10 0;exact hh.og 6 gX) ?_;refine sq (fun aa ww ll hh=>by have:=hh.gt 4 7;have:=hh.gt 11 0;have ec:=evc aa;exact ov gX) ?_;intro ll w1 hS hok;clear hok;simp only[ly];have HW1:=hD (HB5.o.trans (hS.mono HB5.o.size));have HWZ:=hD (HB0.o.trans (HW1.o.mono HB0.o.size));clear hS HC;cases r
   ·go_wp2_with fail;go_ret;exact ⟨by rw[HF.o k x ⟨v,m⟩ HPK.o.1 HPK.o.2 HR.o.symm];rfl,HWZ.o⟩
   ·go_wp2_with fail;go_roundw
    case rel=>
     refine ⟨k+1,om,by go_num,fun j p x hj h1 h2=>?_,HW1.o⟩;by_cases e:j=k
     ·subst e;rw[HPK.o.1] at h1;rw[HPK.o.2] at h2;cases h1;cases h2;exact HR.o.symm
     exact HJ.o j p x om h1 h2
    case measure=>exact mz
  obtain rfl:k=n:=om;have z1:¬(k:Int)<(k:Int):=om;have c0:wr.cell? ⟨w.heap.size,0,none⟩=some (.slice bp k bc):=by
   have:=(HW.o.block _ (lt_some HX0.o)).trans HX0.o;simp[World.cell?,this]
  have hkg:wr.cell? ⟨gk,0,none⟩=some (.slice kp k kc):=(HWW.o.cell (cell_there HKC.o).1).trans HKC.o;go_wp2_with fail;go_ret;refine ⟨?_,HWW.o⟩;rw[HT.o fun j p x h1 h2=>HJ.o j p x (by have:=(gL_ h1).1;have:=HN.o;omega) h1 h2];rfl
def brI (l:List Brn) (ks:List Nat):Int:=match l.findIdx? (fun b=>brP b ks) with
 |some i=>(i:Int)
 |none=>-1
theorem indexA_any (l:List Brn) (ks:List Nat) (gk ln lc kn kc:Nat) (lp kp:Option Addr) (w:World) (hl:BrnRow w (.slice lp ln lc) l) (hkc:w.cell? ⟨gk,0,none⟩=some (.slice kp kn kc)) (hks:NRow w (.slice kp kn kc) ks) (hlen:∀b∈l,b.pats.length=ks.length) (hpl:ks.length<=6000) (hll:l.length<=6000):
 Calls Tryz.prog 67 #[.slice lp ln lc, .func (.func 68) #[] #[.pointer (some ⟨gk,0,none⟩)]] w fun e w'=>e= .returned (.int .i64 (brI l ks))/\Bl w w':=by
 obtain rfl:ln=l.length:=hl.ln.1;have HL:=hD hl;have HBR:Hd (∀ (W:World) (b:Brn) (bp:Option Addr) (bn bc:Nat),Bl w W->b∈l->PRow W (.slice bp bn bc) b.pats->CR 68 #[.agg #[.slice bp bn bc, .int .i64 b.to], .pointer (some ⟨gk,0,none⟩)] W (.bool (brP b ks))):=fun W b bp bn bc h hb hp=>branchA_any b ks gk bn bc kn kc bp kp W hp ((h.cell (cell_there hkc).1).trans hkc) (hks.below keepN h) (hlen b hb) hpl
 obtain ⟨n,hn⟩:=nm l.length;rw[<- hn] at HL hll⊢;have HN:=hD hn;clear hl hkc hks hlen hpl hn;go_enter Tryz.func67,Tryz.ntmps67;go_wp2_with fail;go_loopw [8] (fun i wr=>∃k:Nat,k<=n/\i= .int .i64 k/\Hd (∀ (j:Nat) (b:Brn),j<k->l[j]?=some b->brP b ks=false)/\Hd (Bl w wr)) (fun i _=>n-(intOf i).toNat)
 case atStart=>exact ⟨0,om,rfl,fun j _ h=>absurd h om,Below.refl _ _⟩
 case round=>
  obtain ⟨k,hkn,rfl,HJ,HW⟩:=hrel;by_cases hlt:k<n
  ·obtain ⟨b,hb⟩:∃b,l[k]?=some b:=⟨_,gE_ (by have:=HN.o;omega)⟩;obtain ⟨xb,xo,p1,n1,c1,hps,hxb,y0,hy0,y1⟩:=BrnRow.el (HL.o.below keepBrn HW.o) hb;subst hps;have HC:=hD (HBR.o wr b p1 n1 c1 HW.o (gM_ hb) hy0);obtain ⟨r,hr⟩:=nm (brP b ks);rw[<- hr] at HC;have HR:=hD (And.intro hb hr);have z1:(k:Int)<(n:Int):=om;clear hb hr hy0 hxb;go_wp2_with (go_at_call 68;refine HC.o.mono ?_;rintro e w1 ⟨rfl,hb1⟩;have HW1:=hD (HW.o.trans (hb1.mono HW.o.size));clear hb1;cases r)
   ·go_roundw
    case rel=>
     refine ⟨k+1,om,by go_num,fun j b' hj h1=>?_,HW1.o⟩;by_cases e:j=k
     ·subst e;rw[HR.o.1] at h1;cases h1;exact HR.o.2.symm
     exact HJ.o j b' om h1
    case measure=>exact mz
   go_ret;refine ⟨?_,HW1.o⟩;have e:brI l ks=(k:Int):=by
    unfold brI;have hkl:=(gL_ HR.o.1).1;rw[List.findIdx?_eq_some_iff_getElem.2 ⟨hkl,by rw[(gL_ HR.o.1).2];exact HR.o.2.symm,fun j hj=>by
     have:=HJ.o j l[j] hj (gE_ om);simp[this]⟩]
   rw[e];rfl
  obtain rfl:k=n:=om;have z1:¬(k:Int)<(k:Int):=om;go_wp2_with fail;go_ret;refine ⟨?_,HW.o⟩;have e:brI l ks= -1:=by
   unfold brI;rw[List.findIdx?_eq_none_iff.2 fun b hb=>by
    obtain ⟨j,hj⟩:=List.getElem?_of_mem hb;exact HJ.o j b (by have:=(gL_ hj).1;have:=HN.o;omega) hj]
  rw[e];rfl
open Go.RowKit Stab
theorem nextP_none (h:st.keys.length=0):nextP st x=(st.to,x):=by unfold nextP;rw[if_pos h]
theorem nextP_some (h:¬st.keys.length=0):nextP st x=(if brI st.brs (keysP x st.keys)<0 then -2 else (st.brs.getD (brI st.brs (keysP x st.keys)).toNat ⟨[],0⟩).to,seenAll x st.keys):=by
 unfold nextP brI;rw[if_neg h];cases st.brs.findIdx? (fun b=>brP b (keysP x st.keys)) with
 |none=>rfl
 |some i=>
  show _=(if ((i:Nat):Int)<0 then (-2:Int) else _,_);rw[if_neg om,Int.toNat_natCast]
theorem brI_lt (l:List Brn) (ks:List Nat):brI l ks<(l.length:Int)/\ -1<=brI l ks:=by
 unfold brI;cases h:l.findIdx? (fun b=>brP b ks) with
 |none=>show (-1:Int)<_/\(-1:Int)<= -1;omega
 |some i=>
  have:=(List.findIdx?_eq_some_iff_getElem.1 h).1;show ((i:Nat):Int)<_/\(-1:Int)<=((i:Nat):Int);omega
theorem nextA_any {base X:Nat} {p:Prg} {r v f mm:Value} {fs:List Value} {w0:World} (s:PgS) (st:Stp) (tp kp bp:Option Addr) (tn tc kn kc bn bc:Nat) (hF:PktF p x) (hpo:0<=x.port/\x.port<=511) (hP:PktB base w X x r v f mm fs) (hlow:Bl w0 w) (hX:w0.heap.size<=X)
 (hk:CsRow w0 (.slice kp kn kc) st.keys) (hb:BrnRow w0 (.slice bp bn bc) st.brs) (hkn:st.keys.length<=6000) (hbn:st.brs.length<=6000) (hcl:∀c∈st.keys,c.length<=6000) (hcw:∀c∈st.keys,∃wt,widthP p (-1) c=some wt) (hbl:∀b∈st.brs,b.pats.length=st.keys.length):
 Calls Tryz.prog 27 #[pgV s, .pointer (some ⟨X,0,none⟩), .agg #[.slice tp tn tc, .slice kp kn kc, .slice bp bn bc, .int .i64 st.to]] w fun e w'=>e= .returned (.int .i64 (nextP st x).1)/\PktB base w' X (nextP st x).2 r v f mm fs/\Fr (·=X) w w':=by
 obtain rfl:kn=st.keys.length:=hk.ln.1;obtain rfl:bn=st.brs.length:=hb.ln.1;have HKL:Hd ((keysP x st.keys).length=st.keys.length):=by show _=_;unfold keysP;rw[List.length_map]
 have HKA:Hd (∀ (W:World),Bl w W->Calls Tryz.prog 66 #[pgV s, .pointer (some ⟨X,0,none⟩), .slice kp st.keys.length kc] W fun e w'=>(∃ u,e= .returned u/\NOwn W.heap.size w' u (keysP x st.keys))/\PktB base w' X (seenAll x st.keys) r v f mm fs/\Fr (·=X) W w'):=fun W h=>
  keysA_any (w0:=w0) s st.keys kp st.keys.length kc W hF hpo (hP.below h) (hlow.trans (h.mono hlow.size)) hX hk hkn hcl hcw
 have HIX:Hd (∀ (W:World) (gk:Nat) (up:Option Addr) (un uc:Nat),Bl w0 W->Cl W gk 0 (.slice up un uc)->NRow W (.slice up un uc) (keysP x st.keys)->CR 67 #[.slice bp st.brs.length bc, .func (.func 68) #[] #[.pointer (some ⟨gk,0,none⟩)]] W (.int .i64 (brI st.brs (keysP x st.keys)))):=fun W gk up un uc h hc hr=>
  indexA_any st.brs (keysP x st.keys) gk st.brs.length bc un uc bp up W (hb.below keepBrn h) hc hr (fun b hb2=>by rw[HKL.o];exact hbl b hb2) (by rw[HKL.o];exact hkn) hbn
 have HBR:=hD hb;have HBI:=hD (brI_lt st.brs (keysP x st.keys));have HN0:Hd (st.keys.length=0->nextP st x=(st.to,x)):=nextP_none;have HN1:Hd (¬ st.keys.length=0->nextP st x=(if brI st.brs (keysP x st.keys)<0 then -2 else (st.brs.getD (brI st.brs (keysP x st.keys)).toNat ⟨[],0⟩).to,seenAll x st.keys)):=nextP_some;have HP:=hD hP;have HLOW:=hD hlow;have HXX:=hD hX;have HXL:Hd (X<w.heap.size):=hP.lt;have hkn2:st.keys.length<=6000:=hkn;have hbn2:st.brs.length<=6000:=hbn;clear hF hpo hP hlow hX hk hb hkn hbn hcl hcw hbl;obtain ⟨KN,hKN⟩:=nm st.keys.length;obtain ⟨BN,hBN⟩:=nm st.brs.length;rw[<- hKN] at HKA HKL HN0 HN1 hkn2⊢;rw[<- hBN] at HIX HBR HBI hbn2⊢;have HBNE:=hD hBN;clear hKN hBN;obtain ⟨RES,hRES⟩:=nm (nextP st x);rw[<- hRES] at HN0 HN1⊢;clear hRES;unfold pgV at HKA⊢;go_enter Tryz.func27,Tryz.ntmps27;go_upto_region 1 with fail;obtain ⟨W0,hW0⟩:=nm ((w.alloc (.cells (pA s) 33)).alloc (.cells #[.slice tp tn tc, .slice kp KN kc, .slice bp BN bc, .int .i64 st.to] 79));have HB0:Hd (Bl w W0):=by show Below _ _ _;rw[hW0];exact bL
 have HG0:Hd (GBox W0 w.heap.size s):=by show _=_;rw[hW0,Below.heap_alloc _ _ _ sm];exact heap_new _ _
 have HS0:Hd (W0.heap[w.heap.size+1]?=some (.cells #[.slice tp tn tc, .slice kp KN kc, .slice bp BN bc, .int .i64 st.to] 79 (0,0))):=by
  exact gZ
 have HZ0:Hd (W0.heap.size=w.heap.size+1+1):=by show _=_;rw[hW0];simp
 rw[<- hW0];clear hW0;obtain ⟨q0,q1,q2,q3,q4,q5,q6,q7,q8,q9,q10,q11⟩:=HG0.o.cells;have s1:W0.cell? ⟨w.heap.size+1,1,none⟩=some (.slice kp KN kc):=by simp[World.cell?,HS0.o]
 have s2:W0.cell? ⟨w.heap.size+1,2,none⟩=some (.slice bp BN bc):=by simp[World.cell?,HS0.o]
 have s3:W0.cell? ⟨w.heap.size+1,3,none⟩=some (.int .i64 st.to):=by simp[World.cell?,HS0.o]
 by_cases hk0:KN=0
 ·have hki:(KN:Int)=0:=om;go_wp2_with fail;go_ret;rw[HN0.o hk0];exact ⟨rfl,HP.o.below HB0.o,Fr.of_below HB0.o⟩
 have hki:¬(KN:Int)=0:=om;have HN1:=hD (HN1.o hk0);generalize brI st.brs (keysP x st.keys)=J at*;generalize keysP x st.keys=KS at*;go_upto_region 4 with (go_at_call 66;refine (HKA.o _ HB0.o).mono ?_;rintro e w1 ⟨⟨u,rfl,hu⟩,hp1,hf1⟩;have HP1:=hD hp1;have HF1:=hD hf1;obtain ⟨up,uc,rfl,-⟩:=hu.row.shape;have HU:=hD hu;clear hu hp1 hf1 q0 q1 q2 q3 q4 q5 q6 q7 q8 q9 q10 q11 s1 s2 s3);have HW1:Hd (Bl w w1\/True):= .inr trivial;obtain ⟨W2,hW2⟩:=nm (w1.alloc (.cells #[.slice up KS.length uc] 43));have hb2:Bl w1 W2:=by rw[hW2];exact br.alloc lr _
 have hx2:W2.heap[w1.heap.size]?=some (.cells #[.slice up KS.length uc] 43 (0,0)):=by rw[hW2];exact heap_new _ _
 rw[<- hW2];clear hW2;have HF2:Hd (Fr (·=X) w W2):=((Fr.of_below HB0.o).trans HF1.o).trans (Fr.of_below hb2);have HP2:Hd (PktB base W2 X (seenAll x st.keys) r v f mm fs):=HP1.o.below hb2;have HS2:Hd (W2.heap[w.heap.size+1]?=some (.cells #[.slice tp tn tc, .slice kp KN kc, .slice bp BN bc, .int .i64 st.to] 79 (0,0))):=(hb2.block _ (by have:=HF1.o.size;have:=HZ0.o;omega)).trans ((HF1.o.block _ (lt_some HS0.o) (by show ¬w.heap.size+1=X;have:=HXL.o;omega)).trans HS0.o);have HL2:Hd (Bl w0 W2):=HLOW.o.trans (HF2.o.below HLOW.o.size fun q e=>by rw[show q=X from e];exact HXX.o);have HI:=hD (HIX.o W2 w1.heap.size up KS.length uc HL2.o (by simp[World.cell?,hx2]) (HU.o.row.below keepN hb2));have s2:W2.cell? ⟨w.heap.size+1,2,none⟩=some (.slice bp BN bc):=by simp[World.cell?,HS2.o]
 clear hb2 hx2 HIX HU;generalize w1.heap.size=gk at*;go_upto_region 5 with (go_at_call 67;refine HI.o.mono ?_;rintro e w3 ⟨rfl,hb3⟩;have HB3:=hD hb3;clear hb3);have HF3:Hd (Fr (·=X) w w3):=HF2.o.trans (Fr.of_below HB3.o);have HP3:Hd (PktB base w3 X (seenAll x st.keys) r v f mm fs):=HP2.o.below HB3.o;obtain ⟨hJ1,hJ2⟩:=HBI.o;by_cases hJ:J<0
 ·go_wp2_with fail;go_ret;rw[HN1.o,if_pos hJ];exact ⟨rfl,HP3.o,HF3.o⟩
 have HN2:=HN1.o;rw[if_neg hJ] at HN2;obtain ⟨j,rfl⟩:∃j:Nat,J=(j:Int):=⟨J.toNat,om⟩;rw[Int.toNat_natCast] at HN2;have hjl:j<st.brs.length:=by have:=HBNE.o;omega
 obtain ⟨xb,xo,p1,n1,c1,hps,hxb,y0,hy0,y1⟩:=BrnRow.el HBR.o (some_getD (l:=st.brs) (j:=j) ⟨[],0⟩ hjl);subst hps;have s2:w3.cell? ⟨w.heap.size+1,2,none⟩=some (.slice (some ⟨xb,xo,none⟩) BN bc):=by
  have:=(HB3.o.block _ (lt_some HS2.o)).trans HS2.o;simp[World.cell?,this]
 have y2:=((HL2.o.trans (HB3.o.mono HL2.o.size)).cell (p:=⟨xb,xo+j*2+1,none⟩) hxb).trans y1;generalize (st.brs.getD j ⟨[],0⟩).to=T at*;clear y0 hy0 hxb y1 hjl;have HN3:=hD HN2;clear HN1 HN2;go_wp2_with fail;go_ret;rw[HN3.o];exact ⟨rfl,HP3.o,HF3.o⟩
end Go.Proofs.YtikilcbpogfgkaaGreat
