/- Lemmas. -/
import Derived.Test.YtikilcbpogfgkaaGreatJI28
set_option maxHeartbeats 6400000
set_option maxRecDepth 100000
namespace Go.Proofs.YtikilcbpogfgkaaGreat
open Go.RowKit Go.Maps
variable {vb:Bool} {W w W':World} {e:Ending} {n0 X base gn gc en ec:Nat} {st st2:List (Nat×Int)} {act wt:Int} {S:Nat->Prop} {r f mm u:Value} {fs:List Value} {s:PgS} {gp ep:Option Addr}
theorem getP_at {x:Pkt} {i j n:Nat} {l:List Nat} (hl:x.fields[i]?=some l) (hn:l[j]?=some n) (hv:x.valid[i]?=some vb):getP x (i:Int) (j:Int)=(if vb then n else 0)/\accP x (i:Int) (j:Int)= !vb:=by
 have h1:=(gL_ hl).1;have h2:=(gL_ hn).1;have h3:=(gL_ hv).1;have e1:x.fields.getD i []=l:=by rw[List.getD_eq_getElem?_getD,hl];rfl
 have e2:l.getD j 0=n:=by rw[List.getD_eq_getElem?_getD,hn];rfl
 have e3:x.valid.getD i false=vb:=by rw[List.getD_eq_getElem?_getD,hv];rfl
 have ht:thereP x (i:Int) (j:Int):=by
  unfold thereP;rw[Int.toNat_natCast,e1];omega
 unfold getP accP;rw[Int.toNat_natCast,Int.toNat_natCast,e1,e2,e3];cases vb<;>simp[ht]
theorem getD_at {α:Type} {l:List α} {i:Nat} (d:α) (h:i<l.length):l[i]?=some (l.getD i d):=by
 rw[List.getD_eq_getElem?_getD,gE_ h];rfl
theorem fits_lt {v:Nat} {k:Int} (h:fitsP v k=true):v<2 ^ sh k:=by
 unfold fitsP at h;rw[decide_eq_true_eq] at h;rw[<- h];exact Nat.mod_lt _ (Nat.two_pow_pos _)
section
variable {base X m:Nat} {p:Prg} {act:Int} {x:Pkt} {r v f mm ga:Value} {fs:List Value} {args:List Nat} {w:World}
theorem leafR_of {n n':Nat} {A A':Bool} (hn:n=n') (hA:A=A') {w':World} (h:LeafR base X x r v f mm fs (·=X) W n A e w'):LeafR base X x r v f mm fs (·=X) W n' A' e w':=by
 subst hn hA;exact h
theorem leaf_act {n:Nod} (h1:1<=n.op) (h6:n.op<=6) (hp:plain0P p act n=n.w) (hok:okP n.w=true) (hF:PktF p x) (hpo:0<=x.port/\x.port<=511) (hargs:0<=act->act<(p.acts.length:Int)->args.length=(p.acts.getD act.toNat ⟨[],[]⟩).params.length)
 (hP:PktB base w X x r v f mm fs) (h0:w.cell? ⟨m,0,none⟩=some (.pointer (some ⟨X,0,none⟩))) (h9:w.cell? ⟨m,1,none⟩=some ga) (hg:NRow w ga args):
 Calls Tryz.prog 125 #[.pointer (some ⟨m,0,none⟩),nodeV n.op n.w n.a n.b ((n.v/B:Nat):Int) ((n.v%B:Nat):Int)] w (LeafR base X x r v f mm fs (·=X) w (leafP x args n) (leafA x n))/\leafP x args n<B*B:=by
 obtain ⟨op,k,a,b,cv⟩:=n;simp only at h1 h6 hok;have hop:op=1\/op=2\/op=3\/op=4\/op=5\/op=6:=om;rcases hop with rfl|rfl|rfl|rfl|rfl|rfl
 ·refine ⟨?_,?_⟩
  ·refine (leaf_const m k a b _ _ w).mono ?_;rintro e w' ⟨rfl,hb⟩;exact ⟨rfl,(hP.below hb).acc0,Fr.of_below hb⟩
  show cv<B*B;unfold plain0P at hp;rw[if_pos rfl] at hp;split at hp
  ·rename_i h;exact sh_ltBB (fits_lt h.2.2.2)
  rw[okP_iff] at hok;simp only at hp;omega
 ·obtain ⟨q1,q2,q3,q4⟩:=leaf_field hp hok rfl;simp only at q1 q2 q3 q4;obtain ⟨i,rfl⟩:∃i:Nat,a=(i:Int):=⟨a.toNat,om⟩;obtain ⟨j,rfl⟩:∃j:Nat,b=(j:Int):=⟨b.toNat,om⟩;rw[Int.toNat_natCast] at q4;have hil:i<x.fields.length:=by rw[hF.f];omega
  have hl:=getD_at (l:=x.fields) [] hil;have hv:=getD_at (l:=x.valid) false (show i<x.valid.length by rw[hF.v];omega);have hn:=getD_at (l:=x.fields.getD i []) 0 (show j<_ by rw[hF.fl i _ hl];omega);obtain ⟨e1,e2⟩:=getP_at hl hn hv;refine ⟨(lf_field hP h0 h9 k _ _ hl hn hv).mono fun e w' h=>leafR_of ?_ ?_ h,?_⟩
  ·exact e1.symm
  ·show (!_)=(decide ((2:Int)=2)&&accP x (i:Int) (j:Int));rw[e2];simp
  show getP x (i:Int) (j:Int)<B*B;rw[e1];split
  ·exact sh_ltBB (fits_lt (hF.ff i _ hl j _ hn))
  decide
 ·obtain ⟨q1,q2⟩:=leaf_meta hp hok rfl;simp only at q1 q2;obtain ⟨i,rfl⟩:∃i:Nat,a=(i:Int):=⟨a.toNat,om⟩;have hn:=getD_at (l:=x.metas) 0 (show i<_ by rw[hF.m];omega);have e1:leafP x args ⟨3,k,(i:Int),b,cv⟩=x.metas.getD i 0:=by show x.metas.getD (i:Int).toNat 0=_;rw[Int.toNat_natCast]
  refine ⟨(lf_meta hP h0 h9 k _ _ hn b).mono fun e w' h=>leafR_of e1.symm rfl h,?_⟩;rw[e1];exact sh_ltBB (fits_lt (hF.mf i _ hn))
 ·obtain ⟨q1,q2,q3,q4⟩:=leaf_param hp hok rfl;simp only at q3 q4;obtain ⟨i,rfl⟩:∃i:Nat,a=(i:Int):=⟨a.toNat,om⟩;have hn:=getD_at (l:=args) 0 (show i<_ by rw[hargs q1 q2];omega);have e1:leafP x args ⟨4,k,(i:Int),b,cv⟩=args.getD i 0:=by show args.getD (i:Int).toNat 0=_;rw[Int.toNat_natCast]
  refine ⟨(lf_param hP h0 h9 k _ _ hg hn b).mono fun e w' h=>leafR_of e1.symm rfl h,?_⟩;rw[e1];obtain ⟨_,_,_,-,-,h,-⟩:=hg.at hn;exact h
 ·refine ⟨(lf_port hP h0 h9 k _ _ hpo.1 hpo.2 a b).mono fun e w' h=>leafR_of rfl rfl h,?_⟩;show x.port.toNat<B*B;unfold B;omega
 obtain ⟨q1,q2⟩:=leaf_valid hp hok rfl;simp only at q1 q2;obtain ⟨i,rfl⟩:∃i:Nat,a=(i:Int):=⟨a.toNat,om⟩;have hv:=getD_at (l:=x.valid) false (show i<x.valid.length by rw[hF.v];omega);have e1:leafP x args ⟨6,k,(i:Int),b,cv⟩=truthN (x.valid.getD i false):=by show truthN (x.valid.getD (i:Int).toNat false)=_;rw[Int.toNat_natCast]
 refine ⟨(lf_valid hP h0 h9 k _ _ hv b).mono fun e w' h=>leafR_of e1.symm rfl h,?_⟩;rw[e1];unfold truthN B;split<;>omega
theorem done_of {n:Nod} {A B':List (Nat×Int)} {mx:Value×Value} (hn:¬n.op<=6) (hA:A=B') (hP:PktB base w X x r v f mm fs) (hT:∀k,PS X r v f mm fs k->k<n0) {w':World} (h:e= .returned (.tuple #[])/\Stk w' n0 m mx A/\Below n0 w w'):
 e= .returned (.tuple #[])/\Stk w' n0 m mx B'/\PktB base w' X (x.acc (leafA x n)) r v f mm fs/\Fr (fun k=>k=X\/n0<=k) w w':=by
 obtain ⟨h1,h2,h3⟩:=h;rw[leafA_un hn, <-hA];exact ⟨h1,h2,(hP.kept fun k hk=>h3.block k (hT k hk)).acc0,Fr.mono0 h3⟩
theorem node_act {n:Nod} (hs:NStep p act x args n st st2) (hF:PktF p x) (hpo:0<=x.port/\x.port<=511) (hargs:0<=act->act<(p.acts.length:Int)->args.length=(p.acts.getD act.toNat ⟨[],[]⟩).params.length)
 (hP:PktB base w X x r v f mm fs) (hS:Stk w n0 m (.pointer (some ⟨X,0,none⟩),ga) st.reverse) (hg:NRow w ga args) (hT:∀k,PS X r v f mm fs k->k<n0) (hlen:st.length<=90000):
 Calls Tryz.prog 118 #[.pointer (some ⟨m,0,none⟩),nodeV n.op n.w n.a n.b ((n.v/B:Nat):Int) ((n.v%B:Nat):Int)] w fun e w'=>e= .returned (.tuple #[])/\Stk w' n0 m (.pointer (some ⟨X,0,none⟩),ga) st2.reverse/\PktB base w' X (x.acc (leafA x n)) r v f mm fs/\Fr (fun k=>k=X\/n0<=k) w w':=by
 cases hs with
 |leaf _ h1 h6 hp hok=>
  rw[List.reverse_cons];have hcell:∀W,Stk W n0 m (.pointer (some ⟨X,0,none⟩),ga) st.reverse->W.cell? ⟨m,0,none⟩=some (.pointer (some ⟨X,0,none⟩))/\W.cell? ⟨m,1,none⟩=some ga:=fun W h=>by
   obtain ⟨v,h1,-⟩:=h;exact ⟨by simp[World.cell?,h1],by simp[World.cell?,h1]⟩
  have hl:=fun W (hb:Bl w W) (hPW:PktB base W X x r v f mm fs) (hSW:Stk W n0 m (.pointer (some ⟨X,0,none⟩),ga) st.reverse)=>leaf_act (m:=m) h1 h6 hp hok hF hpo hargs hPW (hcell W hSW).1 (hcell W hSW).2 (hg.below keepN hb)
  exact node_leaf n0 m _ st.reverse n.op n.w n.a n.b _ _ (leafP x args n) (leafA x n) w h1 h6 hP hS hT (hl w br hP hS).2 (by simp;omega) (fun W hb hPW hSW=>(hl W hb hPW hSW).1)
 |un a j rr hun ha hj hsg hok=>
  rw[List.reverse_cons] at hS⊢;have hlen2:rr.reverse.length<99990:=by simp at hlen⊢;omega
  obtain ⟨op,k,na,nb,nv⟩:=n;simp only at hun hsg hok;rcases hun with rfl|rfl|rfl|rfl|rfl
  ·exact (node_not n0 m _ rr.reverse a j k na nb _ _ w hS hlen2 ha).mono fun e w' h=>done_of (n:=⟨7,k,na,nb,nv⟩) (by show ¬(7:Int)<=6;decide) (by simp[un1]) hP hT h
  ·exact (node_neg n0 m _ rr.reverse a j k na nb _ _ w hS hlen2 ha).mono fun e w' h=>done_of (n:=⟨8,k,na,nb,nv⟩) (by show ¬(8:Int)<=6;decide) (by simp[un1]) hP hT h
  ·have hq:0<=nb/\nb<=na/\na<128:=by
    rw[okP_iff] at hok hj;unfold single0P at hsg;simp only at hsg;rw[if_pos trivial] at hsg;split at hsg<;>omega
   exact (node_slice n0 m _ rr.reverse a j k na nb _ _ w hS hlen2 ha hq.1 hq.2.1 hq.2.2).mono fun e w' h=>done_of (n:=⟨9,k,na,nb,nv⟩) (by show ¬(9:Int)<=6;decide) (by simp[un1]) hP hT h
  ·exact (node_shl n0 m _ rr.reverse a j k na nb _ _ w hS hlen2 ha).mono fun e w' h=>done_of (n:=⟨13,k,na,nb,nv⟩) (by show ¬(13:Int)<=6;decide) (by simp[un1]) hP hT h
  exact (node_shr n0 m _ rr.reverse a j k na nb _ _ w hS hlen2 ha).mono fun e w' h=>done_of (n:=⟨14,k,na,nb,nv⟩) (by show ¬(14:Int)<=6;decide) (by simp[un1]) hP hT h
 |bin a i b j rr hun hop ha hb=>
  rw[List.reverse_cons,List.reverse_cons] at hS;rw[List.reverse_cons];have hlen2:rr.reverse.length<99990:=by simp at hlen⊢;omega
  obtain ⟨op,k,na,nb,nv⟩:=n;simp only at hun hop;have hop2:op=10\/op=11\/op=12\/op=15\/op=16\/op=17\/op=18\/op=19\/op=20:=by unfold isUn at hun;omega
  rcases hop2 with rfl|rfl|rfl|rfl|rfl|rfl|rfl|rfl|rfl
  ·exact (node_cat n0 m _ rr.reverse a b i j k na nb _ _ w hS hlen2 ha hb).mono fun e w' h=>done_of (n:=⟨10,k,na,nb,nv⟩) (by show ¬(10:Int)<=6;decide) (by simp[bin2]) hP hT h
  ·exact (node_add n0 m _ rr.reverse a b i j k na nb _ _ w hS hlen2 ha hb).mono fun e w' h=>done_of (n:=⟨11,k,na,nb,nv⟩) (by show ¬(11:Int)<=6;decide) (by simp[bin2]) hP hT h
  ·exact (node_sub n0 m _ rr.reverse a b i j k na nb _ _ w hS hlen2 ha hb).mono fun e w' h=>done_of (n:=⟨12,k,na,nb,nv⟩) (by show ¬(12:Int)<=6;decide) (by simp[bin2]) hP hT h
  ·exact (node_and n0 m _ rr.reverse a b i j k na nb _ _ w hS hlen2 ha hb).mono fun e w' h=>done_of (n:=⟨15,k,na,nb,nv⟩) (by show ¬(15:Int)<=6;decide) (by simp[bin2]) hP hT h
  ·exact (node_xor n0 m _ rr.reverse a b i j k na nb _ _ w hS hlen2 ha hb).mono fun e w' h=>done_of (n:=⟨16,k,na,nb,nv⟩) (by show ¬(16:Int)<=6;decide) (by simp[bin2]) hP hT h
  ·exact (node_or n0 m _ rr.reverse a b i j k na nb _ _ w hS hlen2 ha hb).mono fun e w' h=>done_of (n:=⟨17,k,na,nb,nv⟩) (by show ¬(17:Int)<=6;decide) (by simp[bin2]) hP hT h
  ·exact (node_eq n0 m _ rr.reverse a b i j k na nb _ _ w hS hlen2 ha hb).mono fun e w' h=>done_of (n:=⟨18,k,na,nb,nv⟩) (by show ¬(18:Int)<=6;decide) (by simp[bin2,oneN,truthN]) hP hT h
  ·exact (node_lt n0 m _ rr.reverse a b i j k na nb _ _ w hS hlen2 ha hb).mono fun e w' h=>done_of (n:=⟨19,k,na,nb,nv⟩) (by show ¬(19:Int)<=6;decide) (by simp[bin2,oneN,truthN]) hP hT h
  exact (node_le n0 m _ rr.reverse a b i j k na nb _ _ w hS hlen2 ha hb).mono fun e w' h=>done_of (n:=⟨20,k,na,nb,nv⟩) (by show ¬(20:Int)<=6;decide) (by simp[bin2,oneN,truthN]) hP hT h
end
open Go.RowKit Go.Maps
theorem nstep_acc {p:Prg} {x:Pkt} {args:List Nat} {n:Nod} (b:Bool) (h:NStep p act x args n st st2):NStep p act (x.acc b) args n st st2:=by
 cases h with
 |leaf _ h1 h6 hp hok=>exact .leaf _ h1 h6 hp hok
 |un a j rr hun ha hj hsg hok=>exact .un a j rr hun ha hj hsg hok
 |bin a i b j rr hun hop ha hb=>exact .bin a i b j rr hun hop ha hb
theorem Fr.step {W0 wr:World} (h0:Bl w W0) (h:Fr (fun q=>q=X\/n0<=q) W0 wr) (hn:w.heap.size<=n0):Fr (·=X) w wr:=
 ⟨h.os.trans h0.os,h.tape.trans h0.tape,h.output.trans h0.output,Nat.le_trans h0.size h.size,fun k hk hx=>(h.block k (Nat.lt_of_lt_of_le hk h0.size) (fun e=>by rcases e with e|e;exact hx e;omega)).trans (h0.block k hk)⟩
theorem field_nA (a b c:Int) (w:World):(Instr.field 187 (.agg #[.int .u64 a, .int .u64 b, .int .i64 c]) 0).run Tryz.prog w= .ok (.agg #[.int .u64 a, .int .u64 b]) w:=by kernel_rfl
theorem NRow.fr {v:Value} {l:List Nat} (h:NRow W v l) (hf:Fr S W W') (hn:∀b,S b->∀i n,W.cell? ⟨b,i,none⟩≠some (.int .u64 n)):NRow W' v l:=by
 obtain ⟨pa,cap,h1,h2,h3,h4,h5⟩:=h;refine ⟨pa,cap,h1,h2,h3,h4,fun h0=>?_⟩;obtain ⟨b,o,e1,e2,e4⟩:=h5 h0;refine ⟨b,o,e1,Nat.lt_of_lt_of_le e2 hf.size,fun j x hj=>?_⟩;obtain ⟨a1,a2,a3⟩:=e4 j x hj;have hb:¬S b:=fun e=>hn b e _ _ a2
 exact ⟨a1,hf.cell (p:=⟨b,_,none⟩) hb a2,hf.cell (p:=⟨b,_,none⟩) hb a3⟩
theorem PktB.no64 {x:Pkt} {v m:Value} (h:PktB base w X x r v f m fs) (i:Nat) (n:Int):w.cell? ⟨X,i,none⟩≠some (.int .u64 n):=by
 exact gU
theorem PktB.no8 {x:Pkt} {v m:Value} (h:PktB base w X x r v f m fs) (i:Nat) (n:Int):w.cell? ⟨X,i,none⟩≠some (.int .u8 n):=by
 exact gU
theorem valueA_any {p:Prg} {x:Pkt} {v:Value} {args:List Nat} (s:PgS) (c:List Nod) (cp gp:Option Addr) (cn cc gn gc:Nat) (w:World) (hw:widthP p act c=some wt) (hlen:c.length<=6000) (hF:PktF p x) (hpo:0<=x.port/\x.port<=511)
 (hargs:0<=act->act<(p.acts.length:Int)->args.length=(p.acts.getD act.toNat ⟨[],[]⟩).params.length) (hP:PktB base w X x r v f mm fs) (hc:CRow w (.slice cp cn cc) c) (hg:NRow w (.slice gp gn gc) args):
 Calls Tryz.prog 100 #[pgV s, .pointer (some ⟨X,0,none⟩), .slice cp cn cc, .slice gp gn gc] w fun e w'=>e= .returned (numV (evC x args c))/\PktB base w' X (x.acc (accC x c)) r v f mm fs/\Fr (·=X) w w':=by
 unfold pgV;have hcn:cn=c.length:=hc.ln.1;subst hcn;have HC:=hD hc;have HG:=hD hg;have HP:=hD hP;have HF:=hD hF;have HPO:=hD hpo;have HAR:=hD hargs;have HWT:=hD hw;have HLE:Hd (∀ k,k<=c.length->(stkE x args c k).length<=90000):=fun k hk=>Nat.le_trans (stkE_len x args hw k hk) om
 have HEN:Hd (∃ j,stkE x args c c.length=[(evC x args c,j)]):=stkE_end x args hw;have HAE:Hd (accK x c c.length=accC x c):=accK_end x c;have hXl:=hP.lt;have hcl:(c.length:Int)<=6000:=om;clear hw hF hpo hargs hP hc hg;generalize evC x args c=R at*;generalize accC x c=AC at*;obtain ⟨y3,z3,he3,ey3,ez3⟩:=numV_parts R;have HE3:=hD he3;have HYZ:Hd (((R/B:Nat):Int)=(y3:Int)/\((R%B:Nat):Int)=(z3:Int)):=⟨by rw[ey3],by rw[ez3]⟩;clear he3 ey3 ez3;go_enter Tryz.func100,Tryz.ntmps100;go_upto_region 4 with fail;obtain ⟨W0,hW0⟩:=nm (((w.alloc (.cells (pA s) 33)).alloc (.cells #[.int .u64 0, .int .u64 0] 82)).alloc (.cells #[.pointer (some ⟨X,0,none⟩), .slice gp gn gc, .slice none 0 0] 184));have HB0:Hd (Bl w W0):=by show Below _ _ _;rw[hW0];exact bL
 have hsz0:W0.heap.size=w.heap.size+1+1+1:=by rw[hW0];simp
 have HM0:Hd (W0.heap[w.heap.size+1+1]?=some (.cells #[.pointer (some ⟨X,0,none⟩), .slice gp gn gc, .slice none 0 0] 184 (0,0))):=by
  show _=_;rw[hW0];exact hq3 _ _ _ _
 have HR0:Hd (Bx2 W0 (w.heap.size+1) 0 0):=by
  show _=_;rw[hW0,Below.heap_alloc _ _ _ sm];exact hq2 _ _ _
 rw[<- hW0];clear hW0;have HT:Hd (∀ k,PS X r v f mm fs k->k<w.heap.size+1+1):=fun k hk=>by have:=(HP.o.blk hk).2;omega
 go_wp2_with fail;go_loopw [21] (fun i wr=>∃k:Nat,k<=c.length/\i= .int .i64 k/\Stk wr (w.heap.size+1+1) (w.heap.size+1+1) (.pointer (some ⟨X,0,none⟩), .slice gp gn gc) (stkE x args c k).reverse/\PktB base wr X (x.acc (accK x c k)) r v f mm fs/\Fr (fun q=>q=X\/w.heap.size+1+1<=q) W0 wr) (fun i _=>c.length-(intOf i).toNat)
 case atStart=>
  refine ⟨0,zl,rfl,?_,(HP.o.below HB0.o).acc0,Fr.refl _ _⟩;exact ⟨.slice none 0 0,HM0.o,⟨rfl, .inl ⟨rfl,rfl⟩⟩,by simp[Value.ownBlock],Nat.le_refl _,by simp[stkE]⟩
 case round=>
  obtain ⟨k,hk,rfl,hS,hPk,hFr⟩:=hrel;have HS:=hD hS;have HPk:=hD hPk;have HFr:=hD hFr;have hszr:=hFr.size;rw[hsz0] at hszr;have HFX:Hd (Fr (·=X) w wr):=Fr.step HB0.o hFr om;clear hS hPk hFr;by_cases hlt:k<c.length
  ·obtain ⟨n,hn⟩:∃n,c[k]?=some n:=⟨_,gE_ hlt⟩;have HNS:Hd (NStep p act (x.acc (accK x c k)) args n (stkE x args c k) (stkE x args c (k+1))):=nstep_acc _ (nstep_at x args HWT.o hn);have HAK:Hd (accK x c (k+1)=(accK x c k||leafA x n)):=accK_succ hn;obtain ⟨b,o,hcp,hb,q0,q1,q2,q3,-,q4,q5⟩:=HC.o.get hn;have hbX:¬b=X:=by rintro rfl;exact HP.o.no8 _ _ q0
   have a0:wr.cell? ⟨b,o+k*6,none⟩=some (.int .u8 n.op):=HFX.o.cell (p:=⟨b,_,none⟩) hbX q0;have a1:wr.cell? ⟨b,o+k*6+1,none⟩=some (.int .i64 n.w):=HFX.o.cell (p:=⟨b,_,none⟩) hbX q1;have a2:wr.cell? ⟨b,o+k*6+2,none⟩=some (.int .i64 n.a):=HFX.o.cell (p:=⟨b,_,none⟩) hbX q2;have a3:wr.cell? ⟨b,o+k*6+3,none⟩=some (.int .i64 n.b):=HFX.o.cell (p:=⟨b,_,none⟩) hbX q3;have a4:wr.cell? ⟨b,o+k*6+4,none⟩=some (.int .u64 ((n.v/B:Nat):Int)):=HFX.o.cell (p:=⟨b,_,none⟩) hbX q4;have a5:wr.cell? ⟨b,o+k*6+5,none⟩=some (.int .u64 ((n.v%B:Nat):Int)):=HFX.o.cell (p:=⟨b,_,none⟩) hbX q5;have hk2:(k:Int)<(c.length:Int):=om;have HGr:Hd (NRow wr (.slice gp gn gc) args):=NRow.fr HG.o HFX.o fun b e=>by rw[show b=X from e];exact HP.o.no64
   have HND:Hd (∀ W,Bl wr W->Calls Tryz.prog 118 #[.pointer (some ⟨w.heap.size+1+1,0,none⟩),nodeV n.op n.w n.a n.b ((n.v/B:Nat):Int) ((n.v%B:Nat):Int)] W fun e w'=>e= .returned (.tuple #[])/\Stk w' (w.heap.size+1+1) (w.heap.size+1+1) (.pointer (some ⟨X,0,none⟩), .slice gp gn gc) (stkE x args c (k+1)).reverse/\PktB base w' X (x.acc (accK x c (k+1))) r v f mm fs/\Fr (fun q=>q=X\/w.heap.size+1+1<=q) W w'):=fun W hb=>by
    have h:=node_act HNS.o (HF.o.other rfl rfl rfl) HPO.o HAR.o (HPk.o.below hb) (HS.o.below hb) (HGr.o.below keepN hb) HT.o (HLE.o k hk);refine h.mono ?_;rintro e w' ⟨h1,h2,h3,h4⟩;refine ⟨h1,h2,?_,h4⟩;rw[HAK.o];have e1:((x.acc (accK x c k)).acc (leafA (x.acc (accK x c k)) n))=x.acc (accK x c k||leafA x n):=by
     show ({ x with access:=(x.access||accK x c k)||leafA x n }:Pkt)={ x with access:=x.access||(accK x c k||leafA x n) };rw[Bool.or_assoc]
    rw[<- e1];exact h3
   unfold nodeV at HND;clear hn q0 q1 q2 q3 q4 q5 hbX hb;generalize ((n.v/B:Nat):Int)=v1 at*;generalize ((n.v%B:Nat):Int)=v2 at*;subst hcp;go_wp2_with (go_at_call 118;refine (HND.o _ (br.alloc lr _)).mono ?_;rintro e w1 ⟨rfl,hs1,hp1,hf1⟩;have HS1:=hD hs1;have HP1:=hD hp1;have HF1:=hD hf1;clear hs1 hp1 hf1);go_roundw
   case rel=>exact ⟨k+1,om,by go_num,HS1.o,HP1.o,HFr.o.trans ((Fr.of_below (br.alloc lr _)).trans HF1.o)⟩
   case measure=>exact mz
  have hkN:k=c.length:=om;subst hkN;have hcc:¬(c.length:Int)<(c.length:Int):=om;have HPN:Hd (Calls Tryz.prog 119 #[.pointer (some ⟨w.heap.size+1+1,0,none⟩)] wr fun e w'=>(∃ j,e= .returned (.agg #[.int .u64 (y3:Int), .int .u64 (z3:Int), .int .i64 j]))/\Below (w.heap.size+1+1) wr w'):=by
   have h:=HS.o;obtain ⟨j,hj⟩:=HEN.o;rw[hj] at h;have hp:=pop_any (w.heap.size+1+1) (w.heap.size+1+1) (.pointer (some ⟨X,0,none⟩), .slice gp gn gc) [] R j wr h;rw[HYZ.o.1,HYZ.o.2] at hp;exact hp.mono fun e w' h=>⟨⟨j,h.1⟩,h.2.2.1⟩
  have hfn:=field_nA;have hr0:Bx2 wr (w.heap.size+1) 0 0:=(HFr.o.block _ om om).trans HR0.o;go_wp2_with (go_at_call 119;refine HPN.o.mono ?_;rintro e w1 ⟨⟨j,rfl⟩,hb1⟩;have HB1:=hD hb1;have hr1:Bx2 w1 (w.heap.size+1) 0 0:=(hb1.block _ om).trans hr0;obtain ⟨b0,b1,b2,b3⟩:=hr1.cells;clear hb1 hr1);refine bodyPost_ret (v:= .agg #[.int .u64 (y3:Int), .int .u64 (z3:Int)]) (by simp[results,Tryz.results100,go_sem,b0,b1]) rfl ⟨by rw[HE3.o],?_,?_⟩
  ·have hp:=HPk.o;rw[HAE.o] at hp;exact hp.kept fun q hq=>(set2_other w1 (w.heap.size+1) 0 1 _ _ (by have:=(HP.o.blk hq).2;omega)).trans (HB1.o.block q (HT.o q hq))
  have hE:Fr (fun q=>q=X\/w.heap.size+1+1<=q) W0 w1:=HFr.o.trans (Fr.mono0 HB1.o);exact ((Fr.step HB0.o hE om).set (.inr om) _).set (.inr om) _
open Go.RowKit
def GBox (W:World) (g:Nat) (s:PgS):Prop:=W.heap[g]?=some (.cells #[.slice s.hp s.hn s.hc, .slice s.mp s.mn s.mc, .slice s.sp s.sn s.sc, .slice s.ap s.an s.ac, .slice s.tp s.tn s.tc, .slice s.cp s.cn s.cc, .slice s.ep s.en s.ec, .slice s.v1 s.n1 s.c1, .slice s.v2 s.n2 s.c2, .slice s.v3 s.n3 s.c3, .slice s.v4 s.n4 s.c4, .slice s.v5 s.n5 s.c5] 33 (0,0))
theorem GBox.cells {g:Nat} (h:GBox W g s):W.cell? ⟨g,0,none⟩=some (.slice s.hp s.hn s.hc)/\W.cell? ⟨g,1,none⟩=some (.slice s.mp s.mn s.mc)/\W.cell? ⟨g,2,none⟩=some (.slice s.sp s.sn s.sc)/\W.cell? ⟨g,3,none⟩=some (.slice s.ap s.an s.ac)/\W.cell? ⟨g,4,none⟩=some (.slice s.tp s.tn s.tc)/\W.cell? ⟨g,5,none⟩=some (.slice s.cp s.cn s.cc)/\W.cell? ⟨g,6,none⟩=some (.slice s.ep s.en s.ec)/\W.cell? ⟨g,7,none⟩=some (.slice s.v1 s.n1 s.c1)/\W.cell? ⟨g,8,none⟩=some (.slice s.v2 s.n2 s.c2)/\W.cell? ⟨g,9,none⟩=some (.slice s.v3 s.n3 s.c3)/\W.cell? ⟨g,10,none⟩=some (.slice s.v4 s.n4 s.c4)/\W.cell? ⟨g,11,none⟩=some (.slice s.v5 s.n5 s.c5):=by
 unfold GBox at h;refine ⟨?_,?_,?_,?_,?_,?_,?_,?_,?_,?_,?_,?_⟩<;>simp[World.cell?,h]
theorem keysA_any {p:Prg} {x:Pkt} {v:Value} {w0:World} (s:PgS) (cs:List (List Nod)) (kp:Option Addr) (kn kc:Nat) (w:World) (hF:PktF p x) (hpo:0<=x.port/\x.port<=511) (hP:PktB base w X x r v f mm fs)
 (hlow:Bl w0 w) (hX:w0.heap.size<=X) (hk:CsRow w0 (.slice kp kn kc) cs) (hkn:kn<=6000) (hcl:∀c∈cs,c.length<=6000) (hw:∀c∈cs,∃wt,widthP p (-1) c=some wt):
 Calls Tryz.prog 66 #[pgV s, .pointer (some ⟨X,0,none⟩), .slice kp kn kc] w fun e w'=>(∃ u,e= .returned u/\NOwn w.heap.size w' u (keysP x cs))/\PktB base w' X (x.acc (cs.any (accC x))) r v f mm fs/\Fr (·=X) w w':=by
 have HN:Hd (kn=cs.length):=hk.ln.1;have HK:=hD hk;have HP:=hD hP;have HLOW:=hD hlow;have HXX:=hD hX;have hXl:=hP.lt;have HVV:Hd (∀ (W:World) (c:List Nod) (cp:Option Addr) (cn cc:Nat) (a:Bool),c∈cs->CRow W (.slice cp cn cc) c->PktB base W X (x.acc a) r v f mm fs->Calls Tryz.prog 100 #[pgV s, .pointer (some ⟨X,0,none⟩), .slice cp cn cc, .slice none 0 0] W fun e w'=>e= .returned (numV (evC x [] c))/\PktB base w' X (x.acc (a||accC x c)) r v f mm fs/\Fr (·=X) W w'):=fun W c cp cn cc a hc hr hp=>by
  obtain ⟨wt,hwt⟩:=hw c hc;have h:=valueA_any (args:=[]) s c cp none cn cc 0 0 W hwt (hcl c hc) (hF.other (x:=x) (y:=x.acc a) rfl rfl rfl) hpo (fun h=>absurd h dq) hp hr RowAt.nil;refine h.mono ?_;rintro e w' ⟨h1,h2,h3⟩;refine ⟨h1,?_,h3⟩;have e1:((x.acc a).acc (accC (x.acc a) c))=x.acc (a||accC x c):=by
   show ({ x with access:=(x.access||a)||accC x c }:Pkt)={ x with access:=x.access||(a||accC x c) };rw[Bool.or_assoc]
  rw[<- e1];exact h2
 have HLT:Hd (∀ c∈cs,evC x [] c<B*B):=fun c hc=>by obtain ⟨wt,hwt⟩:=hw c hc;exact sh_ltBB (evC_width x [] hwt)
 clear hF hpo hP hk hcl hw hlow hX;unfold pgV at HVV⊢;go_enter Tryz.func66,Tryz.ntmps66;go_upto_region 1 with fail;obtain ⟨W0,hW0⟩:=nm (w.alloc (.cells (pA s) 33));have HG0:Hd (GBox W0 w.heap.size s):=by show _=_;rw[hW0];exact heap_new _ _
 have HB0:Hd (Bl w W0):=by show Below _ _ _;rw[hW0];exact bL
 have HSZ:Hd (W0.heap.size=w.heap.size+1):=by show _=_;rw[hW0];simp
 rw[<- hW0];clear hW0;go_wp2_with fail;go_loopw [6,8,11] (fun u u8 i wr=>∃k:Nat,k<=kn/\i= .int .i64 k/\Hd (NOwn W0.heap.size wr u ((cs.take k).map (evC x [])))/\Hd (GBox wr w.heap.size s)/\Hd (PktB base wr X (x.acc ((cs.take k).any (accC x))) r v f mm fs)/\Hd (Fr (·=X) w wr)/\Hd (W0.heap.size<=wr.heap.size)) (fun _ _ i _=>kn-(intOf i).toNat)
 case atStart=>exact ⟨0,zl,rfl,⟨World.ownsRow_nil _ _ _ _,fun n hn=>by simp at hn⟩,HG0.o,by show PktB _ _ _ _ _ _ _ _ _;rw[show ((cs.take 0).any (accC x))=false by simp];exact (HP.o.below HB0.o).acc0,Fr.of_below HB0.o,Nat.le_refl _⟩
 case round=>
  obtain ⟨k,hk,rfl,HO,HGB,HPk,HFr,HS⟩:=hrel;obtain ⟨pu,cu,hu⟩:∃p c,u6= .slice p k c:=by
   obtain ⟨pp,cc,e⟩:=own_sh HO.o.1;exact ⟨pp,cc,by rw[e,List.length_map,List.length_take,Nat.min_eq_left (by have:=HN.o;omega)]⟩
  subst hu;have HW0:Hd (Bl w0 wr):=HLOW.o.trans (HFr.o.below HLOW.o.size (fun q e=>by rw[show q=X from e];exact HXX.o));by_cases hlt:k<kn
  ·have hki:(k:Int)<(kn:Int):=om;obtain ⟨c,hc⟩:∃c,cs[k]?=some c:=⟨_,gE_ (by have:=HN.o;omega)⟩;obtain ⟨kb,ko,cp,cn,cc,hps,hkb,y0,hy0⟩:=CsRow.el (HK.o.below keepCs HW0.o) hc;obtain ⟨m,hm⟩:=nm (evC x [] c);obtain ⟨c0,c1,he3,hc0,hc1⟩:=numV_parts m;have HV:Hd (∀ W,Bl wr W->Calls Tryz.prog 100 #[.agg (pA s), .pointer (some ⟨X,0,none⟩), .slice cp cn cc, .slice none 0 0] W fun e w'=>e= .returned (.agg #[.int .u64 (c0:Int), .int .u64 (c1:Int)])/\PktB base w' X (x.acc ((cs.take (k+1)).any (accC x))) r v f mm fs/\Fr (·=X) W w'):=fun W h=>by
    have hh:=HVV.o W c cp cn cc _ (gM_ hc) (hy0.below keepNd h) (HPk.o.below h);rw[<- hm,he3] at hh;rw[List.take_add_one,hc,List.any_append];simpa using hh
   have HMM:Hd ((cs.take (k+1)).map (evC x [])=(cs.take k).map (evC x [])++[m]):=by show _=_;rw[List.take_add_one,hc,List.map_append,hm];rfl
   have HC01:Hd (numC m=[.int .u64 (c0:Int), .int .u64 (c1:Int)]/\m<B*B):=⟨by unfold numC;rw[hc0,hc1],by rw[hm];exact HLT.o c (gM_ hc)⟩;clear hm hc0 hc1 hc hy0 he3;subst hps;have HLK:Hd (((cs.take k).map (evC x [])).length=k):=by show _=_;rw[List.length_map,List.length_take,Nat.min_eq_left (by have:=HN.o;omega)]
   have HOB:Hd (∀ z,(Value.slice pu k cu).ownBlock=some z->W0.heap.size<=z/\z<wr.heap.size):=fun z e=>own_size HO.o.1 e
   obtain ⟨p0,p1,p2,p3,p4,p5,p6,p7,p8,p9,p10,p11⟩:=HGB.o.cells;have hkb6:k<=6000:=om;go_upto_region 5 with (first
    |(go_at_call 100;refine (HV.o _ br).mono ?_;rintro e w2 ⟨rfl,hp2,hf2⟩;have HP2:=hD hp2;have HF2:=hD hf2;clear hp2 hf2 p0 p1 p2 p3 p4 p5 p6 p7 p8 p9 p10 p11;have HO2:Hd (w2.ownsRow W0.heap.size 82 2 (.slice pu k cu) k (((cs.take k).map (evC x [])).flatMap numC)/\Nums ((cs.take k).map (evC x []))):=(by
     have h:=HO.o.far (w':=w2) (fun z e=>HF2.o.block z (HOB.o z e).2 (by have:=(HOB.o z e).1;have:=HSZ.o;show ¬z=X;omega));unfold NOwn at h;rw[HLK.o] at h;exact h);have hz2:=HF2.o.size)
    |(at_builtin;refine append_at elemNum rfl (.tmp 15) (.tmp 20) rfl W0.heap.size (.slice pu k cu) k _ rfl (World.ownsRow.alloc HO2.o.1 _) (.slice (some ⟨w2.heap.size,0,none⟩) 1 1) 1 [.int .u64 (c0:Int), .int .u64 (c1:Int)] rfl (src_one (g:=w2.heap.size) rfl (fun u hu=>by simp at hu;rcases hu with rfl|rfl<;>rfl) (fun j u hj=>by match j,hj with|0,hj=>cases hj;simp[go_sem]|1,hj=>cases hj;simp[go_sem])) om (by unfold maxLen;omega) (by have:=HS.o;simp only[World.size_alloc];omega) ?_;intro y3 w3 h1 h2;have HO3:=hD h1;have HG3:=hD h2;clear h1 h2))
   have HK3:Hd (∀ z,z<w2.heap.size->(Value.slice pu k cu).ownBlock≠some z->w3.heap[z]?=w2.heap[z]?):=fun z h1 h2=>(HG3.o.grown.block z (by simp only[World.size_alloc];omega) (fun e=>h2 e.symm)).trans (Below.heap_alloc _ _ _ h1)
   have HF3:Hd (Fr (·=X) w w3):=⟨HG3.o.grown.os.trans (HF2.o.os.trans HFr.o.os),HG3.o.grown.tape.trans (HF2.o.tape.trans HFr.o.tape),HG3.o.grown.output.trans (HF2.o.output.trans HFr.o.output),(by have h1:=HG3.o.grown.size;have h2:=HF2.o.size;have h3:=HFr.o.size;simp only[World.size_alloc] at h1;omega),fun q hq hx=>(HK3.o q (by have h2:=HF2.o.size;have h3:=HFr.o.size;omega) (fun e=>by have:=(HOB.o _ e).1;have:=HSZ.o;omega)).trans ((HF2.o.block q (by have h3:=HFr.o.size;omega) hx).trans (HFr.o.block q hq hx))⟩;have HP3:Hd (PktB base w3 X (x.acc ((cs.take (k+1)).any (accC x))) r v f mm fs):=HP2.o.kept fun q hq=>HK3.o q (HP2.o.blk hq).2 (fun e=>by have h1:=(HOB.o _ e).1;have h2:=(HP.o.blk hq).2;have:=HSZ.o;omega)
   have HG4:Hd (GBox w3 w.heap.size s):=(HK3.o _ (by have h2:=HF2.o.size;have h3:=HFr.o.size;have:=HS.o;have:=HSZ.o;omega) (fun e=>by have h1:=(HOB.o _ e).1;have:=HSZ.o;omega)).trans ((HF2.o.block _ (by have:=HS.o;have:=HSZ.o;omega) (by show ¬w.heap.size=X;omega)).trans HGB.o);have HS3:Hd (W0.heap.size<=w3.heap.size):=by show _<=_;have h1:=HG3.o.grown.size;have h2:=HF2.o.size;have:=HS.o;simp only[World.size_alloc] at h1;omega
   have HO4:Hd (NOwn W0.heap.size w3 y3 ((cs.take (k+1)).map (evC x []))):=by
    show NOwn _ _ _ _;have h1:=HO3.o;rw[HMM.o];refine ⟨?_,fun n hn=>?_⟩
    ·rw[List.length_append,HLK.o,List.flatMap_append,List.flatMap_cons,List.flatMap_nil,List.append_nil,HC01.o.1,List.length_singleton];exact h1
    rcases List.mem_append.1 hn with h|h
    ·exact HO2.o.2 n h
    rw[List.mem_singleton.1 h];exact HC01.o.2
   clear hz2;go_wp2_with fail;go_roundw
   case rel=>
    exact ⟨k+1,om,by go_num,HO4.o,HG4.o,HP3.o,HF3.o,HS3.o⟩
   case measure=>exact mz
  have hkN:k=kn:=om;subst hkN;have hkk:¬(k:Int)<(k:Int):=om;have HTK:Hd (cs.take k=cs):=List.take_of_length_le (by have:=HN.o;omega);go_wp2_with fail;go_ret;have ho:=HO.o;have hp:=HPk.o;rw[HTK.o] at ho hp;exact ⟨⟨_,rfl,own_base ho.1 (by have:=HSZ.o;omega),ho.2⟩,hp,HFr.o⟩
open Go.RowKit
def rnA (s:PgS) (lp:Option Addr) (ln lc X:Nat) (gp:Option Addr) (gn gc:Nat) (wi:Bool):Value:= .agg #[.slice s.hp s.hn s.hc, .slice s.mp s.mn s.mc, .slice s.sp s.sn s.sc, .slice s.ap s.an s.ac, .slice s.tp s.tn s.tc, .slice s.cp s.cn s.cc, .slice s.ep s.en s.ec, .slice s.v1 s.n1 s.c1, .slice s.v2 s.n2 s.c2, .slice s.v3 s.n3 s.c3, .slice s.v4 s.n4 s.c4, .slice s.v5 s.n5 s.c5, .slice lp ln lc, .pointer (some ⟨X,0,none⟩), .slice gp gn gc, .bool wi]
def RnBox (W:World) (g:Nat) (s:PgS) (lp:Option Addr) (ln lc X:Nat) (gp:Option Addr) (gn gc:Nat) (wi:Bool):Prop:=W.heap[g]?=some (.cells #[.slice s.hp s.hn s.hc, .slice s.mp s.mn s.mc, .slice s.sp s.sn s.sc, .slice s.ap s.an s.ac, .slice s.tp s.tn s.tc, .slice s.cp s.cn s.cc, .slice s.ep s.en s.ec, .slice s.v1 s.n1 s.c1, .slice s.v2 s.n2 s.c2, .slice s.v3 s.n3 s.c3, .slice s.v4 s.n4 s.c4, .slice s.v5 s.n5 s.c5, .slice lp ln lc, .pointer (some ⟨X,0,none⟩), .slice gp gn gc, .bool wi] 127 (0,0))
theorem RnBox.cells {g:Nat} {lp:Option Addr} {ln lc:Nat} {wi:Bool} (h:RnBox W g s lp ln lc X gp gn gc wi):W.cell? ⟨g,0,none⟩=some (.slice s.hp s.hn s.hc)/\W.cell? ⟨g,1,none⟩=some (.slice s.mp s.mn s.mc)/\W.cell? ⟨g,2,none⟩=some (.slice s.sp s.sn s.sc)/\W.cell? ⟨g,3,none⟩=some (.slice s.ap s.an s.ac)/\W.cell? ⟨g,4,none⟩=some (.slice s.tp s.tn s.tc)/\W.cell? ⟨g,5,none⟩=some (.slice s.cp s.cn s.cc)/\W.cell? ⟨g,6,none⟩=some (.slice s.ep s.en s.ec)/\W.cell? ⟨g,7,none⟩=some (.slice s.v1 s.n1 s.c1)/\W.cell? ⟨g,8,none⟩=some (.slice s.v2 s.n2 s.c2)/\W.cell? ⟨g,9,none⟩=some (.slice s.v3 s.n3 s.c3)/\W.cell? ⟨g,10,none⟩=some (.slice s.v4 s.n4 s.c4)/\W.cell? ⟨g,11,none⟩=some (.slice s.v5 s.n5 s.c5)/\W.cell? ⟨g,12,none⟩=some (.slice lp ln lc)/\W.cell? ⟨g,13,none⟩=some (.pointer (some ⟨X,0,none⟩))/\W.cell? ⟨g,14,none⟩=some (.slice gp gn gc)/\W.cell? ⟨g,15,none⟩=some (.bool wi):=by
 unfold RnBox at h;refine ⟨?_,?_,?_,?_,?_,?_,?_,?_,?_,?_,?_,?_,?_,?_,?_,?_⟩<;>simp[World.cell?,h]
def inA (i:Ist) (ep:Option Addr) (en ec:Nat):Value:= .agg #[.int .u8 i.k, .int .i64 i.a, .int .i64 i.b, .slice ep en ec, .int .i64 i.to]
def IBoxA (W:World) (g:Nat) (i:Ist) (ep:Option Addr) (en ec:Nat):Prop:=W.heap[g]?=some (.cells #[.int .u8 i.k, .int .i64 i.a, .int .i64 i.b, .slice ep en ec, .int .i64 i.to] 86 (0,0))
theorem IBoxA.cells {g:Nat} {i:Ist} (h:IBoxA W g i ep en ec):W.cell? ⟨g,0,none⟩=some (.int .u8 i.k)/\W.cell? ⟨g,1,none⟩=some (.int .i64 i.a)/\W.cell? ⟨g,2,none⟩=some (.int .i64 i.b)/\W.cell? ⟨g,3,none⟩=some (.slice ep en ec)/\W.cell? ⟨g,4,none⟩=some (.int .i64 i.to):=by
 unfold IBoxA at h;exact gQ3
theorem NRow.frA {l:List Nat} (h:NRow W (.slice gp gn gc) l) (hf:Fr S W W') (hn:∀b o,gp=some ⟨b,o,none⟩->¬S b):NRow W' (.slice gp gn gc) l:=by
 obtain ⟨pa,cap,h1,h2,h3,h4,h5⟩:=h;simp only[Value.slice.injEq] at h1;refine ⟨pa,cap,by rw[h1.1,h1.2.1,h1.2.2],h2,h3,h4,fun h0=>?_⟩;obtain ⟨b,o,e1,e2,e4⟩:=h5 h0;have hb:¬S b:=hn b o (by rw[h1.1,e1]);exact ⟨b,o,e1,Nat.lt_of_lt_of_le e2 hf.size,fun j x hj=>by
  obtain ⟨a1,a2,a3⟩:=e4 j x hj;exact ⟨a1,hf.cell (p:=⟨b,_,none⟩) hb a2,hf.cell (p:=⟨b,_,none⟩) hb a3⟩⟩
structure RCtx (w0 w:World) (base X:Nat) (p:Prg) (act:Int) (x:Pkt) (r v f mm:Value) (fs:List Value) (args:List Nat) (gp:Option Addr) (gn gc:Nat):Prop where
 P:PktB base w X x r v f mm fs
 low:Bl w0 w
 hb:w0.heap.size<=base
 F:PktF p x
 po:0<=x.port/\x.port<=511
 ar:0<=act->act<(p.acts.length:Int)->args.length=(p.acts.getD act.toNat ⟨[],[]⟩).params.length
 hg:NRow w (.slice gp gn gc) args
 ga:∀b o,gp=some ⟨b,o,none⟩->¬PS X r v f mm fs b
section
variable {w0 w w':World} {base X:Nat} {p:Prg} {act:Int} {x y:Pkt} {r v f mm:Value} {fs:List Value} {args:List Nat} {gp:Option Addr} {gn gc:Nat}
theorem RCtx.lt (h:RCtx w0 w base X p act x r v f mm fs args gp gn gc) {k:Nat} (hk:PS X r v f mm fs k):w0.heap.size<=k/\k<w.heap.size:=⟨Nat.le_trans h.hb (h.P.blk hk).1,(h.P.blk hk).2⟩
theorem RCtx.step (h:RCtx w0 w base X p act x r v f mm fs args gp gn gc) (hf:Fr (PS X r v f mm fs) w w') (hP:PktB base w' X y r v f mm fs) (hF:PktF p y) (hpo:y.port=x.port):RCtx w0 w' base X p act y r v f mm fs args gp gn gc:=
 ⟨hP,h.low.trans (hf.below h.low.size fun k hk=>(h.lt hk).1),h.hb,hF,by rw[hpo];exact h.po,h.ar,h.hg.frA hf h.ga,h.ga⟩
theorem RCtx.below (h:RCtx w0 w base X p act x r v f mm fs args gp gn gc) (hb:Bl w w'):RCtx w0 w' base X p act x r v f mm fs args gp gn gc:=
 h.step (Fr.of_below hb) (h.P.below hb) h.F rfl
theorem Fr.ps (h:Fr (·=X) w w'):Fr (PS X r v f mm fs) w w':=h.more fun _k e=> .inl e
theorem RCtx.value (h:RCtx w0 w base X p act x r v f mm fs args gp gn gc) (s:PgS) {c:List Nod} {cp:Option Addr} {cn cc:Nat} (hw:widthP p act c=some wt) (hlen:c.length<=6000) (hc:CRow w0 (.slice cp cn cc) c):
 Calls Tryz.prog 100 #[pgV s, .pointer (some ⟨X,0,none⟩), .slice cp cn cc, .slice gp gn gc] w fun e w'=>e= .returned (numV (evC x args c))/\PktB base w' X (x.acc (accC x c)) r v f mm fs/\Fr (·=X) w w':=
 valueA_any s c cp gp cn cc gn gc w hw hlen h.F h.po h.ar h.P (hc.below keepNd h.low) h.hg
theorem rvalueA (h:RCtx w0 w base X p act x r v f mm fs args gp gn gc) (s:PgS) (lp:Option Addr) (ln lc:Nat) (wi:Bool) {i:Ist} (hw:widthP p act i.e=some wt) (hlen:i.e.length<=6000) (hc:CRow w0 (.slice ep en ec) i.e):
 Calls Tryz.prog 94 #[rnA s lp ln lc X gp gn gc wi,inA i ep en ec] w fun e w'=>e= .returned (numV (evC x args i.e))/\PktB base w' X (seen x i.e) r v f mm fs/\Fr (·=X) w w':=by
 have HV:Hd (∀ W,Bl w W->Calls Tryz.prog 100 #[pgV s, .pointer (some ⟨X,0,none⟩), .slice ep en ec, .slice gp gn gc] W fun e w'=>e= .returned (numV (evC x args i.e))/\PktB base w' X (seen x i.e) r v f mm fs/\Fr (·=X) W w'):=fun W hb=>(h.below hb).value s hw hlen hc
 have hXl:=h.P.lt;have HPS:Hd (∀ k,PS X r v f mm fs k->k<w.heap.size):=fun k hk=>(h.lt hk).2
 clear h hw hlen hc;generalize evC x args i.e=R at*;obtain ⟨y3,z3,he3,-,-⟩:=numV_parts R;have HE3:=hD he3;rw[he3] at HV;clear he3;unfold rnA inA;unfold pgV at HV;go_enter Tryz.func94,Tryz.ntmps94;go_upto_region 1 with fail;obtain ⟨W0,hW0⟩:=nm (((w.alloc (.cells #[.slice s.hp s.hn s.hc, .slice s.mp s.mn s.mc, .slice s.sp s.sn s.sc, .slice s.ap s.an s.ac, .slice s.tp s.tn s.tc, .slice s.cp s.cn s.cc, .slice s.ep s.en s.ec, .slice s.v1 s.n1 s.c1, .slice s.v2 s.n2 s.c2, .slice s.v3 s.n3 s.c3, .slice s.v4 s.n4 s.c4, .slice s.v5 s.n5 s.c5, .slice lp ln lc, .pointer (some ⟨X,0,none⟩), .slice gp gn gc, .bool wi] 127)).alloc (.cells #[.int .u8 i.k, .int .i64 i.a, .int .i64 i.b, .slice ep en ec, .int .i64 i.to] 86)).alloc (.cells #[.int .u64 0, .int .u64 0] 82));have HB0:Hd (Bl w W0):=by show Below _ _ _;rw[hW0];exact bL
 have HR0:Hd (RnBox W0 w.heap.size s lp ln lc X gp gn gc wi):=by show _=_;rw[hW0,Below.heap_alloc _ _ _ (by simp;omega),Below.heap_alloc _ _ _ sm];exact heap_new _ _
 have HI0:Hd (IBoxA W0 (w.heap.size+1) i ep en ec):=by
  show _=_;rw[hW0,Below.heap_alloc _ _ _ sm];exact hq2 _ _ _
 have HX0:Hd (Bx2 W0 (w.heap.size+1+1) 0 0):=by
  show _=_;rw[hW0];exact hq3 _ _ _ _
 have hsz:W0.heap.size=w.heap.size+1+1+1:=by rw[hW0];simp
 rw[<- hW0];clear hW0;obtain ⟨r0,r1,r2,r3,r4,r5,r6,r7,r8,r9,r10,r11,r12,r13,r14,r15⟩:=HR0.o.cells;obtain ⟨j0,j1,j2,j3,j4⟩:=HI0.o.cells;go_wp2_with (go_at_call 100;refine (HV.o _ HB0.o).mono ?_;rintro e w1 ⟨rfl,hp1,hf1⟩;have HP1:=hD hp1;have HF1:=hD hf1;have hX1:Bx2 w1 (w.heap.size+1+1) 0 0:=(hf1.block _ om (by show ¬w.heap.size+1+1=X;omega)).trans HX0.o;obtain ⟨b0,b1,b2,b3⟩:=hX1.cells;clear hp1 hf1 hX1);refine bodyPost_ret (v:= .agg #[.int .u64 (y3:Int), .int .u64 (z3:Int)]) (by simp[results,Tryz.results94,go_sem,b0,b1]) rfl ⟨by rw[HE3.o],?_,?_⟩
 ·exact HP1.o.kept fun k hk=>set2_other w1 (w.heap.size+1+1) 0 1 _ _ (by have:=HPS.o k hk;omega)
 exact (((Fr.of_below HB0.o).trans HF1.o).set (.inr om) _).set (.inr om) _
end
open Go.RowKit
theorem zero_num (w:World):(zeroValue 82).run Tryz.prog w= .ok (.agg #[.int .u64 0, .int .u64 0]) w:=by kernel_rfl
theorem flat_zero:∀n:Nat,(List.replicate n 0).flatMap numC=List.replicate (n*2) (Value.int .u64 0)
 |0=>rfl
 |n+1=>by
  rw[List.replicate_succ,List.flatMap_cons,flat_zero n,show (n+1)*2=n*2+1+1 by omega,List.replicate_succ,List.replicate_succ];rfl
theorem zeroC_num (n:Nat):(Builtin.zeroCells (Value.agg #[.int .u64 0, .int .u64 0]).cells n).toList=List.replicate (n*2) (Value.int .u64 0):=by
 refine List.eq_replicate_iff.2 ⟨by simp[Builtin.zeroCells,Value.cells],fun v hv=>?_⟩;simp only[Builtin.zeroCells,Array.toList_map,List.mem_map] at hv;obtain ⟨i,-,rfl⟩:=hv;show (#[Value.int .u64 0, .int .u64 0]:Array Value)[i%2]! =_;have h:i%2=0\/i%2=1:=om;rcases h with h|h<;>rw[h]<;>rfl
theorem clear_eq {P:Program} {w':World} {a:Addr} {n cap:Nat} {ty t e:TypeId} {z:Value} (ht:P.underlying t=some (.slice e)) (hz:(zeroValue e).run P w= .ok z w) (hs:(storeCells a (Builtin.zeroCells z.cells (n+1)).toList).run P w= .ok () w'):
 (Builtin.clear_ #[t] ty #[.slice (some a) (n+1) cap]).run P w= .ok (.tuple #[]) w':=by
 unfold Builtin.clear_;simp[run_underlying ht,Sem.run_bind,Result.andThen,hz,hs]
theorem clear_own {l:List Nat} (hu:NOwn base w u l):∃w',(∀ ty,(Builtin.clear_ #[43] ty #[u]).run Tryz.prog w= .ok (.tuple #[]) w')/\NOwn base w' u (l.map fun _=>0)/\(∀ k,u.ownBlock≠some k->w'.heap[k]?=w.heap[k]?)/\Below base w w'/\w'.heap.size=w.heap.size:=by
 have hz:Nums (l.map fun _=>0):=fun n hn=>by obtain ⟨_,_,rfl⟩:=List.mem_map.1 hn;decide
 obtain ⟨h1,h2⟩:=hu;by_cases hl:l.length=0
 ·obtain rfl:=List.eq_nil_of_length_eq_zero hl;refine ⟨w,fun ty=>?_,⟨h1,h2⟩,fun _ _=>rfl,Below.refl _ _,rfl⟩;obtain ⟨-,⟨rfl,-⟩|⟨g,cap,cur,rfl,-⟩⟩:=h1
  ·simp[Builtin.clear_,run_underlying Tryz.underlying43]
  simp[Builtin.clear_,run_underlying Tryz.underlying43]
 obtain ⟨hlen,⟨-,h0⟩|⟨g,cap,cur,rfl,g1,g2,g3,g4,g5,g6⟩⟩:=h1
 ·omega
 have hfl:(l.flatMap numC).length=l.length*2:=flat_len flatGN.len l;have hzs:(List.replicate (l.length*2) (Value.int .u64 0)).length=l.length*2:=by simp
 have hrun:=run_storeCells_at (P:=Tryz.prog) g 0 _ (List.replicate (l.length*2) (Value.int .u64 0)) 0 cur w g2 (by rw[hzs,g5];have:=Nat.mul_le_mul_right 2 g3;omega) (fun v hv=>by rw[List.eq_of_mem_replicate hv];rfl);refine ⟨w.setRow g (cur.toList.take (0+0)++List.replicate (l.length*2) (Value.int .u64 0)++cur.toList.drop (0+0+(List.replicate (l.length*2) (Value.int .u64 0)).length)).toArray,fun ty=>?_,⟨⟨by rw[flat_len flatGN.len], .inr ⟨g,cap,_,by simp,g1,setRow_heap w g cur _ _ _ g2,by simpa using g3,g4,?_,?_⟩⟩,hz⟩,fun k hk=>setRow_other w g k _ (fun e=>hk (by simp[e,Value.ownBlock])),?_,by simp⟩
 ·obtain ⟨n,hn⟩:∃n,l.length=n+1:=⟨l.length-1,om⟩;rw[hn] at hrun⊢;exact clear_eq Tryz.underlying43 (zero_num w) (by rw[zeroC_num];exact hrun)
 ·rw[List.size_toArray,List.length_append,List.length_append,List.length_take,List.length_drop,Array.length_toList,hzs];have:=Nat.mul_le_mul_right 2 g3;omega
 ·rw[List.map_const',flat_zero,List.length_replicate];simp
 exact ⟨rfl,rfl,rfl,by simp,fun k hk=>setRow_other w g k _ om⟩
theorem PktB.rowTo {w':World} {x:Pkt} {v m:Value} (h:PktB base w X x r v f m fs) {i:Nat} {l l':List Nat} (hi:fs[i]?=some u) (hl:x.fields[i]?=some l) (hu:NOwn base w' u l') (hk:∀k,u.ownBlock≠some k->w'.heap[k]?=w.heap[k]?):
 PktB base w' X { x with fields:=x.fields.set i l' } r v f m fs:=by
 have ha:([r,v,f,m]++fs)[4+i]?=some u:=by
  rw[List.getElem?_append_right sm];simpa using hi
 have hne:∀(b:Nat) (z:Value),([r,v,f,m]++fs)[b]?=some z->b≠4+i->∀k,z.ownBlock=some k->w'.heap[k]?=w.heap[k]?:=fun b z hb hbi k hz=>hk k fun e=>blocks_ne h.nd2 ha hb (fun q=>hbi q.symm) e hz rfl
 refine ⟨(hk X fun e=>h.nX ha e rfl).trans h.st,own_far h.hr (hne 0 r rfl om),own_far h.hv (hne 1 v rfl om),?_,fun a z l2 h1 h2=>?_,h.hm.far (hne 3 m rfl om),h.lo,h.nd⟩
 ·have:=own_far h.hf (hne 2 f rfl om);simpa using this
 by_cases e:a=i
 ·subst e;rw[hi] at h1;cases h1;have hlt:=(gL_ hl).1;rw[show ({ x with fields:=x.fields.set a l' }:Pkt).fields=x.fields.set a l' from rfl,List.getElem?_set_self hlt] at h2;cases h2;exact hu
 rw[show ({ x with fields:=x.fields.set i l' }:Pkt).fields=x.fields.set i l' from rfl,List.getElem?_set_ne (fun q=>e q.symm)] at h2;refine (h.hfs a z l2 h1 h2).far (hne (4+a) z ?_ om);exact gB3
theorem validA_any {x:Pkt} {v:Value} (hP:PktB base w X x r v f mm fs) {h:Nat} {l:List Nat} (on:Bool) (hl:x.fields[h]?=some l) (hv:x.valid[h]?=some vb):
 Calls Tryz.prog 116 #[.pointer (some ⟨X,0,none⟩), .int .i64 (h:Int), .bool on] w fun e w'=>e= .returned (.tuple #[])/\PktB base w' X (validF x (h:Int) on) r v f mm fs/\Fr (PS X r v f mm fs) w w':=by
 obtain ⟨Y,hY⟩:=nm (validF x (h:Int) on);rw[<- hY];have h1:=(gL_ hv).1;have h2:=(gL_ hl).1;have hgv:x.valid.getD h false=vb:=by rw[List.getD_eq_getElem?_getD,hv];rfl
 have hgl:x.fields.getD h []=l:=by rw[List.getD_eq_getElem?_getD,hl];rfl
 have hY2:Y=if vb≠on then { x with valid:=x.valid.set h on,fields:=x.fields.set h (l.map fun _=>0) } else x:=by
  rw[hY];unfold validF;rw[Int.toNat_natCast,hgv,hgl];by_cases e:vb≠on
  ·rw[if_pos ⟨om,om,om,e⟩,if_pos e]
  rw[if_neg (fun hc=>e hc.2.2.2),if_neg e]
 have HYV:=hD hY2;have HP:=hD hP;have HHV:=hD hv;have HHL:=hD hl;have HAS:Hd (∀ W,Bl w W->CR 57 #[.pointer (some ⟨X,0,none⟩), .int .i64 (h:Int)] W (.bool true)):=fun W hb=>has_true (hP.below hb) h h1 h2
 have i1:(h:Int)<(x.valid.length:Int):=om;have i2:(h:Int)<(x.fields.length:Int):=om;clear hY hY2 hP hl hv h1 h2 hgv hgl;by_cases hvo:vb=on
 ·subst hvo;have HYX:Hd (Y=x):=by show _=_;rw[HYV.o,if_neg sm]
  go_enter Tryz.func116,Tryz.ntmps116;go_wp2_with (first|(go_at_call 57;refine (HAS.o _ br).mono ?_;rintro e w1 ⟨rfl,hb1⟩;have HB1:=hD hb1;have HP1:=hD (HP.o.below hb1);clear hb1;obtain ⟨vg,vc,hve,-,cv⟩:=HP1.o.getValid HHV.o;have c2:=HP1.o.cell (i:=2) rfl;rw[hve] at c2;clear hve)|fail);exact bodyPost_ret (v:= .tuple #[]) (by simp[results,Tryz.results116,go_sem]) rfl ⟨rfl,by rw[HYX.o];exact HP1.o,Fr.of_below HB1.o⟩
 have hbe:(vb==on)=false:=by cases vb<;>cases on<;>simp_all
 have HYX:Hd (Y={ x with valid:=x.valid.set h on,fields:=x.fields.set h (l.map fun _=>0) }):=by show _=_;rw[HYV.o,if_pos hvo]
 go_enter Tryz.func116,Tryz.ntmps116;go_upto_region 1 with (first|(go_at_call 57;refine (HAS.o _ br).mono ?_;rintro e w1 ⟨rfl,hb1⟩;have HB1:=hD hb1;have HP1:=hD (HP.o.below hb1);clear hb1;obtain ⟨vg,vc,hve,-,cv⟩:=HP1.o.getValid HHV.o;have c2:=HP1.o.cell (i:=2) rfl;have HVE:=hD hve;rw[hve] at c2;clear hve)|fail);obtain ⟨g,cap,hve2,-,-,-,-,g5,-,hPs⟩:=HP1.o.valid on (j:=h) om;have f0:=g5 h;have hgg:g=vg/\cap=vc:=by
  have:=hve2.symm.trans HVE.o;simp only[Value.slice.injEq,Option.some.injEq,Addr.mk.injEq,and_true,true_and] at this;exact this
 obtain ⟨rfl,rfl⟩:=hgg;clear hve2 g5;go_upto_region 2 with fail;obtain ⟨W2,hW2⟩:=nm (w1.setCell ⟨g,h,none⟩ (.bool on));have HF2:Hd (Fr (PS X r v f mm fs) w W2):=by
  show Fr _ _ _;rw[hW2];exact (Fr.of_below HB1.o).set (.inl (.inr ⟨v,by simp,by rw[HVE.o];rfl⟩)) _
 rw[<- hW2] at hPs⊢;clear hW2 c2 cv f0;have HP2:=hD hPs;clear hPs;obtain ⟨fg,fc,u,hfe,-,cf,hu,hnu⟩:=HP2.o.getRow HHL.o;have c3:=HP2.o.cell (i:=3) rfl;have HFE:=hD hfe;rw[hfe] at c3;clear hfe;obtain ⟨up,uc,rfl,-⟩:=hnu.row.shape;obtain ⟨w3,hrun,hno,hk3,hB3,hz3⟩:=clear_own hnu;have HR:=hD (And.intro hno (And.intro hk3 (And.intro hB3 hz3)));have HU:=hD hu;have i3:(h:Int)<((x.fields.length:Nat):Int):=i2;clear hnu hno hk3 hB3 hz3 hu;go_wp2_with fail;go_end0;obtain ⟨hno,hk3,hB3,hz3⟩:=HR.o;refine ⟨rfl,?_,HF2.o.trans ⟨hB3.os,hB3.tape,hB3.output,hB3.size,fun k hk hs=>hk3 k fun e=>hs (.inr ⟨_,by simp[gM_ HU.o],e⟩)⟩⟩;rw[HYX.o];exact HP2.o.rowTo HU.o HHL.o hno hk3
end Go.Proofs.YtikilcbpogfgkaaGreat
