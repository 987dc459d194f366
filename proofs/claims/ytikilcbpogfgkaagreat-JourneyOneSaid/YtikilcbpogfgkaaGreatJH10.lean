/- Lemmas. -/
import Derived.Test.YtikilcbpogfgkaaGreatJH09
set_option maxHeartbeats 3200000
set_option maxRecDepth 100000
namespace Go.Proofs.YtikilcbpogfgkaaGreat
open Go.RowKit
variable {w act:Int} {g k at' b E:Nat} {c:List Ist} {ap:Pkt->Ist->Pkt} {args:List Nat} {x:Pkt} {n:Nod} {xs:List Value}
def set9 (w:World) (g:Nat) (b0 b1 b2 b3 b4 b5 b6 b7 b8:Value):World:=(((((((((w.setCell ⟨g,0,none⟩ b0).setCell ⟨g,1,none⟩ b1).setCell ⟨g,2,none⟩ b2).setCell ⟨g,3,none⟩ b3).setCell ⟨g,4,none⟩ b4).setCell ⟨g,5,none⟩ b5).setCell ⟨g,6,none⟩ b6).setCell ⟨g,7,none⟩ b7).setCell ⟨g,8,none⟩ b8)
theorem set9_heap {w:World} {t:TypeId} {a0 a1 a2 a3 a4 a5 a6 a7 a8:Value} (b0 b1 b2 b3 b4 b5 b6 b7 b8:Value) (h:w.heap[g]?=some (.cells #[a0,a1,a2,a3,a4,a5,a6,a7,a8] t (0,0))):(set9 w g b0 b1 b2 b3 b4 b5 b6 b7 b8).heap[g]?=some (.cells #[b0,b1,b2,b3,b4,b5,b6,b7,b8] t (0,0)):=by
 have h0:(w.setCell ⟨g,0,none⟩ b0).heap[g]?=some (.cells #[b0,a1,a2,a3,a4,a5,a6,a7,a8] t (0,0)):=heap_setCell_same w g 0 _ t b0 h;have h1:((w.setCell ⟨g,0,none⟩ b0).setCell ⟨g,1,none⟩ b1).heap[g]?=some (.cells #[b0,b1,a2,a3,a4,a5,a6,a7,a8] t (0,0)):=heap_setCell_same (w.setCell ⟨g,0,none⟩ b0) g 1 _ t b1 h0;have h2:(((w.setCell ⟨g,0,none⟩ b0).setCell ⟨g,1,none⟩ b1).setCell ⟨g,2,none⟩ b2).heap[g]?=some (.cells #[b0,b1,b2,a3,a4,a5,a6,a7,a8] t (0,0)):=heap_setCell_same ((w.setCell ⟨g,0,none⟩ b0).setCell ⟨g,1,none⟩ b1) g 2 _ t b2 h1;have h3:((((w.setCell ⟨g,0,none⟩ b0).setCell ⟨g,1,none⟩ b1).setCell ⟨g,2,none⟩ b2).setCell ⟨g,3,none⟩ b3).heap[g]?=some (.cells #[b0,b1,b2,b3,a4,a5,a6,a7,a8] t (0,0)):=heap_setCell_same (((w.setCell ⟨g,0,none⟩ b0).setCell ⟨g,1,none⟩ b1).setCell ⟨g,2,none⟩ b2) g 3 _ t b3 h2;have h4:(((((w.setCell ⟨g,0,none⟩ b0).setCell ⟨g,1,none⟩ b1).setCell ⟨g,2,none⟩ b2).setCell ⟨g,3,none⟩ b3).setCell ⟨g,4,none⟩ b4).heap[g]?=some (.cells #[b0,b1,b2,b3,b4,a5,a6,a7,a8] t (0,0)):=heap_setCell_same ((((w.setCell ⟨g,0,none⟩ b0).setCell ⟨g,1,none⟩ b1).setCell ⟨g,2,none⟩ b2).setCell ⟨g,3,none⟩ b3) g 4 _ t b4 h3;have h5:((((((w.setCell ⟨g,0,none⟩ b0).setCell ⟨g,1,none⟩ b1).setCell ⟨g,2,none⟩ b2).setCell ⟨g,3,none⟩ b3).setCell ⟨g,4,none⟩ b4).setCell ⟨g,5,none⟩ b5).heap[g]?=some (.cells #[b0,b1,b2,b3,b4,b5,a6,a7,a8] t (0,0)):=heap_setCell_same (((((w.setCell ⟨g,0,none⟩ b0).setCell ⟨g,1,none⟩ b1).setCell ⟨g,2,none⟩ b2).setCell ⟨g,3,none⟩ b3).setCell ⟨g,4,none⟩ b4) g 5 _ t b5 h4;have h6:(((((((w.setCell ⟨g,0,none⟩ b0).setCell ⟨g,1,none⟩ b1).setCell ⟨g,2,none⟩ b2).setCell ⟨g,3,none⟩ b3).setCell ⟨g,4,none⟩ b4).setCell ⟨g,5,none⟩ b5).setCell ⟨g,6,none⟩ b6).heap[g]?=some (.cells #[b0,b1,b2,b3,b4,b5,b6,a7,a8] t (0,0)):=heap_setCell_same ((((((w.setCell ⟨g,0,none⟩ b0).setCell ⟨g,1,none⟩ b1).setCell ⟨g,2,none⟩ b2).setCell ⟨g,3,none⟩ b3).setCell ⟨g,4,none⟩ b4).setCell ⟨g,5,none⟩ b5) g 6 _ t b6 h5;have h7:((((((((w.setCell ⟨g,0,none⟩ b0).setCell ⟨g,1,none⟩ b1).setCell ⟨g,2,none⟩ b2).setCell ⟨g,3,none⟩ b3).setCell ⟨g,4,none⟩ b4).setCell ⟨g,5,none⟩ b5).setCell ⟨g,6,none⟩ b6).setCell ⟨g,7,none⟩ b7).heap[g]?=some (.cells #[b0,b1,b2,b3,b4,b5,b6,b7,a8] t (0,0)):=heap_setCell_same (((((((w.setCell ⟨g,0,none⟩ b0).setCell ⟨g,1,none⟩ b1).setCell ⟨g,2,none⟩ b2).setCell ⟨g,3,none⟩ b3).setCell ⟨g,4,none⟩ b4).setCell ⟨g,5,none⟩ b5).setCell ⟨g,6,none⟩ b6) g 7 _ t b7 h6;have h8:(((((((((w.setCell ⟨g,0,none⟩ b0).setCell ⟨g,1,none⟩ b1).setCell ⟨g,2,none⟩ b2).setCell ⟨g,3,none⟩ b3).setCell ⟨g,4,none⟩ b4).setCell ⟨g,5,none⟩ b5).setCell ⟨g,6,none⟩ b6).setCell ⟨g,7,none⟩ b7).setCell ⟨g,8,none⟩ b8).heap[g]?=some (.cells #[b0,b1,b2,b3,b4,b5,b6,b7,b8] t (0,0)):=heap_setCell_same ((((((((w.setCell ⟨g,0,none⟩ b0).setCell ⟨g,1,none⟩ b1).setCell ⟨g,2,none⟩ b2).setCell ⟨g,3,none⟩ b3).setCell ⟨g,4,none⟩ b4).setCell ⟨g,5,none⟩ b5).setCell ⟨g,6,none⟩ b6).setCell ⟨g,7,none⟩ b7) g 8 _ t b8 h7;exact h8
theorem set9_other (w:World) (b0 b1 b2 b3 b4 b5 b6 b7 b8:Value) (h:k≠g):(set9 w g b0 b1 b2 b3 b4 b5 b6 b7 b8).heap[k]?=w.heap[k]?:=by
 unfold set9;rw[setCell_heap h,setCell_heap h,setCell_heap h,setCell_heap h,setCell_heap h,setCell_heap h,setCell_heap h,setCell_heap h,setCell_heap h]
theorem set9_below {B:Nat} {w0 w:World} (b0 b1 b2 b3 b4 b5 b6 b7 b8:Value) (h:Below B w0 w) (hg:B<=g):Below B w0 (set9 w g b0 b1 b2 b3 b4 b5 b6 b7 b8):=by
 unfold set9;exact ((((((((h.setCell hg b0).setCell hg b1).setCell hg b2).setCell hg b3).setCell hg b4).setCell hg b5).setCell hg b6).setCell hg b7).setCell hg b8
open Stab
def JumpsOk (c:List Ist):Prop:=∀(j:Nat) (i:Ist),c[j]?=some i->(i.k=7\/i.k=8)->(j:Int)<i.to/\i.to<=(c.length:Int)
theorem mayInst_jump {p:Prg} {i:Ist} {j many:Nat} (h:mayInstP p act i j many=true) (hk:i.k=7\/i.k=8):(j:Int)<i.to/\i.to<=(many:Int):=by
 unfold mayInstP at h;split at h
 ·cases h
 ·rw[Bool.and_eq_true,if_pos hk] at h;exact of_decide_eq_true h.1
theorem mayInsts_jumps {p:Prg} {l:List Ist} (h:mayInstsP p act l=true):JumpsOk l:=by
 intro j i hj hk;unfold mayInstsP at h;rw[Bool.and_eq_true] at h;have:=allIdx_iff.1 h.2 j i hj;rw[Nat.zero_add] at this;exact mayInst_jump this hk
theorem mayInsts_len {p:Prg} {l:List Ist} (h:mayInstsP p act l=true):l.length<=65536:=by
 unfold mayInstsP at h;rw[Bool.and_eq_true] at h;exact of_decide_eq_true h.1
theorem istAt_some (h:k<c.length):c[k]?=some (istAt c k):=some_getD _ h
theorem nextI_gt (hc:JumpsOk c) (args:List Nat) (x:Pkt) (h:at'<c.length):at'<nextI args x (istAt c at') at':=by
 unfold nextI;split
 ·rename_i h1;have:=hc at' _ (istAt_some h) (by rcases h1 with h1|h1;exact .inr h1;exact .inl h1.1);omega
 ·omega
theorem nextI_le (hc:JumpsOk c) (args:List Nat) (x:Pkt) (h:at'<c.length):nextI args x (istAt c at') at'<=c.length:=by
 unfold nextI;split
 ·rename_i h1;have:=hc at' _ (istAt_some h) (by rcases h1 with h1|h1;exact .inr h1;exact .inl h1.1);omega
 ·omega
theorem runF_fuel {p:Prg} (hc:JumpsOk c):∀(k1 k2 at':Nat) (x:Pkt),c.length-at'<=k1->c.length-at'<=k2->runF p ap args c k1 at' x=runF p ap args c k2 at' x:=by
 intro k1;induction k1 with
 |zero=>
  intro k2 at' x h1 h2;cases k2 with
  |zero=>rfl
  |succ k2=>rw[runF,runF,if_neg om]
 |succ k1 ih=>
  intro k2 at' x h1 h2;cases k2 with
  |zero=>rw[runF,runF,if_neg om]
  |succ k2=>
   rw[runF,runF];by_cases hlt:at'<c.length
   ·rw[if_pos hlt,if_pos hlt];have:=nextI_gt hc args x hlt;exact ih k2 _ _ om om
   ·rw[if_neg hlt,if_neg hlt]
def doI (p:Prg) (ap:Pkt->Ist->Pkt) (args:List Nat) (x:Pkt) (i:Ist):Pkt:=if i.k=3 then ap x i else execB p args x i
def runFrom (p:Prg) (ap:Pkt->Ist->Pkt) (args:List Nat) (c:List Ist) (at':Nat) (x:Pkt):Pkt:=runF p ap args c c.length at' x
theorem runFrom_stop {p:Prg} (h:c.length<=at'):runFrom p ap args c at' x=x:=by
 unfold runFrom;cases hk:c.length with
 |zero=>rfl
 |succ k=>rw[runF,if_neg om]
theorem runFrom_step {p:Prg} (hc:JumpsOk c) (h:at'<c.length):runFrom p ap args c at' x=runFrom p ap args c (nextI args x (istAt c at') at') (doI p ap args x (istAt c at')):=by
 have hg:=nextI_gt hc args x h;unfold runFrom;obtain ⟨k,hk⟩:∃k,c.length=k+1:=⟨c.length-1,om⟩;rw[runF_fuel hc c.length (k+1) at' x om om,runF,if_pos h];exact runF_fuel hc _ _ _ _ om om
theorem instW_set {p:Prg} {i:Ist} (h:instW p act i=some w) (hk:i.k=1):0<=i.a/\i.a<(p.heads.length:Int)/\0<=i.b/\i.b<((p.heads.getD i.a.toNat []).length:Int)/\w=(p.heads.getD i.a.toNat []).getD i.b.toNat 0:=by
 unfold instW at h;rw[if_pos hk] at h;split at h
 ·rename_i e;cases h;exact ⟨e.1,e.2.1,e.2.2.1,e.2.2.2,rfl⟩
 ·cases h
theorem instW_meta {p:Prg} {i:Ist} (h:instW p act i=some w) (hk:i.k=2):0<=i.a/\i.a<(p.metas.length:Int)/\i.b=0/\w=p.metas.getD i.a.toNat 0:=by
 unfold instW at h;rw[if_neg om,if_pos hk] at h;split at h
 ·rename_i e;cases h;exact ⟨e.1,e.2.1,e.2.2,rfl⟩
 ·cases h
theorem instW_apply {p:Prg} {i:Ist} (h:instW p act i=some w) (hk:i.k=3):act<0/\0<=i.a/\i.a<(p.tabs.length:Int)/\i.b=0/\w=0:=by
 unfold instW at h;rw[if_neg om,if_neg om,if_pos hk] at h;split at h
 ·rename_i e;cases h;exact ⟨e.1,e.2.1,e.2.2.1,e.2.2.2,rfl⟩
 ·cases h
theorem instW_valid {p:Prg} {i:Ist} (h:instW p act i=some w) (hk:i.k=6):0<=i.a/\i.a<(p.heads.length:Int)/\(i.b=0\/i.b=1)/\w=0:=by
 unfold instW at h;rw[if_neg om,if_neg om,if_neg om,if_pos hk] at h;split at h
 ·rename_i e;cases h;exact ⟨e.1,e.2.1,e.2.2,rfl⟩
 ·cases h
theorem instW_rest {p:Prg} {i:Ist} (h:instW p act i=some w) (h1:i.k≠1) (h2:i.k≠2) (h3:i.k≠3) (h6:i.k≠6):(i.k=7/\w=1)\/(i.k=5/\w=9)\/(i.k=4/\w=0)\/(i.k=8/\w=0):=by
 unfold instW at h;rw[if_neg h1,if_neg h2,if_neg h3,if_neg h6] at h;split at h
 ·rename_i hk;split at h
  ·cases h;rcases hk with hk|hk|hk|hk
   ·exact .inl ⟨hk,by rw[if_pos hk]⟩
   ·exact .inr (.inl ⟨hk,by rw[if_neg om,if_pos hk]⟩)
   ·exact .inr (.inr (.inl ⟨hk,by rw[if_neg om,if_neg om]⟩))
   ·exact .inr (.inr (.inr ⟨hk,by rw[if_neg om,if_neg om]⟩))
  ·cases h
 ·cases h
theorem ofP_pos {l:List Int} {i:Int} (h:0<ofP l i):0<=i/\i<(l.length:Int):=by
 unfold ofP at h;split at h
 ·omega
 ·omega
theorem leaf_field {p:Prg} (h:plain0P p act n=n.w) (hok:okP n.w=true) (hk:n.op=2):0<=n.a/\n.a<(p.heads.length:Int)/\0<=n.b/\n.b<((p.heads.getD n.a.toNat []).length:Int):=by
 rw[okP_iff] at hok;unfold plain0P at h;rw[if_neg om] at h;split at h
 ·omega
 ·split at h
  ·rename_i e;have:=ofP_pos (l:=p.heads.getD n.a.toNat []) (i:=n.b) om;exact ⟨e.1,e.2,this.1,this.2⟩
  ·omega
theorem leaf_meta {p:Prg} (h:plain0P p act n=n.w) (hok:okP n.w=true) (hk:n.op=3):0<=n.a/\n.a<(p.metas.length:Int):=by
 rw[okP_iff] at hok;unfold plain0P at h;rw[if_neg om] at h;split at h
 ·omega
 ·exact ofP_pos om
theorem leaf_param {p:Prg} (h:plain0P p act n=n.w) (hok:okP n.w=true) (hk:n.op=4):0<=act/\act<(p.acts.length:Int)/\0<=n.a/\n.a<(((p.acts.getD act.toNat ⟨[],[]⟩).params.length:Nat):Int):=by
 rw[okP_iff] at hok;unfold plain0P at h;rw[if_neg om] at h;split at h
 ·omega
 ·rw[if_neg (show ¬n.op=2 by omega),if_neg (show ¬n.op=3 by omega)] at h;split at h
  ·rename_i e;have:=ofP_pos (l:=(p.acts.getD act.toNat ⟨[],[]⟩).params) (i:=n.a) om;exact ⟨e.1,e.2,this.1,this.2⟩
  ·omega
theorem leaf_valid {p:Prg} (h:plain0P p act n=n.w) (hok:okP n.w=true) (hk:n.op=6):0<=n.a/\n.a<(p.heads.length:Int):=by
 rw[okP_iff] at hok;unfold plain0P at h;rw[if_neg om] at h;split at h
 ·omega
 ·rw[if_neg (show ¬n.op=2 by omega),if_neg (show ¬n.op=3 by omega),if_neg (show ¬n.op=4 by omega),if_neg (show ¬n.op=5 by omega)] at h;split at h
  ·assumption
  ·omega
open Go.RowKit
section
variable {b:Nat} {c0 c1:Int} {c:List Value} {W W':World}
theorem lt_some {W:World} {o:Obj} (h:W.heap[g]?=some o):g<W.heap.size:=(gA_ h).1
end
open Go.RowKit
theorem own_sh {w:World} {sz n:Nat} {v:Value} (h:w.ownsRow b E sz v n xs):∃p c,v= .slice p n c:=by
 obtain ⟨-,⟨rfl,rfl⟩|⟨g,cap,cur,rfl,-⟩⟩:=h
 ·exact ⟨_,_,rfl⟩
 ·exact ⟨_,_,rfl⟩
def AnsO (po eg:Int) (dr se ac:Bool) (base:Nat) (w:World) (x:Pkt) (e:Ending):Prop:=∃r v f m fs,e= .returned (.agg #[.int .i64 po,r,v,f,m, .bool dr, .bool se, .int .i64 eg, .bool ac])/\PktO base w x r v f m fs
open Go.RowKit
theorem own_raise {w:World} {b' size n:Nat} {v:Value} (h:w.ownsRow b E size v n xs) (hb:∀k,v.ownBlock=some k->b'<=k):w.ownsRow b' E size v n xs:=by
 obtain ⟨h1,h2⟩:=h;refine ⟨h1,?_⟩;rcases h2 with h2|⟨g,cap,cur,h3,h4,h5⟩
 ·exact .inl h2
 ·exact .inr ⟨g,cap,cur,h3,hb g (by rw[h3];rfl),h5⟩
open Go.RowKit
theorem zero_flat (n:Nat):(madeCells #[.int .u64 0, .int .u64 0] (n*2)).toList=(List.replicate n 0).flatMap numC:=by
 have h1:(madeCells #[.int .u64 0, .int .u64 0] (n*2)).toList=List.replicate (n*2) (.int .u64 0):=by
  rw[List.eq_replicate_iff];refine ⟨by rw[Array.length_toList,size_madeCells],fun b hb=>?_⟩;unfold madeCells at hb;rw[Array.mem_toList_iff,Array.mem_map] at hb;obtain ⟨a,-,rfl⟩:=hb;rcases Nat.mod_two_eq_zero_or_one a with h|h
  ·show (#[Value.int .u64 0, .int .u64 0][a%2]!)=_;rw[h];rfl
  ·show (#[Value.int .u64 0, .int .u64 0][a%2]!)=_;rw[h];rfl
 have h2:(List.replicate n 0).flatMap numC=List.replicate (n*2) (.int .u64 0):=by
  rw[List.eq_replicate_iff];refine ⟨by rw[flat_len flatGN.len,List.length_replicate],fun b hb=>?_⟩;obtain ⟨a,ha,hb⟩:=List.mem_flatMap.1 hb;rw[List.mem_replicate] at ha;rw[ha.2] at hb;have e:numC 0=[.int .u64 0, .int .u64 0]:=by simp[numC]
  rw[e] at hb;simpa using hb
 rw[h1,h2]
section
variable {base:Nat} {w w':World} {X:Nat} {x:Pkt} {r v f m:Value} {fs:List Value}
end
open Go.RowKit Stab
def FewB (l:List Ent):Prop:=∀k:Nat,k<l.length->(eAt l k).pats.length<=1000000/\(eAt l k).args.length<=1000000
theorem chooseB_any (l:List Ent) (tab:Int) (ks:List Nat) (lv kv:Value) (w:World) (hl:ERow w lv l) (hk:NRow w kv ks) (hn:l.length<=40) (hf:FewB l):
 Calls Tryz.prog 123 #[lv, .int .i64 tab,kv] w (RetBest w l tab ks):=by
 obtain ⟨la,lc,rfl,hc1,hc2⟩:=hl.shape;obtain ⟨ka,kc,rfl,kc1,kc2⟩:=hk.shape;have HO:=hD (order_any l tab _ w hl hn);have HL:=hD hl;have HK:=hD hk;have HF:=hD hf;obtain ⟨n,hnn⟩:=nm l.length;rw[<- hnn] at hn hc1 HL HO⊢;have HN:=hD hnn;clear hl hk hf hnn;go_enter Tryz.func123,Tryz.ntmps123;go_wp2_with fail;refine HO.o.mono ?_;rintro e w1 ⟨v,xs,rfl,hx,ho,hb⟩;obtain ⟨xa,xc,rfl,xc1,xc2,hxa⟩:=hx.shape;have HX:=hD hx;have HXA:=hD hxa;have HOD:=hD ho;have HB:=hD hb;obtain ⟨m,hm⟩:=nm xs.length;rw[<- hm] at xc1 HX⊢;have hm40:m<=40:=by have:=ho.len;have:=sel_len l tab l.length;have:=HN.o;omega
 have HM:=hD hm;clear hx ho hb hm hxa HO;go_wp2_with fail;go_loopw [8,13] (fun u i wr=>∃k:Nat,k<=m/\i= .int .i64 k/\Hd (∀ j,j<k->matB (eAt l (fnOf xs j)) tab ks=false)/\Hd (Bl w1 wr)) (fun _ i _=>m-(intOf i).toNat)
 case atStart=>exact ⟨0,zl,rfl,fun j h=>absurd h om,Below.refl _ _⟩
 case round=>
  obtain ⟨k,hk,rfl,HJ,HW⟩:=hrel;by_cases hlt:k<m
  ·obtain ⟨y,hy1,hy2⟩:∃y:Nat,fnOf xs k=(y:Int)/\y<n:=by
    have hmem:fnOf xs k∈xs:=by rw[fnOf_at (by have:=HM.o;omega)];exact List.getElem_mem _
    have:=HOD.o.mem.1 hmem;have:=HN.o;exact ⟨(fnOf xs k).toNat,om,om⟩
   obtain ⟨xb,xo,rfl,hxb,hxe⟩:=HXA.o (by have:=HM.o;omega);have x0:=hxe k (by have:=HM.o;omega);rw[<- HW.o.cell (p:=⟨xb,xo+k,none⟩) hxb] at x0;have e0:xs.getD k 0=(y:Int):=hy1;rw[e0] at x0;have hBW:=HB.o.trans (HW.o.mono HB.o.size);obtain ⟨lb,lo,lc2,he2,-,hej⟩:=(HL.o.below keepE hBW).at (eAt_nat l y (by have:=HN.o;omega));simp only[Value.slice.injEq] at he2;obtain ⟨rfl,-,-⟩:=he2;obtain ⟨p1,n1,c1,r1,m1,d1,a0,a1,a2,a3,a4,a5,hp,hr⟩:=hej.six;obtain ⟨r,hr2⟩:=nm (matB (eAt l y) tab ks);have hpl:(eAt l y).pats.length<=1000000:=by have:=(HF.o y (by have:=HN.o;omega)).1;omega
   have HC:Hd (CR 129 #[.agg #[.int .i64 (eAt l y).tab, .slice p1 n1 c1, .int .i64 (eAt l y).len, .int .i64 (eAt l y).prio, .int .i64 (eAt l y).act, .slice r1 m1 d1], .int .i64 tab, .slice ka ks.length kc] wr (.bool r)):=by
    rw[hr2];exact matches_any (eAt l y) tab ks _ _ wr ⟨_,_,rfl,hp,hr⟩ (HK.o.below keepN hBW) hpl
   have HR:Hd (r=matB (eAt l (fnOf xs k)) tab ks):=by show _=_;rw[hr2,hy1]
   have HY:Hd (fnOf xs k=(y:Int)):=hy1;clear hr2 hy1 e0 hBW hej hp hr hxe hpl;generalize (eAt l y).tab=t1 at*;generalize (eAt l y).len=l1 at*;generalize (eAt l y).prio=q1 at*;generalize (eAt l y).act=s1 at*;have z1:(k:Int)<(m:Int):=om
   have z2:(y:Int)<(n:Int):=om
   go_wp2_with fail;refine HC.o.mono ?_;rintro e w2 ⟨rfl,hb2⟩;have HW2:=hD (HW.o.trans (hb2.mono HW.o.size));clear hb2 HC a0 a1 a2 a3 a4 a5 x0;cases r
   ·go_wp2_with fail;go_roundw
    case rel=>
     refine ⟨k+1,om,by go_num,fun j hj=>?_,HW2⟩;by_cases e:j=k
     ·subst e;exact HR.o.symm
     ·exact HJ.o j om
    case measure=>exact mz
   ·go_wp2_with fail;go_ret;refine ⟨(y:Int),rfl,?_,HB.o.trans (HW2.o.mono HB.o.size)⟩;rw[<- HY.o];have hkx:k<xs.length:=by have:=HM.o;omega
    exact HOD.o.best hkx HJ.o HR.o.symm
  ·obtain rfl:k=m:=om
   go_wp2_with fail;go_ret;exact ⟨-1,rfl,HOD.o.none (by rw[<- HM.o];exact HJ.o),HB.o.trans (HW.o.mono HB.o.size)⟩
theorem lookupB_any (l:List Ent) (tab:Int) (ks:List Nat) (a0:Int) (g0:List Nat) (lv kv gv:Value) (w:World) (hl:ERow w lv l) (hk:NRow w kv ks) (hg:NRow w gv g0) (hn:l.length<=40) (hf:FewB l) (hg0:g0.length<=6000):
 Calls Tryz.prog 115 #[lv, .int .i64 tab,kv, .agg #[.int .i64 a0,gv]] w (RetRunO w (Look l tab ks a0 g0)):=by
 obtain ⟨la,lc,rfl,hc1,hc2⟩:=hl.shape;obtain ⟨ka,kc,rfl,kc1,kc2⟩:=hk.shape;obtain ⟨ga,gc,rfl,gc1,gc2⟩:=hg.shape;have HC:Hd (∀ W,Bl w W->Calls Tryz.prog 123 #[.slice la l.length lc, .int .i64 tab, .slice ka ks.length kc] W (RetBest W l tab ks)):=fun W hW=>chooseB_any l tab ks _ _ W (hl.below keepE hW) (hk.below keepN hW) hn hf
 have HL:=hD hl;have HG:=hD hg;have HF:=hD hf;have HCL:Hd (∀ (g:List Nat) (v:Value) (W:World),NRow W v g->g.length<=1000000->Calls Tryz.prog 124 #[v] W fun e w'=>∃v',e= .returned v'/\NOwn W.heap.size w' v' g/\Bl W w'):=fun g v W h1 h2=>cloneN_any g v W h1 h2
 clear hl hk hg hf;go_enter Tryz.func115,Tryz.ntmps115;go_wp2_with fail;have hb0:Bl w (((w.alloc (.cells #[.int .i64 a0, .slice ga g0.length gc] 119)).alloc (.cells #[.int .i64 0, .slice none 0 0] 119)).alloc (.cells #[.int .i64 a0, .slice ga g0.length gc] 119)):=bL;generalize hX:((w.alloc (.cells #[.int .i64 a0, .slice ga g0.length gc] 119)).alloc (.cells #[.int .i64 0, .slice none 0 0] 119)).alloc (.cells #[.int .i64 a0, .slice ga g0.length gc] 119)=X at hb0;have x0:X.cell? ⟨w.heap.size+1,0,none⟩=some (.int .i64 0):=by rw[<- hX];simp[go_sem]
 have x1:X.cell? ⟨w.heap.size+1,1,none⟩=some (.slice none 0 0):=by rw[<- hX];simp[go_sem]
 have x2:X.cell? ⟨w.heap.size+1+1,0,none⟩=some (.int .i64 a0):=by rw[<- hX];simp[go_sem]
 have x3:X.cell? ⟨w.heap.size+1+1,1,none⟩=some (.slice ga g0.length gc):=by rw[<- hX];simp[go_sem]
 have xs:X.heap.size=w.heap.size+1+1+1:=by rw[<- hX];simp
 have xf:∀j,X.frozen? ⟨w.heap.size+1,j,none⟩=false/\X.frozen? ⟨w.heap.size+1+1,j,none⟩=false:=fun j=>by rw[<- hX];simp[go_sem]
 have hXW:∀W,Bl X W->(W.cell? ⟨w.heap.size+1,0,none⟩=some (.int .i64 0)/\W.cell? ⟨w.heap.size+1,1,none⟩=some (.slice none 0 0)/\W.cell? ⟨w.heap.size+1+1,0,none⟩=some (.int .i64 a0)/\W.cell? ⟨w.heap.size+1+1,1,none⟩=some (.slice ga g0.length gc))/\
  (∀ j,W.frozen? ⟨w.heap.size+1,j,none⟩=false)/\(∀ j,W.frozen? ⟨w.heap.size+1+1,j,none⟩=false)/\w.heap.size+1+1<W.heap.size/\Bl w W:=fun W hW=>
  ⟨⟨(hW.cell (p:=⟨w.heap.size+1,0,none⟩) (by show w.heap.size+1<_;omega)).trans x0,(hW.cell (p:=⟨w.heap.size+1,1,none⟩) (by show w.heap.size+1<_;omega)).trans x1,(hW.cell (p:=⟨w.heap.size+1+1,0,none⟩) (by show w.heap.size+1+1<_;omega)).trans x2,(hW.cell (p:=⟨w.heap.size+1+1,1,none⟩) (by show w.heap.size+1+1<_;omega)).trans x3⟩,
   fun j=>(hW.frozen (p:=⟨w.heap.size+1,j,none⟩) (by show w.heap.size+1<_;omega)).trans (xf j).1,fun j=>(hW.frozen (p:=⟨w.heap.size+1+1,j,none⟩) (by show w.heap.size+1+1<_;omega)).trans (xf j).2,by have:=hW.size;omega,hb0.trans (hW.mono hb0.size)⟩
 have HXW:=hD hXW;have HCX:=hD (HC.o X hb0);clear hX x0 x1 x2 x3 xs xf hXW HC hb0;refine HCX.o.mono ?_;rintro e w1 ⟨c,rfl,hbest,hb1⟩;obtain ⟨⟨x0,x1,x2,x3⟩,f1,f2,hs1,hbw⟩:=HXW.o w1 hb1;have HB:=hD hbest;have HW1:=hD hbw;have f10:=f1 0;have f11:=f1 1;have f20:=f2 0;have f21:=f2 1;clear hbest hb1 hbw HCX f1 f2;obtain ⟨N,hN⟩:=nm w.heap.size;have HNN:=hD hN;rw[<- hN] at x0 x1 x2 x3 f10 f11 f20 f21 hs1⊢;clear hN;by_cases hc:c<0
 ·have HCC:=hD (HCL.o g0 _ w1 (HG.o.below keepN HW1.o) om);go_wp2_with fail;refine HCC.o.mono ?_;rintro e w2 ⟨v',rfl,ho,hb2⟩;obtain ⟨vp,vc,rfl⟩:=ho.shape;have HO:=hD ho;have y0:=(hb2.cell (p:=⟨N+1,0,none⟩) (by show N+1<_;omega)).trans x0;have y1:=(hb2.cell (p:=⟨N+1,1,none⟩) (by show N+1<_;omega)).trans x1;have y2:=(hb2.cell (p:=⟨N+1+1,0,none⟩) (by show N+1+1<_;omega)).trans x2;have y3:=(hb2.cell (p:=⟨N+1+1,1,none⟩) (by show N+1+1<_;omega)).trans x3;have g10:=(hb2.frozen (p:=⟨N+1,0,none⟩) (by show N+1<_;omega)).trans f10;have g11:=(hb2.frozen (p:=⟨N+1,1,none⟩) (by show N+1<_;omega)).trans f11;have g21:=(hb2.frozen (p:=⟨N+1+1,1,none⟩) (by show N+1+1<_;omega)).trans f21;have HW2:=hD (HW1.o.trans (hb2.mono HW1.o.size));have hs2:=hb2.size;clear ho hb2 HCC x0 x1 x2 x3 f10 f11 f20 f21;go_wp2_with fail;refine bodyPost_ret (v:= .agg #[.int .i64 a0, .slice vp g0.length vc]) (by simp[results,Tryz.results115,go_sem,y0,y1]) rfl ?_;refine ⟨a0,g0,_,rfl,⟨c,HB.o,by rw[if_pos hc],by rw[if_pos hc]⟩,(HO.o.at fun k hk=>?_).mono (by have:=HNN.o;omega),((HW2.o.setCell (by have:=HNN.o;show _<=N+1+1;omega) _).setCell (by have:=HNN.o;show _<=N+1;omega) _).setCell (by have:=HNN.o;show _<=N+1;omega) _⟩;rw[Below.heap_setCell _ _ _ _ (by show k≠N+1;omega),Below.heap_setCell _ _ _ _ (by show k≠N+1;omega),Below.heap_setCell _ _ _ _ (by show k≠N+1+1;omega)]
 ·obtain ⟨y,rfl⟩:∃y:Nat,c=(y:Int):=⟨c.toNat,om⟩;have hyl:y<l.length:=by
   rcases HB.o with ⟨h,-⟩|⟨-,h,-⟩
   ·omega
   ·omega
  obtain ⟨lb,lo,lc2,he2,hlb,hej⟩:=HL.o.at (eAt_nat l y hyl);simp only[Value.slice.injEq] at he2;obtain ⟨rfl,-,-⟩:=he2;obtain ⟨p1,n1,c1,r1,m1,d1,a0',a1',a2',a3',a4,a5,hp,hr⟩:=hej.six;clear a0' a1' a2' a3' hp;have hr2:=hr;obtain ⟨r1',d1',he3,-,-⟩:=hr2.shape;simp only[Value.slice.injEq] at he3;obtain ⟨rfl,rfl,rfl⟩:=he3;have b4:=(HW1.o.cell (p:=⟨lb,lo+y*6+4,none⟩) hlb).trans a4;have b5:=(HW1.o.cell (p:=⟨lb,lo+y*6+5,none⟩) hlb).trans a5;have hne1:lb≠N+1:=by have:=HNN.o;omega
  have hne2:lb≠N+1+1:=by have:=HNN.o;omega
  have hgl:(eAt l (y:Int)).args.length<=1000000:=(HF.o y hyl).2;have HR:=hD hr;have HA:Hd ((eAt l (y:Int)).act=(eAt l (y:Int)).act/\(eAt l (y:Int)).args=(eAt l (y:Int)).args):=⟨rfl,rfl⟩;have HLK:Hd (∀ a g,a=(eAt l (y:Int)).act->g=(eAt l (y:Int)).args->Look l tab ks a0 g0 a g):=fun a g h1 h2=>⟨(y:Int),HB.o,by rw[if_neg om];exact h1,by rw[if_neg om];exact h2⟩
  obtain ⟨act,hact⟩:=nm ((eAt l (y:Int)).act);obtain ⟨g,hgg⟩:=nm ((eAt l (y:Int)).args);have HL2:=hD (HLK.o act g hact hgg);rw[<- hact] at b4;rw[<- hgg] at b5 hgl HR;clear hact hgg HLK HA a4 a5 hej hr hr2;have HCC:∀p q:Value,Hd (Calls Tryz.prog 124 #[.slice r1 g.length d1] ((w1.setCell ⟨N+1+1,0,none⟩ p).setCell ⟨N+1+1,1,none⟩ q) fun e w'=>∃v',e= .returned v'/\NOwn ((w1.setCell ⟨N+1+1,0,none⟩ p).setCell ⟨N+1+1,1,none⟩ q).heap.size w' v' g/\Below ((w1.setCell ⟨N+1+1,0,none⟩ p).setCell ⟨N+1+1,1,none⟩ q).heap.size ((w1.setCell ⟨N+1+1,0,none⟩ p).setCell ⟨N+1+1,1,none⟩ q) w'):=fun p q=>
   HCL.o g _ _ (HR.o.below keepN ((HW1.o.setCell (by have:=HNN.o;show _<=N+1+1;omega) _).setCell (by have:=HNN.o;show _<=N+1+1;omega) _)) om
  have z1:(y:Int)<(l.length:Int):=om
  go_wp2_with fail;have HCY:=HCC (.int .i64 act) (.slice r1 g.length d1);have hby:Bl w ((w1.setCell ⟨N+1+1,0,none⟩ (.int .i64 act)).setCell ⟨N+1+1,1,none⟩ (.slice r1 g.length d1)):=(HW1.o.setCell (by have:=HNN.o;show _<=N+1+1;omega) _).setCell (by have:=HNN.o;show _<=N+1+1;omega) _;generalize hY:(w1.setCell ⟨N+1+1,0,none⟩ (.int .i64 act)).setCell ⟨N+1+1,1,none⟩ (.slice r1 g.length d1)=Y at HCY hby;have u0:Y.cell? ⟨N+1,0,none⟩=some (.int .i64 0):=by rw[<- hY];simp[go_sem,x0]
  have u1:Y.cell? ⟨N+1,1,none⟩=some (.slice none 0 0):=by rw[<- hY];simp[go_sem,x1]
  have u2:Y.cell? ⟨N+1+1,0,none⟩=some (.int .i64 act):=by rw[<- hY];simp[go_sem,x2]
  have u3:Y.cell? ⟨N+1+1,1,none⟩=some (.slice r1 g.length d1):=by rw[<- hY];simp[go_sem,x3]
  have v10:Y.frozen? ⟨N+1,0,none⟩=false:=by rw[<- hY];simp[go_sem,f10]
  have v11:Y.frozen? ⟨N+1,1,none⟩=false:=by rw[<- hY];simp[go_sem,f11]
  have v21:Y.frozen? ⟨N+1+1,1,none⟩=false:=by rw[<- hY];simp[go_sem,f21]
  have hsy:N+1+1<Y.heap.size:=by rw[<- hY];simp;omega
  have HBY:=hD hby;clear hY hby HCC x0 x1 x2 x3 f10 f11 f20 f21 b4 b5 hs1;refine HCY.o.mono ?_;rintro e w2 ⟨v',rfl,ho,hb2⟩;obtain ⟨vp,vc,rfl⟩:=ho.shape;have HO:=hD ho;have y0:=(hb2.cell (p:=⟨N+1,0,none⟩) (by show N+1<_;omega)).trans u0;have y1:=(hb2.cell (p:=⟨N+1,1,none⟩) (by show N+1<_;omega)).trans u1;have y2:=(hb2.cell (p:=⟨N+1+1,0,none⟩) (by show N+1+1<_;omega)).trans u2;have y3:=(hb2.cell (p:=⟨N+1+1,1,none⟩) (by show N+1+1<_;omega)).trans u3;have g10:=(hb2.frozen (p:=⟨N+1,0,none⟩) (by show N+1<_;omega)).trans v10;have g11:=(hb2.frozen (p:=⟨N+1,1,none⟩) (by show N+1<_;omega)).trans v11;have g21:=(hb2.frozen (p:=⟨N+1+1,1,none⟩) (by show N+1+1<_;omega)).trans v21;have HW2:=hD (HBY.o.trans (hb2.mono HBY.o.size));have hs2:=hb2.size;clear ho hb2 HCY u0 u1 u2 u3 v10 v11 v21;go_wp2_with fail;refine bodyPost_ret (v:= .agg #[.int .i64 act, .slice vp g.length vc]) (by simp[results,Tryz.results115,go_sem,y0,y1]) rfl ?_;refine ⟨act,g,_,rfl,HL2.o,(HO.o.at fun k hk=>?_).mono (by have:=HNN.o;omega),((HW2.o.setCell (by have:=HNN.o;show _<=N+1+1;omega) _).setCell (by have:=HNN.o;show _<=N+1;omega) _).setCell (by have:=HNN.o;show _<=N+1;omega) _⟩;rw[Below.heap_setCell _ _ _ _ (by show k≠N+1;omega),Below.heap_setCell _ _ _ _ (by show k≠N+1;omega),Below.heap_setCell _ _ _ _ (by show k≠N+1+1;omega)]
end Go.Proofs.YtikilcbpogfgkaaGreat
