/- Lemmas. -/
import Derived.Test.YtjfhfaodbjecdaaGreatJK20
set_option maxHeartbeats 3200000
set_option maxRecDepth 100000
namespace Go.Proofs.YtjfhfaodbjecdaaGreat
open Go.RowKit
variable {xs:List Int} {tab c act:Int} {ks:List Nat} {k j b base a g E size cap X:Nat} {w:World} {v r f m u z:Value} {fs:List Value} {t:Tr}
theorem lQ (e:Ent) (tab:Int) (ks:List Nat) (ev kv:Value) (w:World) (he:A6 w ev e) (hk:NRow w kv ks) (hpl:e.pats.length<=1000000):
 Calls Tryz.prog 82 #[ev, .int .i64 tab,kv] w fun r w'=>r= .returned (.bool (cP e tab ks))/\Bl w w':=by
 obtain ⟨pv,av,rfl,hp,ha⟩:=he;obtain ⟨pp,pc,rfl,p1,p2⟩:=hp.shape;obtain ⟨kp,kc,rfl,k1,k2⟩:=hk.shape;obtain ⟨ap,ac,rfl,a1,a2⟩:=ha.shape;obtain ⟨tb,pats,ln,pr,act,args⟩:=e;simp only at hp ha p1 p2 a1 a2 hpl⊢;have HP:=hD hp;have HK:=hD hk;clear hp hk ha;by_cases h1:tb=tab
 ·subst h1;by_cases h2:pats.length=ks.length
  ·have HT:Hd ((∀ (k:Nat) (p:Pt) (n:Nat),pats[k]?=some p->ks[k]?=some n->kF p n=true)->cP ⟨tb,pats,ln,pr,act,args⟩ tb ks=true):=fun h=>qp rfl h2 h
   have HF:Hd (∀ (k n:Nat) (p:Pt),pats[k]?=some p->ks[k]?=some n->kF p n=false->cP ⟨tb,pats,ln,pr,act,args⟩ tb ks=false):=fun k n p q1 q2 q3=>qo q1 q2 q3
   obtain ⟨n,hn⟩:=nm pats.length;have hn2:n=ks.length:=hn.trans h2;rw[<- hn] at hpl p1⊢;rw[<- hn2] at k1⊢;have HN:=hD hn;have HN2:=hD hn2;have hpc:(n:Int)<=(pc:Int):=om;clear hn hn2 h2;go_enter Tryz.func82,Tryz.ntmps82;go_wp2_with fail;have hb0:Bl w (w.alloc (.cells #[.int .i64 tb, .slice pp n pc, .int .i64 ln, .int .i64 pr, .int .i64 act, .slice ap args.length ac] 98)):=bL;generalize hX:w.alloc (.cells #[.int .i64 tb, .slice pp n pc, .int .i64 ln, .int .i64 pr, .int .i64 act, .slice ap args.length ac] 98)=X at hb0;have hbx:X.cell? ⟨w.heap.size,1,none⟩=some (.slice pp n pc):=by rw[<- hX];simp[go_sem]
   have hsx:w.heap.size<X.heap.size:=by rw[<- hX];simp
   have HX:Hd (∀ W,Bl X W->Bl w W/\Cl W w.heap.size 1 (.slice pp n pc)):=fun W hW=>⟨hb0.trans (hW.mono hb0.size),(hW.cell (p:=⟨w.heap.size,1,none⟩) hsx).trans hbx⟩
   clear hX hb0 hbx;go_loopw [7,8] (fun u i wr=>∃(k:Nat) (r:Bool),k<=n/\i= .int .i64 k/\u= .bool r/\Hd ((r=true->∀(j:Nat) (p:Pt) (x:Nat),j<k->pats[j]?=some p->ks[j]?=some x->kF p x=true)/\(r=false->cP ⟨tb,pats,ln,pr,act,args⟩ tb ks=false))/\Hd (Bl X wr)) (fun _ i _=>n-(intOf i).toNat)
   case atStart=>exact ⟨0,true,om,rfl,rfl,⟨fun _ j _ _ h=>absurd h om,fun h=>by cases h⟩,Below.refl _ _⟩
   case round=>
    obtain ⟨k,r,hkn,rfl,rfl,HJ,HW⟩:=hrel;cases r
    ·go_wp2_with fail;go_ret;exact ⟨by rw[HJ.o.2 (by trivial)];rfl,(HX.o _ HW.o).1⟩
    by_cases hlt:k<n
    ·obtain ⟨p,hp⟩:∃p,pats[k]?=some p:=⟨_,bS (by have:=HN.o;omega)⟩;obtain ⟨x,hx⟩:∃x,ks[k]?=some x:=⟨_,bS (by have:=HN2.o;omega)⟩;obtain ⟨pb,po,pc',hpe,hpb,⟨pv0,pc0,pc1⟩,⟨pm0,pc2,pc3⟩⟩:=(HP.o.below lg (HX.o _ HW.o).1).at hp;obtain ⟨kb,ko,kc',hke,hkb,kx0,kc0,kc1⟩:=(HK.o.below aM (HX.o _ HW.o).1).at hx;simp only[Value.slice.injEq] at hpe hke;obtain ⟨rfl,-,-⟩:=hpe;obtain ⟨rfl,-,-⟩:=hke;obtain ⟨v,m⟩:=p;simp only at pv0 pc0 pc1 pm0 pc2 pc3;have HC:Hd (∀ W,CR 127 #[.agg #[.int .u64 ((v/B:Nat):Int), .int .u64 ((v%B:Nat):Int), .int .u64 ((m/B:Nat):Int), .int .u64 ((m%B:Nat):Int)], .agg #[.int .u64 ((x/B:Nat):Int), .int .u64 ((x%B:Nat):Int)]] W (.bool (kF ⟨v,m⟩ x))):=fun W=>nz ⟨v,m⟩ x W kx0 pv0 pm0
     obtain ⟨q0,e0⟩:∃q:Int,q=((v/B:Nat):Int):=⟨_,rfl⟩;obtain ⟨q1,e1⟩:∃q:Int,q=((v%B:Nat):Int):=⟨_,rfl⟩;obtain ⟨q2,e2⟩:∃q:Int,q=((m/B:Nat):Int):=⟨_,rfl⟩;obtain ⟨q3,e3⟩:∃q:Int,q=((m%B:Nat):Int):=⟨_,rfl⟩;obtain ⟨q4,e4⟩:∃q:Int,q=((x/B:Nat):Int):=⟨_,rfl⟩;obtain ⟨q5,e5⟩:∃q:Int,q=((x%B:Nat):Int):=⟨_,rfl⟩;rw[<- e0, <-e1, <-e2, <-e3, <-e4, <-e5] at HC;rw[<- e0] at pc0;rw[<- e1] at pc1;rw[<- e2] at pc2;rw[<- e3] at pc3;replace pc3:wr.cell? ⟨pb,po+k*4+3,none⟩=some (.int .u64 q3):=pc3;rw[<- e4] at kc0;rw[<- e5] at kc1;have HPK:=hD (And.intro hp hx);obtain ⟨r,hr⟩:=nm (kF ⟨v,m⟩ x);rw[<- hr] at HC;have HR:=hD hr;have hbc:=(HX.o _ HW.o).2;have hx:=hD (And.intro (below_drewN (Below.refl wr.heap.size wr) 1) (And.intro hbc (And.intro pc0 (And.intro pc1 (And.intro pc2 (And.intro pc3 (And.intro kc0 kc1)))))));clear e0 e1 e2 e3 e4 e5 hp pv0 pm0 kx0 hr;have z1:(k:Int)<(n:Int):=om;have z0:(0:Int)<=(k:Int):=om;go_wp2_with fail;go_region_held3 (fun Wk=>Below (wr.heap.size) (wr) Wk/\Wk.cell? ⟨w.heap.size,1,none⟩=some (.slice (some ⟨pb,po,none⟩) n pc)/\Wk.cell? ⟨pb,po+k*4,none⟩=some (.int .u64 q0)/\Wk.cell? ⟨pb,po+k*4+1,none⟩=some (.int .u64 q1)/\Wk.cell? ⟨pb,po+k*4+2,none⟩=some (.int .u64 q2)/\Wk.cell? ⟨pb,po+k*4+3,none⟩=some (.int .u64 q3)/\Wk.cell? ⟨kb,ko+k*2,none⟩=some (.int .u64 q4)/\Wk.cell? ⟨kb,ko+k*2+1,none⟩=some (.int .u64 q5))
      (first|exact hx.o|exact vS hb1 (by assumption)|assumption)
      (first
      |(go_at_call 127;(with_reducible refine (HC.o _).mono ?_);rintro e w1 ⟨rfl,hb1⟩))
     rename_i hS;have HW1:=hD (HW.o.trans (hS.1.mono HW.o.size));clear hS hx hb1 HW HC hbc pc0 pc1 pc2 pc3 kc0 kc1;go_wp2_with fail;go_roundw
     case rel=>
      refine ⟨k+1,r,om,by go_num,rfl,⟨fun hr j p' x' hj h1 h2=>?_,fun hr=>HF.o k x ⟨v,m⟩ HPK.o.1 HPK.o.2 (HR.o.symm.trans hr)⟩,HW1⟩;by_cases e:j=k
      ·subst e;rw[HPK.o.1] at h1;rw[HPK.o.2] at h2;cases h1;cases h2;exact HR.o.symm.trans hr
      exact HJ.o.1 (by trivial) j p' x' om h1 h2
     case measure=>exact mz
    ·obtain rfl:k=n:=om;go_wp2_with fail;go_ret;exact ⟨by rw[HT.o fun k p x q1 q2=>HJ.o.1 (by trivial) k p x (by have:=(bO q1).1;have:=HN.o;omega) q1 q2];rfl,(HX.o _ HW.o).1⟩
  have HE:Hd (cP ⟨tb,pats,ln,pr,act,args⟩ tb ks=false):=qn h2;have hne:¬((pats.length:Nat):Int)=((ks.length:Nat):Int):=om;have hne2:(((pats.length:Nat):Int)==((ks.length:Nat):Int))=false:=by rw[beq_eq_false_iff_ne];exact hne
  clear h2;exact D7
 have HE:Hd (cP ⟨tb,pats,ln,pr,act,args⟩ tab ks=false):=lP h1;have hne2:(tb==tab)=false:=by rw[beq_eq_false_iff_ne];exact h1
 exact D7
open Go.RowKit Stab
theorem qt {x:Int}:(∃ i,0<=i/\i<xs.length/\cR xs i=x)↔x∈xs:=by
 rw[List.mem_iff_getElem];constructor
 ·rintro ⟨i,-,hi,e⟩;exact ⟨i,hi,by unfold cR at e;rw[List.getD_eq_getElem?_getD,bS hi] at e;exact e⟩
 rintro ⟨i,hi,e⟩;exact ⟨i,zl,hi,by unfold cR;rw[List.getD_eq_getElem?_getD,bS hi];exact e⟩
theorem sW {i:Nat} (hi:i<xs.length):cR xs i=xs[i]:=by
 unfold cR;rw[List.getD_eq_getElem?_getD,bS hi];rfl
open Go.RowKit Stab
def Best (l:List Ent) (tab:Int) (ks:List Nat) (k:Nat) (c:Int):Prop:=
 (c= -1/\∀j:Nat,j<k->cP (bz l j) tab ks=false)\/
 (0<=c/\c<k/\cP (bz l c) tab ks=true/\∀j:Nat,j<k->cP (bz l j) tab ks=true->(j:Int)=c\/tot l c j=true)
theorem Best.unique {l:List Ent} {d:Int} (h:Best l tab ks k c) (h2:Best l tab ks k d):c=d:=by
 rcases h with ⟨rfl,h⟩|⟨a1,a2,a3,a4⟩<;>rcases h2 with ⟨rfl,g⟩|⟨b1,b2,b3,b4⟩
 ·rfl
 ·obtain ⟨d,rfl⟩:∃n:Nat,d=(n:Int):=⟨d.toNat,om⟩;rw[h d om] at b3;cases b3
 ·obtain ⟨c,rfl⟩:∃n:Nat,c=(n:Int):=⟨c.toNat,om⟩;rw[g c om] at a3;cases a3
 obtain ⟨d,rfl⟩:∃n:Nat,d=(n:Int):=⟨d.toNat,om⟩;obtain ⟨c,rfl⟩:∃n:Nat,c=(n:Int):=⟨c.toNat,om⟩;rcases a4 d om b3 with e|e
 ·exact e.symm
 rcases b4 c om a3 with e2|e2
 ·exact e2
 rw[(kQ l).asym e] at e2;cases e2
theorem Best.zero (l:List Ent) (tab:Int) (ks:List Nat):Best l tab ks 0 (-1):= .inl ⟨rfl,fun j h=>absurd h om⟩
theorem Best.no {l:List Ent} (h:Best l tab ks k c) (hm:cP (bz l k) tab ks=false):Best l tab ks (k+1) c:=by
 rcases h with ⟨rfl,h⟩|⟨a1,a2,a3,a4⟩
 ·refine .inl ⟨rfl,fun j hj=>?_⟩;by_cases e:j=k
  ·subst e;exact hm
  exact h j om
 refine .inr ⟨a1,om,a3,fun j hj hmj=>?_⟩;by_cases e:j=k
 ·subst e;rw[hm] at hmj;cases hmj
 exact a4 j om hmj
theorem Best.first {l:List Ent} (h:Best l tab ks k (-1)) (hm:cP (bz l k) tab ks=true):Best l tab ks (k+1) k:=by
 rcases h with ⟨-,h⟩|⟨a1,-⟩
 ·refine .inr ⟨om,om,hm,fun j hj hmj=>?_⟩;by_cases e:j=k
  ·exact .inl om
  rw[h j om] at hmj;cases hmj
 omega
theorem Best.next {l:List Ent} {c:Nat} (h:Best l tab ks k (c:Int)) (hm:cP (bz l k) tab ks=true) (hl:nA l k c=true):Best l tab ks (k+1) k:=by
 rcases h with ⟨h,-⟩|⟨a1,a2,a3,a4⟩
 ·omega
 rw[<- oW a2] at hl;refine .inr ⟨om,om,hm,fun j hj hmj=>?_⟩;by_cases e:j=k
 ·exact .inl om
 rcases a4 j om hmj with e2|e2
 ·right;rw[e2];exact hl
 exact .inr ((kQ l).tr _ _ _ hl e2)
theorem Best.keep {l:List Ent} {c:Nat} (h:Best l tab ks k (c:Int)) (hl:nA l k c=false):Best l tab ks (k+1) c:=by
 rcases h with ⟨h,-⟩|⟨a1,a2,a3,a4⟩
 ·omega
 rw[<- oW a2] at hl;refine .inr ⟨om,om,a3,fun j hj hmj=>?_⟩;by_cases e:j=k
 ·subst e;exact .inr ((kQ l).tot _ _ om hl)
 exact a4 j om hmj
theorem qu {l:List Ent} (h:IsOrd l tab xs) (hj:j<l.length) (hm:cP (bz l j) tab ks=true):(j:Int)∈xs:=by
 rw[h.mem];refine ⟨om,om,?_⟩;by_cases e:(bz l (j:Int)).tab=tab
 ·exact e
 rw[lP e] at hm;cases hm
theorem IsOrd.best {l:List Ent} (h:IsOrd l tab xs) (hk:k<xs.length) (hno:∀j,j<k->cP (bz l (cR xs j)) tab ks=false) (hm:cP (bz l (cR xs k)) tab ks=true):Best l tab ks l.length (cR xs k):=by
 have hmem:cR xs k∈xs:=by rw[sW hk];exact List.getElem_mem _
 have hb:=h.mem.1 hmem;refine .inr ⟨hb.1,hb.2.1,hm,fun j hj hmj=>?_⟩;obtain ⟨i,-,hi,hij⟩:=qt.2 (qu h hj hmj);by_cases e:i=k
 ·left;rw[<- e];exact hij.symm
 right;by_cases e2:i<k
 ·have:=hno i e2;rw[hij,hmj] at this;cases this
 rw[<- hij];exact h.srt k i (zl) om hi
theorem IsOrd.none {l:List Ent} (h:IsOrd l tab xs) (hno:∀j,j<xs.length->cP (bz l (cR xs j)) tab ks=false):Best l tab ks l.length (-1):=by
 refine .inl ⟨rfl,fun j hj=>?_⟩;cases hm:cP (bz l j) tab ks
 ·rfl
 ·obtain ⟨i,-,hi,hij⟩:=qt.2 (qu h hj hm);have:=hno i hi;rw[hij,hm] at this;exact this
def kU (w:World) (l:List Ent) (tab:Int) (ks:List Nat) (e:Ending) (w':World):Prop:=∃c,e= .returned (.int .i64 c)/\Best l tab ks l.length c/\Bl w w'
open Go.RowKit Stab
def eU (n:Nat):List Value:=[.int .u64 ((n/B:Nat):Int), .int .u64 ((n%B:Nat):Int)]
theorem fK:FlatG 2 zq eU where
 len:=fun _=>rfl
 one:=fun x u hu=>by
  unfold eU at hu;simp at hu;rcases hu with rfl|rfl<;>rfl
 get:=fun w b o x h i v hi=>by
  match i,hi with
  |0,hi=>cases hi;exact h.2.1
  |1,hi=>cases hi;exact h.2.2
theorem CL {o n:Nat} (hn:n<B*B) (h:CellsAt w b o (eU n)):zq w b o n:=⟨hn,h 0 _ rfl,h 1 _ rfl⟩
theorem jr:ElemOk 38 60 (.agg #[.int .u64 0, .int .u64 0]) 2 16:=⟨Tryz.underlying38,sI,rfl,by decide⟩
def t9 (l:List Nat):Prop:=∀n∈l,n<B*B
theorem RowAt.nums {l:List Nat} (h:NRow w v l):t9 l:=by
 intro n hn;obtain ⟨j,hj,rfl⟩:=List.mem_iff_getElem.1 hn;obtain ⟨pa,cap,-,-,-,-,h5⟩:=h;obtain ⟨b,o,-,-,h6⟩:=h5 om;exact (h6 j _ (bS hj)).1
def NOwn (base:Nat) (w:World) (v:Value) (l:List Nat):Prop:=w.ownsRow base 60 2 v l.length (l.flatMap eU)/\t9 l
theorem NOwn.row {l:List Nat} (h:NOwn base w v l):NRow w v l:=
 RowAt.of_flatG fK.len rfl h.1 fun x hx b o=>CL (h.2 x hx)
theorem rO (l:List Nat) (v:Value) (w:World) (hv:NRow w v l) (hl:l.length<=1000000):
 Calls Tryz.prog 122 #[v] w fun e w'=>∃v',e= .returned v'/\NOwn w.heap.size w' v' l/\Bl w w':=by
 have HN:=hD hv.nums;have HV:=hD hv;obtain ⟨pa,ca,rfl,h1,h2,h3,-⟩:=hv.all;clear hv;cases pa with
 |none=>
  obtain rfl:=h3 rfl;obtain rfl:l=[]:=List.eq_nil_of_length_eq_zero om;clear h1 h2 h3 hl HV;have q:(Go.binOp .eql 38 (.slice none 0 0) (.slice none 0 0)).run Tryz.prog w= .ok (.bool true) w:=Lib.run_eql_slice_nil w _ _ none 0 0 0 0 Tryz.underlying38;go_enter Tryz.func122,Tryz.ntmps122;go_wp2_with fail;go_ret;exact ⟨_,rfl,⟨World.ownsRow_nil _ _ _ _,HN.o⟩,Below.refl _ _⟩
 |some ad=>
  clear h3;have q:∀m,(Go.binOp .eql 38 (.slice (some ad) m ca) (.slice none 0 0)).run Tryz.prog w= .ok (.bool false) w:=fun m=>Lib.run_eql_slice_nil w _ _ (some ad) m ca 0 0 Tryz.underlying38
  obtain ⟨n,hn⟩:=nm l.length;have S1:Hd (∀ W,Bl w W->ke W 2 (.slice (some ad) n ca) n (l.flatMap eU)):=fun W hW=>by rw[hn];exact (HV.o.below aM hW).src fK
  rw[<- hn] at hl h1⊢;have HNN:=hD hn;clear hn;go_enter Tryz.func122,Tryz.ntmps122;go_wp2_with (at_builtin;refine dD jr rfl (.tmp 5) (.tmp 6) rfl w.heap.size (.slice (some ⟨w.heap.size,0,none⟩) 0 0) 0 [] rfl (a9 w 60 2) (.slice (some ad) n ca) n _ rfl (S1.o _ (br.alloc lr _)) om (by unfold maxLen;omega) sm ?_;intro y1 w1 g1 g2;have HO1:=hD g1;have HB1:Hd (Bl w w1):=aW (br.alloc lr _) (a9 w 60 2) g2 lr sm;clear g1 g2);go_ret;refine ⟨_,rfl,⟨?_,HN.o⟩,HB1.o⟩;have:=HO1.o;rw[Nat.zero_add,List.nil_append,HNN.o] at this;exact this
def Look (l:List Ent) (tab:Int) (ks:List Nat) (a0:Int) (g0:List Nat) (a:Int) (g:List Nat):Prop:=∃c,Best l tab ks l.length c/\a=(if c<0 then a0 else (bz l c).act)/\g=(if c<0 then g0 else (bz l c).args)
theorem Look.unique {l:List Ent} {a0 a b:Int} {g0 g h:List Nat} (x:Look l tab ks a0 g0 a g) (y:Look l tab ks a0 g0 b h):a=b/\g=h:=by
 obtain ⟨c,h1,h2,h3⟩:=x;obtain ⟨d,k1,k2,k3⟩:=y;obtain rfl:=h1.unique k1;exact ⟨h2.trans k2.symm,h3.trans k3.symm⟩
def ym (w:World) (R:Int->List Nat->Prop) (e:Ending) (w':World):Prop:=∃a g v,e= .returned (.agg #[.int .i64 a,v])/\R a g/\NOwn w.heap.size w' v g/\Bl w w'
def zZ (w:World) (R:Int->List Nat->Prop) (e:Ending) (w':World):Prop:=∃a g v,e= .returned (.agg #[.int .i64 a,v])/\R a g/\NRow w' v g/\Bl w w'
theorem NOwn.mono {base':Nat} {l:List Nat} (h:NOwn base w v l) (hb:base'<=base):NOwn base' w v l:=by
 obtain ⟨⟨h1,h2⟩,h3⟩:=h;refine ⟨⟨h1,?_⟩,h3⟩;rcases h2 with h2|⟨g,cap,cur,q1,q2,q3⟩
 ·exact .inl h2
 exact .inr ⟨g,cap,cur,q1,om,q3⟩
theorem NOwn.at {w':World} {l:List Nat} (h:NOwn base w v l) (hk:∀k,base<=k->w'.heap[k]?=w.heap[k]?):NOwn base w' v l:=by
 obtain ⟨⟨h1,h2⟩,h3⟩:=h;refine ⟨⟨h1,?_⟩,h3⟩;rcases h2 with h2|⟨g,cap,cur,q1,q2,q3,q4⟩
 ·exact .inl h2
 exact .inr ⟨g,cap,cur,q1,q2,by rw[hk g q2];exact q3,q4⟩
theorem NOwn.shape {l:List Nat} (h:NOwn base w v l):∃p c,v= .slice p l.length c:=by
 rcases h.1.2 with ⟨h2,h3⟩|⟨g,cap,cur,q1,-⟩
 ·exact ⟨_,_,by rw[h2,h3]⟩
 exact ⟨_,_,q1⟩
open Go.RowKit
def Cn (w:World) (b o:Nat) (k:Bool):Prop:=w.cell? ⟨b,o,none⟩=some (.bool k)
theorem nU:cG Cn:=fun w w' b o n hb hlt h=>(hb.cell (p:=⟨b,o,none⟩) hlt).trans h
abbrev BRow:=RowAt 1 Cn
abbrev NsRow:=RowAt 1 (SlAt NRow)
theorem lR:cG (SlAt NRow):=SlAt.keep (RowAt.keep aM)
def PktV (w:World) (v:Value) (x:Pkt):Prop:=∃p1 n1 c1 p2 n2 c2 p3 n3 c3 p4 n4 c4,
 v= .agg #[.int .i64 x.port, .slice p1 n1 c1, .slice p2 n2 c2, .slice p3 n3 c3, .slice p4 n4 c4, .bool x.dropped, .bool x.sent, .int .i64 x.egress, .bool x.access]/\
 URow w (.slice p1 n1 c1) x.rest/\BRow w (.slice p2 n2 c2) x.valid/\NsRow w (.slice p3 n3 c3) x.fields/\NRow w (.slice p4 n4 c4) x.metas
theorem kW {n:Nat} {xs:List Value} (h:w.ownsRow base E size (.slice (some ⟨g,0,none⟩) n cap) n xs) {i:Nat} (hi:i<xs.length) (v:Value):(w.setCell ⟨g,i,none⟩ v).ownsRow base E size (.slice (some ⟨g,0,none⟩) n cap) n (xs.set i v):=by
 obtain ⟨hl,h|⟨g',cap',cur,h1,h2,h3,h4,h5,h6,h7⟩⟩:=h
 ·simp at h
 simp only[Value.slice.injEq,Option.some.injEq,Addr.mk.injEq,and_true,true_and] at h1;obtain ⟨rfl,rfl⟩:=h1;refine ⟨by simpa using hl, .inr ⟨g,cap,_,rfl,h2,heap_setCell_same w g i cur E v h3,h4,h5,by simpa using h6,?_⟩⟩;rw[Array.toList_setIfInBounds,List.take_set,h7]
theorem aG {w':World} {n:Nat} {xs:List Value} (h:w.ownsRow base E size v n xs) (hk:∀k,v.ownBlock=some k->w'.heap[k]?=w.heap[k]?):w'.ownsRow base E size v n xs:=by
 obtain ⟨hl,h|⟨g,cap,cur,h1,h2,h3,h4⟩⟩:=h
 ·exact ⟨hl, .inl h⟩
 exact ⟨hl, .inr ⟨g,cap,cur,h1,h2,by rw[hk g (by rw[h1];rfl)];exact h3,h4⟩⟩
theorem NOwn.far {w':World} {l:List Nat} (h:NOwn base w v l) (hk:∀k,v.ownBlock=some k->w'.heap[k]?=w.heap[k]?):NOwn base w' v l:=⟨aG h.1 hk,h.2⟩
theorem aB {n:Nat} {xs:List Value} (h:w.ownsRow base E size v n xs) (hk:v.ownBlock=some k):base<=k/\k<w.heap.size:=h.lt k hk
theorem sX {n0 e n:Nat} {xs:List Value} (h:w.ownsRow n0 e k (.slice (some ⟨g,0,none⟩) n cap) n xs) {i:Nat} (hv:xs[i]?=some v):w.cell? ⟨g,i,none⟩=some v:=by
 exact Db
theorem eF {n:Nat} {xs:List Value} (h:w.ownsRow base E size v n xs) (hn:0<n):∃g cap,v= .slice (some ⟨g,0,none⟩) n cap/\base<=g/\g<w.heap.size/\n<=cap/\cap<=maxLen/\(∀ i u,xs[i]?=some u->w.cell? ⟨g,i,none⟩=some u)/\(∀ i,w.frozen? ⟨g,i,none⟩=false):=by
 obtain ⟨hl,h|⟨g,cap,cur,h1,h2,h3,h4,h5,h6,h7⟩⟩:=h
 ·omega
 refine ⟨g,cap,h1,h2,(bV h3).1,h4,h5,fun i u hi=>?_,fun i=>by simp[World.frozen?,h3]⟩;subst h1;exact sX ⟨hl, .inr ⟨g,cap,cur,rfl,h2,h3,h4,h5,h6,h7⟩⟩ hi
def cA (x:Pkt) (r v f m:Value):List Value:=[.int .i64 x.port,r,v,f,m, .bool x.dropped, .bool x.sent, .int .i64 x.egress, .bool x.access]
structure PktB (base:Nat) (w:World) (X:Nat) (x:Pkt) (r v f m:Value) (fs:List Value):Prop where
 st:w.heap[X]?=some (.cells (cA x r v f m).toArray 40 (0,0))
 hr:w.ownsRow base 5 1 r x.rest.length (x.rest.map (Value.int .u8))
 hv:w.ownsRow base 4 1 v x.valid.length (x.valid.map Value.bool)
 hf:w.ownsRow base 38 1 f x.fields.length fs
 hfs:∀(i:Nat) (u:Value) (l:List Nat),fs[i]?=some u->x.fields[i]?=some l->NOwn base w u l
 hm:NOwn base w m x.metas
 lo:base<=X
 nd:(X::([r,v,f,m]++fs).filterMap Value.ownBlock).Nodup
theorem PktB.flen {x:Pkt} (h:PktB base w X x r v f m fs):fs.length=x.fields.length:=by have:=h.hf.1;omega
theorem PktB.far {w':World} {x:Pkt} (h:PktB base w X x r v f m fs) (hk:∀k,base<=k->k<w.heap.size->w'.heap[k]?=w.heap[k]?):PktB base w' X x r v f m fs:=by
 have hX:X<w.heap.size:=(bV h.st).1;refine ⟨(hk X h.lo hX).trans h.st,aG h.hr fun k e=>?_,aG h.hv fun k e=>?_,aG h.hf fun k e=>?_,fun i u l h1 h2=>(h.hfs i u l h1 h2).far fun k e=>?_,h.hm.far fun k e=>?_,h.lo,h.nd⟩
 ·have:=aB h.hr e;exact xK
 ·have:=aB h.hv e;exact xK
 ·have:=aB h.hf e;exact xK
 ·have:=aB (h.hfs i u l h1 h2).1 e;exact xK
 have:=aB h.hm.1 e;exact xK
theorem PktB.below {w':World} {x:Pkt} (h:PktB base w X x r v f m fs) (hb:Bl w w'):PktB base w' X x r v f m fs:=h.far fun k _ hk=>hb.block k hk
theorem PktB.cell {x:Pkt} (h:PktB base w X x r v f m fs) {i:Nat} (hi:(cA x r v f m)[i]?=some u):w.cell? ⟨X,i,none⟩=some u:=by
 simp only[World.cell?,h.st];simpa using hi
theorem PktB.free {x:Pkt} (h:PktB base w X x r v f m fs) (i:Nat):w.frozen? ⟨X,i,none⟩=false:=by simp[World.frozen?,h.st]
theorem PktB.lt {x:Pkt} (h:PktB base w X x r v f m fs):X<w.heap.size:=(bV h.st).1
theorem PktB.put {x y:Pkt} (h:PktB base w X x r v f m fs) {i:Nat} (hc:(cA x r v f m).set i u=cA y r v f m) (e1:y.rest=x.rest) (e2:y.valid=x.valid) (e3:y.fields=x.fields) (e4:y.metas=x.metas):PktB base (w.setCell ⟨X,i,none⟩ u) X y r v f m fs:=by
 have hne:∀k,k∈([r,v,f,m]++fs).filterMap Value.ownBlock->(w.setCell ⟨X,i,none⟩ u).heap[k]?=w.heap[k]?:=fun k hk=>heap_setCell_other w _ k u (fun e=>(List.nodup_cons.1 h.nd).1 (by have:k=X:=e;rw[this] at hk;exact hk))
 have hmem:∀z∈[r,v,f,m]++fs,∀k,z.ownBlock=some k->(w.setCell ⟨X,i,none⟩ u).heap[k]?=w.heap[k]?:=fun z hz k hk=>hne k (List.mem_filterMap.2 ⟨z,hz,hk⟩)
 refine ⟨?_,?_,?_,?_,?_,?_,h.lo,h.nd⟩
 ·rw[heap_setCell_same w X i _ _ u h.st, <-hc];simp
 ·rw[e1];exact aG h.hr (hmem r sm)
 ·rw[e2];exact aG h.hv (hmem v sm)
 ·rw[e3];exact aG h.hf (hmem f sm)
 ·intro j z l h1 h2;rw[e3] at h2;exact (h.hfs j z l h1 h2).far (hmem z (by simp[cX h1]))
 rw[e4];exact h.hm.far (hmem m sm)
theorem jQ {L:List Value} (h:(L.filterMap Value.ownBlock).Nodup) {y:Value} (ha:L[a]?=some z) (hb:L[b]?=some y) (hab:a≠b) (hg:z.ownBlock=some g) (hk:y.ownBlock=some k):k≠g:=by
 rw[List.Nodup,List.pairwise_filterMap,List.pairwise_iff_getElem] at h;obtain ⟨a1,rfl⟩:=bO ha;obtain ⟨b1,rfl⟩:=bO hb;rcases Nat.lt_or_gt_of_ne hab with q|q
 ·exact (h a b a1 b1 q g hg k hk).symm
 exact h b a b1 a1 q k hk g hg
section
variable {base:Nat} {w w':World} {X:Nat} {x:Pkt} {r v f m:Value} {fs:List Value}
theorem PktB.nd2 (h:PktB base w X x r v f m fs):(([r,v,f,m]++fs).filterMap Value.ownBlock).Nodup:=(List.nodup_cons.1 h.nd).2
theorem PktB.nX (h:PktB base w X x r v f m fs) (ha:([r,v,f,m]++fs)[a]?=some z) (hg:z.ownBlock=some g):g≠X:=fun e=>
 (List.nodup_cons.1 h.nd).1 (by rw[<- e];exact List.mem_filterMap.2 ⟨z,cX ha,hg⟩)
theorem PktB.row (h:PktB base w X x r v f m fs) (ha:([r,v,f,m]++fs)[a]?=some z) (hg:z.ownBlock=some g) (hk:∀k,k≠g->w'.heap[k]?=w.heap[k]?):
 w'.heap[X]?=some (.cells (cA x r v f m).toArray 40 (0,0))/\∀(b:Nat) (y:Value),([r,v,f,m]++fs)[b]?=some y->b≠a->∀k,y.ownBlock=some k->w'.heap[k]?=w.heap[k]?:=
 ⟨(hk X (h.nX ha hg).symm).trans h.st,fun b y hb hab k hy=>hk k (jQ h.nd2 ha hb (fun e=>hab e.symm) hg hy)⟩
theorem bj (w:World) (g i j:Nat) (a b:Value) (h:k≠g):((w.setCell ⟨g,i,none⟩ a).setCell ⟨g,j,none⟩ b).heap[k]?=w.heap[k]?:=
 (heap_setCell_other _ _ k b h).trans (heap_setCell_other w _ k a h)
theorem qv:∀(l:List Nat) (j n:Nat),j<l.length->((l.flatMap eU).set (j*2) (.int .u64 ((n/B:Nat):Int))).set (j*2+1) (.int .u64 ((n%B:Nat):Int))=(l.set j n).flatMap eU
 |[],j,n,h=>by simp at h
 |y::l,0,n,_=>by simp[eU]
 |y::l,j+1,n,h=>by
  have ih:=qv l j n (by simpa using h);rw[List.set_cons_succ,List.flatMap_cons,List.flatMap_cons, <-ih];have e1:(j+1)*2=j*2+1+1:=om
  rw[e1];simp only[eU,List.cons_append,List.nil_append,List.set_cons_succ]
theorem NOwn.set {n:Nat} {l:List Nat} (h:NOwn base w (.slice (some ⟨g,0,none⟩) n cap) l) (hj:j<l.length) (hk:k<B*B):NOwn base ((w.setCell ⟨g,j*2,none⟩ (.int .u64 ((k/B:Nat):Int))).setCell ⟨g,j*2+1,none⟩ (.int .u64 ((k%B:Nat):Int))) (.slice (some ⟨g,0,none⟩) n cap) (l.set j k):=by
 have hlen:(l.flatMap eU).length=l.length*2:=eC fK.len l;obtain ⟨h1,h2⟩:=h;have e0:n=l.length:=by
  obtain ⟨-,h|⟨g',cap',cur,e,-⟩⟩:=h1
  ·simp at h
  simp only[Value.slice.injEq] at e;exact e.2.1
 subst e0;have q1:=kW h1 (i:=j*2) om (.int .u64 ((k/B:Nat):Int));have q2:=kW q1 (i:=j*2+1) (by rw[List.length_set];omega) (.int .u64 ((k%B:Nat):Int));rw[qv l j k hj] at q2;refine ⟨by rw[List.length_set];exact q2,fun y hy=>?_⟩;rcases List.mem_or_eq_of_mem_set hy with q|q
 ·exact h2 y q
 rw[q];exact hk
theorem PktB.field (h:PktB base w X x r v f m fs) {i:Nat} {l:List Nat} (hi:fs[i]?=some u) (hl:x.fields[i]?=some l) (hj:j<l.length) (hk:k<B*B):∃g cap,u= .slice (some ⟨g,0,none⟩) l.length cap/\base<=g/\g<w.heap.size/\g≠X/\(l.length:Int)<=(cap:Int)/\
 (∀ q,w.frozen? ⟨g,q,none⟩=false)/\(∃ y,w.cell? ⟨g,j*2,none⟩=some y)/\(∃ y,w.cell? ⟨g,j*2+1,none⟩=some y)/\
 PktB base ((w.setCell ⟨g,j*2,none⟩ (.int .u64 ((k/B:Nat):Int))).setCell ⟨g,j*2+1,none⟩ (.int .u64 ((k%B:Nat):Int))) X { x with fields:=x.fields.set i (l.set j k) } r v f m fs:=by
 have hn:=h.hfs i u l hi hl;obtain ⟨g,cap,rfl,g1,g2,g3,g4,g5,g6⟩:=eF hn.1 om;have hlen:(l.flatMap eU).length=l.length*2:=eC fK.len l;have ha:([r,v,f,m]++fs)[4+i]?=some (.slice (some ⟨g,0,none⟩) l.length cap):=by
  rw[List.getElem?_append_right sm];simpa using hi
 refine ⟨g,cap,rfl,g1,g2,h.nX ha rfl,om,g6,⟨_,g5 (j*2) _ (bS om)⟩,⟨_,g5 (j*2+1) _ (bS om)⟩,?_⟩;obtain ⟨s1,s2⟩:=h.row (w':=(w.setCell ⟨g,j*2,none⟩ (.int .u64 ((k/B:Nat):Int))).setCell ⟨g,j*2+1,none⟩ (.int .u64 ((k%B:Nat):Int))) ha rfl (fun q hq=>bj w g _ _ _ _ hq);refine ⟨s1,aG h.hr (s2 0 r rfl om),aG h.hv (s2 1 v rfl om),?_,fun a z l' h1 h2=>?_,h.hm.far (s2 3 m rfl om),h.lo,h.nd⟩
 ·have:=aG h.hf (s2 2 f rfl om);simpa using this
 by_cases e:a=i
 ·subst e;rw[hi] at h1;cases h1;have hlt:=(bO hl).1;rw[show ({ x with fields:=x.fields.set a (l.set j k) }:Pkt).fields=x.fields.set a (l.set j k) from rfl,List.getElem?_set_self hlt] at h2;cases h2;exact hn.set hj hk
 rw[show ({ x with fields:=x.fields.set i (l.set j k) }:Pkt).fields=x.fields.set i (l.set j k) from rfl,List.getElem?_set_ne (fun q=>e q.symm)] at h2;refine (h.hfs a z l' h1 h2).far (s2 (4+a) z ?_ om);exact AZ
theorem PktB.setMeta (h:PktB base w X x r v f m fs) (hj:j<x.metas.length) (hk:k<B*B):∃g cap,m= .slice (some ⟨g,0,none⟩) x.metas.length cap/\base<=g/\g<w.heap.size/\g≠X/\(x.metas.length:Int)<=(cap:Int)/\
 (∀ q,w.frozen? ⟨g,q,none⟩=false)/\(∃ y,w.cell? ⟨g,j*2,none⟩=some y)/\(∃ y,w.cell? ⟨g,j*2+1,none⟩=some y)/\
 PktB base ((w.setCell ⟨g,j*2,none⟩ (.int .u64 ((k/B:Nat):Int))).setCell ⟨g,j*2+1,none⟩ (.int .u64 ((k%B:Nat):Int))) X { x with metas:=x.metas.set j k } r v f m fs:=by
 obtain ⟨g,cap,rfl,g1,g2,g3,g4,g5,g6⟩:=eF h.hm.1 om;have hlen:(x.metas.flatMap eU).length=x.metas.length*2:=eC fK.len _;have ha:([r,v,f, .slice (some ⟨g,0,none⟩) x.metas.length cap]++fs)[3]?=some (.slice (some ⟨g,0,none⟩) x.metas.length cap):=rfl;refine ⟨g,cap,rfl,g1,g2,h.nX ha rfl,om,g6,⟨_,g5 (j*2) _ (bS om)⟩,⟨_,g5 (j*2+1) _ (bS om)⟩,?_⟩;obtain ⟨s1,s2⟩:=h.row (w':=(w.setCell ⟨g,j*2,none⟩ (.int .u64 ((k/B:Nat):Int))).setCell ⟨g,j*2+1,none⟩ (.int .u64 ((k%B:Nat):Int))) ha rfl (fun q hq=>bj w g _ _ _ _ hq);refine ⟨s1,aG h.hr (s2 0 r rfl om),aG h.hv (s2 1 v rfl om),aG h.hf (s2 2 f rfl om),fun a z l' h1 h2=>(h.hfs a z l' h1 h2).far (s2 (4+a) z ?_ om),h.hm.set hj hk,h.lo,h.nd⟩;exact AZ
theorem PktB.valid (h:PktB base w X x r v f m fs) (b:Bool) (hj:j<x.valid.length):∃g cap,v= .slice (some ⟨g,0,none⟩) x.valid.length cap/\base<=g/\g<w.heap.size/\g≠X/\(x.valid.length:Int)<=(cap:Int)/\
 (∀ q,w.frozen? ⟨g,q,none⟩=false)/\(∃ y,w.cell? ⟨g,j,none⟩=some y)/\
 PktB base (w.setCell ⟨g,j,none⟩ (.bool b)) X { x with valid:=x.valid.set j b } r v f m fs:=by
 obtain ⟨g,cap,rfl,g1,g2,g3,g4,g5,g6⟩:=eF h.hv om;have ha:([r, .slice (some ⟨g,0,none⟩) x.valid.length cap,f,m]++fs)[1]?=some (.slice (some ⟨g,0,none⟩) x.valid.length cap):=rfl;refine ⟨g,cap,rfl,g1,g2,h.nX ha rfl,om,g6,⟨_,g5 j _ (bS (by simpa using hj))⟩,?_⟩;obtain ⟨s1,s2⟩:=h.row (w':=w.setCell ⟨g,j,none⟩ (.bool b)) ha rfl (fun q hq=>heap_setCell_other w _ q _ hq);refine ⟨s1,aG h.hr (s2 0 r rfl om),?_,aG h.hf (s2 2 f rfl om),fun a z l' h1 h2=>(h.hfs a z l' h1 h2).far (s2 (4+a) z ?_ om),h.hm.far (s2 3 m rfl om),h.lo,h.nd⟩
 ·have:=kW h.hv (i:=j) (by simpa using hj) (.bool b);rw[<- List.map_set] at this;rw[List.length_set];exact this
 exact AZ
theorem PktB.getValid (h:PktB base w X x r v f m fs) {b:Bool} (hj:x.valid[j]?=some b):∃g cap,v= .slice (some ⟨g,0,none⟩) x.valid.length cap/\(x.valid.length:Int)<=(cap:Int)/\w.cell? ⟨g,j,none⟩=some (.bool b):=by
 have hlt:=(bO hj).1;obtain ⟨g,cap,rfl,g1,g2,g3,g4,g5,g6⟩:=eF h.hv om;exact ⟨g,cap,rfl,om,g5 j _ (by rw[List.getElem?_map,hj];rfl)⟩
theorem PktB.getRow (h:PktB base w X x r v f m fs) {i:Nat} {l:List Nat} (hi:x.fields[i]?=some l):∃g cap u,f= .slice (some ⟨g,0,none⟩) x.fields.length cap/\(x.fields.length:Int)<=(cap:Int)/\w.cell? ⟨g,i,none⟩=some u/\fs[i]?=some u/\NOwn base w u l:=by
 have hlt:=(bO hi).1;obtain ⟨g,cap,e,g1,g2,g3,g4,g5,g6⟩:=eF h.hf om;have hu:=bS (l:=fs) (i:=i) (by rw[h.flen];exact hlt);exact ⟨g,cap,_,e,om,g5 i _ hu,hu,h.hfs i _ l hu hi⟩
end
theorem PktB.c9 {x:Pkt} (h:PktB base w X x r v f m fs):w.cell? ⟨X,0,none⟩=some (.int .i64 x.port)/\w.cell? ⟨X,1,none⟩=some (r)/\w.cell? ⟨X,2,none⟩=some (v)/\w.cell? ⟨X,3,none⟩=some (f)/\w.cell? ⟨X,4,none⟩=some (m)/\w.cell? ⟨X,5,none⟩=some (.bool x.dropped)/\w.cell? ⟨X,6,none⟩=some (.bool x.sent)/\w.cell? ⟨X,7,none⟩=some (.int .i64 x.egress)/\w.cell? ⟨X,8,none⟩=some (.bool x.access):=⟨PktB.cell h (i:=0) rfl,PktB.cell h (i:=1) rfl,PktB.cell h (i:=2) rfl,PktB.cell h (i:=3) rfl,PktB.cell h (i:=4) rfl,PktB.cell h (i:=5) rfl,PktB.cell h (i:=6) rfl,PktB.cell h (i:=7) rfl,PktB.cell h (i:=8) rfl⟩
open Stab
def fT (x:Pkt) (args:List Nat) (st:List (Nat×Int)) (n:Nod):List (Nat×Int):=
 if n.op<=6 then (ir x args n%2 ^ sh n.w,n.w)::st
 else if fO n.op then (match st with|[]=>[]|a::r=>(kM n a.1%2 ^ sh n.w,n.w)::r)
 else (match st with|b::a::r=>(eT n a.1 b.1 b.2%2 ^ sh n.w,n.w)::r|_=>[])
def ct (x:Pkt) (args:List Nat) (c:List Nod):Nat:=match c.foldl (fT x args) [] with|a::_=>a.1|[]=>0
def co (x:Pkt) (c:List Nod):Bool:=c.any (eO x)
theorem o8 {op:Int} (h:fO op):¬op<=6:=by unfold fO at h;omega
theorem lS {p:Prg} {w:Int} (x:Pkt) (args:List Nat) (h:WTr p act t w):∀st,t.flat.foldl (fT x args) st=(pH x args t,t.root.w)::st:=by
 induction h with
 |leaf n h1 h2 _ _=>
  intro st;simp only[Tr.flat,List.foldl_cons,List.foldl_nil,Tr.root,pH];unfold fT;rw[if_pos h2]
 |un n t w hu _ _ _ _ ih=>
  intro st;simp only[Tr.flat,List.foldl_append,List.foldl_cons,List.foldl_nil,ih st,Tr.root,pH];unfold fT;rw[if_neg (o8 hu),if_pos hu]
 |bin n a b wa wb h1 hu _ _ _ h6 h7 iha ihb=>
  intro st;have hop:=lF h6 h7;simp only[Tr.flat,List.foldl_append,List.foldl_cons,List.foldl_nil,iha st,ihb,Tr.root,pH];unfold fT;rw[if_neg om,if_neg hu]
theorem lT {p:Prg} {w:Int} (x:Pkt) (args:List Nat) (h:WTr p act t w):ct x args t.flat=pH x args t:=by
 unfold ct;rw[lS x args h]
theorem lU {x:Pkt} {n:Nod} (h:¬n.op<=6):eO x n=false:=by unfold eO;rw[decide_eq_false om];rfl
theorem ud {p:Prg} {w:Int} (x:Pkt) (h:WTr p act t w):co x t.flat=iM x t:=by
 unfold co;induction h with
 |leaf n _ _ _ _=>simp[Tr.flat,iM]
 |un n t w hu _ _ _ _ ih=>simp[Tr.flat,iM,ih,lU (o8 hu)]
 |bin n a b wa wb h1 hu _ _ _ h6 h7 iha ihb=>
  have hop:=lF h6 h7;simp[Tr.flat,iM,iha,ihb,lU (x:=x) (n:=n) om]
def ck (l:List Ent) (tab:Int) (ks:List Nat):Nat->Int
 |0=>-1
 |k+1=>if cP (bz l (k:Int)) tab ks=true/\(ck l tab ks k<0\/nA l (k:Int) (ck l tab ks k)=true) then (k:Int) else ck l tab ks k
theorem kg (l:List Ent) (tab:Int) (ks:List Nat):∀k,Best l tab ks k (ck l tab ks k)
 |0=>Best.zero l tab ks
 |k+1=>by
  have ih:=kg l tab ks k;rw[ck];cases hm:cP (bz l (k:Int)) tab ks
  ·rw[if_neg sm];exact ih.no hm
  ·by_cases hc:ck l tab ks k<0
   ·rw[if_pos ⟨rfl, .inl hc⟩];have e:ck l tab ks k= -1:=by
     rcases ih with ⟨h,-⟩|⟨h,-⟩
     ·exact h
     ·omega
    rw[e] at ih;exact ih.first hm
   ·obtain ⟨c,hcc⟩:∃c:Nat,ck l tab ks k=(c:Int):=⟨(ck l tab ks k).toNat,om⟩;rw[hcc] at ih⊢;cases hl:nA l (k:Int) (c:Int)
    ·rw[if_neg (by rintro ⟨-,h|h⟩;omega;cases h)];exact ih.keep hl
    ·rw[if_pos ⟨rfl, .inr rfl⟩];exact ih.next hm hl
def jt (l:List Ent) (tab:Int) (ks:List Nat) (a0:Int):Int:=if ck l tab ks l.length<0 then a0 else (bz l (ck l tab ks l.length)).act
def lV (l:List Ent) (tab:Int) (ks:List Nat) (g0:List Nat):List Nat:=if ck l tab ks l.length<0 then g0 else (bz l (ck l tab ks l.length)).args
theorem sY (l:List Ent) (tab:Int) (ks:List Nat) (a0:Int) (g0:List Nat):Look l tab ks a0 g0 (jt l tab ks a0) (lV l tab ks g0):=⟨_,kg l tab ks _,rfl,rfl⟩
def kh (p:Prg) (h f:Int):Int:=(p.heads.getD h.toNat []).getD f.toNat 0
def gj (p:Prg) (x:Pkt) (h f:Int) (n:Nat):Pkt:=
 if fJ x h f then (if x.valid.getD h.toNat false=true then { x with fields:=x.fields.set h.toNat ((x.fields.getD h.toNat []).set f.toNat (n%2 ^ sh (kh p h f))) } else { x with access:=true }) else x
def ba (x:Pkt) (h:Int) (on:Bool):Pkt:=
 if 0<=h/\h<(x.valid.length:Int)/\h<(x.fields.length:Int)/\x.valid.getD h.toNat false≠on then { x with valid:=x.valid.set h.toNat on,fields:=x.fields.set h.toNat ((x.fields.getD h.toNat []).map fun _=>0) } else x
def aQ (x:Pkt) (c:List Nod):Pkt:={ x with access:=x.access||co x c }
def dw (p:Prg) (args:List Nat) (x:Pkt) (i:Ist):Pkt:=
 if i.k=1 then gj p (aQ x i.e) i.a i.b (ct x args i.e)
 else if i.k=2 then { aQ x i.e with metas:=x.metas.set i.a.toNat (ct x args i.e%2 ^ sh (p.metas.getD i.a.toNat 0)) }
 else if i.k=4 then { x with dropped:=true }
 else if i.k=5 then { aQ x i.e with egress:=(ct x args i.e:Nat),sent:=true,dropped:=false }
 else if i.k=6 then ba x i.a (decide (i.b=1))
 else if i.k=7 then aQ x i.e
 else x
def bB (args:List Nat) (x:Pkt) (i:Ist) (at':Nat):Nat:=if i.k=8\/(i.k=7/\ct x args i.e=0) then i.to.toNat else at'+1
def hQ (c:List Ist) (k:Nat):Ist:=c.getD k ⟨0,0,0,[],0⟩
def ic (p:Prg) (ap:Pkt->Ist->Pkt) (args:List Nat) (c:List Ist):Nat->Nat->Pkt->Pkt
 |0,_,x=>x
 |k+1,at',x=>if at'<c.length then (let i:=hQ c at';ic p ap args c k (bB args x i at') (if i.k=3 then ap x i else dw p args x i)) else x
def nB (p:Prg) (args:List Nat) (c:List Ist) (x:Pkt):Pkt:=ic p (fun x _=>x) args c c.length 0 x
def dT (x:Pkt) (cs:List (List Nod)):Pkt:={ x with access:=x.access||cs.any (co x) }
def dK (p:Prg) (i:Int):Tbl:=p.tabs.getD i.toNat ⟨[],[],[],0,[]⟩
def cZ (p:Prg) (i:Int):Actn:=p.acts.getD i.toNat ⟨[],[]⟩
def ki (x:Pkt) (cs:List (List Nod)):List Nat:=cs.map (ct x [])
def eK (p:Prg) (l:List Ent) (x:Pkt) (i:Ist):Pkt:=
 let t:=dK p i.a
 let ks:=ki x t.keys
 nB p (lV l i.a ks t.dargs) (cZ p (jt l i.a ks t.dact)).body (dT x t.keys)
def wh (p:Prg) (l:List Ent) (args:List Nat) (c:List Ist) (x:Pkt):Pkt:=ic p (eK p l) args c c.length 0 x
end Go.Proofs.YtjfhfaodbjecdaaGreat
