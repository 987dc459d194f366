/- Lemmas. -/
import Derived.Test.YtikilcbpogfgkaaGreatJI31
set_option maxHeartbeats 12800000
set_option maxRecDepth 100000
namespace Go.Proofs.YtikilcbpogfgkaaGreat
open Go.RowKit Stab
variable {b E sz base X k h:Nat} {x:Pkt} {r m f:Value} {fs:List Value} {ws:List Int}
theorem own_ne {w:World} {n b' E' sz' n':Nat} {v v':Value} {xs xs':List Value} (h:w.ownsRow b E sz v n xs) (h':w.ownsRow b' E' sz' v' n' xs') (hE:E≠E'):∀k,v.ownBlock=some k->∀k',v'.ownBlock=some k'->k≠k':=by
 intro k e k' e' q;subst q;obtain ⟨c,h1,-⟩:=own_type h e;obtain ⟨c',h2,-⟩:=own_type h' e';rw[h1] at h2;simp only[Option.some.injEq,Obj.cells.injEq] at h2;exact hE h2.2.1
theorem own_keep {w w':World} {n:Nat} {v:Value} {xs:List Value} (h:w.ownsRow b E sz v n xs) (hb:Bl w w'):w'.ownsRow b E sz v n xs:=own_far h fun k e=>hb.block k (own_size h e).2
theorem numE:(82:Nat)≠5/\(82:Nat)≠4/\(5:Nat)≠4:=by decide
theorem PktO.start {B:Nat} {w:World} {v:Value} (h1:w.ownsRow B 5 1 r x.rest.length (x.rest.map (Value.int .u8))) (h2:w.ownsRow B 4 1 v x.valid.length (x.valid.map Value.bool)) (h3:NOwn B w m x.metas) (hf:x.fields=[]):PktO B w x r v (.slice none 0 0) m []:=by
 refine ⟨h1,h2,?_,fun i u l h=>by simp at h,h3,?_⟩
 ·rw[hf];exact World.ownsRow_nil _ _ _ _
 rw[List.append_nil];unfold List.Nodup;rw[List.pairwise_filterMap];simp only[List.pairwise_cons,List.mem_cons,List.not_mem_nil,or_false,forall_eq_or_imp,forall_eq,List.Pairwise.nil,and_true,false_implies,implies_true];refine ⟨⟨own_ne h1 h2 numE.2.2,(fun _ _ _ e=>nomatch e),own_ne h1 h3.1 numE.1.symm⟩,⟨(fun _ _ _ e=>nomatch e),own_ne h2 h3.1 numE.2.1.symm⟩,(fun _ e=>nomatch e)⟩
theorem PktO.push {B:Nat} {w w1 w2:World} {v f' u:Value} {l:List Nat} {n:Nat} (h:PktO B w x r v f m fs) (hB:B<=w.heap.size) (hb:Bl w w1) (hu:NOwn w.heap.size w1 u l) (hn:n=x.fields.length+1)
 (ho:w2.ownsRow B 43 1 f' n (fs++[u])) (hg:w1.grownBy w2 f.ownBlock) (hf:f'.ownBlock=f.ownBlock\/∀k,f'.ownBlock=some k->w1.heap.size<=k):PktO B w2 { x with fields:=x.fields++[l] } r v f' m (fs++[u]):=by
 have hnd:∀z∈[r,v,m]++fs,∀k,z.ownBlock=some k->f.ownBlock≠some k:=by
  have h1:=h.nd;unfold List.Nodup at h1;rw[List.pairwise_filterMap] at h1;simp only[List.cons_append,List.nil_append,List.pairwise_cons,List.mem_cons,forall_eq_or_imp] at h1;obtain ⟨⟨-,a2,-⟩,⟨b1,-⟩,⟨c1,c2⟩,-⟩:=h1;intro z hz k e q;simp only[List.cons_append,List.nil_append,List.mem_cons] at hz;rcases hz with rfl|rfl|rfl|hz
  ·exact a2 k e k q rfl
  ·exact b1 k e k q rfl
  ·exact c1 k q k e rfl
  exact c2 z hz k q k e rfl
 have hlt:=h.blk;have hk:∀z∈[r,v,m]++fs,∀k,z.ownBlock=some k->w2.heap[k]?=w.heap[k]?:=fun z hz k e=>by
  have h1:=hlt z (by simp only[List.cons_append,List.nil_append,List.mem_cons] at hz⊢;rcases hz with q|q|q|q<;>simp[q]) k e;exact (hg.block k (Nat.lt_of_lt_of_le h1.2 hb.size) fun q=>hnd z hz k e q.symm).trans (hb.block k h1.2)
 have hun:∀k,u.ownBlock=some k->w.heap.size<=k/\k<w1.heap.size:=fun k e=>own_size hu.1 e
 have hfn:∀k,f.ownBlock=some k->k<w.heap.size:=fun k e=>(own_size h.hf e).2
 refine ⟨own_far h.hr (hk r sm),own_far h.hv (hk v sm),?_,?_,h.hm.far (hk m sm),?_⟩
 ·show w2.ownsRow B _ 1 f' (x.fields++[l]).length _;rw[List.length_append,List.length_singleton, <-hn];exact ho
 ·intro i z q h1 h2;have h2:(x.fields++[l])[i]?=some q:=h2;have hfl:=h.flen;by_cases hi:i<fs.length
  ·rw[List.getElem?_append_left hi] at h1;rw[List.getElem?_append_left om] at h2;exact (h.hfs i z q h1 h2).far (hk z (by have:=gM_ h1;simp[this]))
  have hi2:i=fs.length:=by
   have:=(gL_ h1).1;simp only[List.length_append,List.length_singleton] at this;omega
  subst hi2;rw[List.getElem?_append_right lr,Nat.sub_self] at h1;rw[hfl,List.getElem?_append_right lr,Nat.sub_self] at h2;simp only[List.getElem?_cons_zero,Option.some.injEq] at h1 h2;subst h1 h2;have h3:=hu.far (w':=w2) fun k e=>hg.block k (hun k e).2 fun q=>by have:=hfn k q.symm;have:=(hun k e).1;omega
  exact ⟨own_base h3.1 hB,h3.2⟩
 have h1:=h.nd;unfold List.Nodup at h1⊢;rw[List.pairwise_filterMap] at h1⊢;simp only[List.cons_append,List.nil_append,List.pairwise_cons,List.mem_cons,forall_eq_or_imp,List.mem_append,List.pairwise_append,List.not_mem_nil,or_false,forall_eq,List.Pairwise.nil,and_true] at h1⊢;obtain ⟨⟨a1,a2,a3,a4⟩,⟨b1,b2,b3⟩,⟨c1,c2⟩,d1,e1⟩:=h1;have hF:∀z∈[r,v,m]++fs,∀k,z.ownBlock=some k->∀k',f'.ownBlock=some k'->k≠k':=fun z hz k e k' e' q=>by
  subst q;rcases hf with hf|hf
  ·exact hnd z hz k e (hf ▸ e')
  ·have h1:=hlt z (by simp only[List.cons_append,List.nil_append,List.mem_cons] at hz⊢;rcases hz with q|q|q|q<;>simp[q]) k e;have:=hf k e';have:=hb.size;omega
 have hU:∀z∈[r,v,m]++fs,∀k,z.ownBlock=some k->∀k',u.ownBlock=some k'->k≠k':=fun z hz k e k' e' q=>by
  have h1:=hlt z (by simp only[List.cons_append,List.nil_append,List.mem_cons] at hz⊢;rcases hz with q|q|q|q<;>simp[q]) k e;have:=(hun k' e').1;omega
 have hFU:∀k,f'.ownBlock=some k->∀k',u.ownBlock=some k'->k≠k':=fun k e k' e' q=>by
  have h1:=hun k' e';rcases hf with hf|hf
  ·have:=hfn k (hf ▸ e);omega
  ·have:=hf k e;omega
 refine ⟨⟨a1,hF r sm,a3,fun z hz=>?_⟩,⟨hF v sm,b2,fun z hz=>?_⟩,⟨fun k e k' e'=>(hF m sm k' e' k e).symm,fun z hz=>?_⟩,fun z hz=>?_,e1,fun _ q=>q.elim,fun z hz=>hU z (by simp[hz])⟩
 ·rcases hz with hz|rfl
  ·exact a4 z hz
  exact hU r sm
 ·rcases hz with hz|rfl
  ·exact b3 z hz
  exact hU v sm
 ·rcases hz with hz|rfl
  ·exact fun k e k' e'=>(hF z (by simp[hz]) k' e' k e).symm
  exact hFU
 rcases hz with hz|rfl
 ·exact d1 z hz
 exact hU m sm
theorem made_nums (W:World) (n:Nat) (hn:n<=1000000):(Instr.makeSlice 43 (.int .i64 (n:Int)) (.int .i64 (n:Int))).run Tryz.prog W= .ok (.slice (some ⟨W.heap.size,0,none⟩) n n) (W.alloc (.cells (madeCells #[.int .u64 0, .int .u64 0] (n*2)) 82)):=by
 obtain ⟨i0,hi,hz0,hz1,hz2⟩:=info_parts infoNum;have:=run_make (P:=Tryz.prog) (w:=W) 43 82 i0 _ Tryz.underlying43 hi hz0 .i64 .i64 (n:Int) (n:Int) om (Int.le_refl _) (by rw[hz2];omega) om;rw[hz1] at this;simp only[Int.toNat_natCast] at this;exact this
theorem made_bools (W:World) (n:Nat) (hn:n<=1000000):(Instr.makeSlice 41 (.int .i64 (n:Int)) (.int .i64 (n:Int))).run Tryz.prog W= .ok (.slice (some ⟨W.heap.size,0,none⟩) n n) (W.alloc (.cells (madeCells #[.bool false] n) 4)):=by
 obtain ⟨i0,hi,hz0,hz1,hz2⟩:=info_parts elemB.inf;have:=run_make (P:=Tryz.prog) (w:=W) 41 4 i0 _ Tryz.underlying41 hi hz0 .i64 .i64 (n:Int) (n:Int) om (Int.le_refl _) (by rw[hz2];omega) om;rw[hz1] at this;simp only[Int.toNat_natCast,Nat.mul_one] at this;exact this
theorem own_nums (W:World) (n:Nat) (hn:n<=1000000):NOwn W.heap.size (W.alloc (.cells (madeCells #[.int .u64 0, .int .u64 0] (n*2)) 82)) (.slice (some ⟨W.heap.size,0,none⟩) n n) (List.replicate n 0):=by
 refine ⟨?_,fun y hy=>by rw[List.mem_replicate] at hy;rw[hy.2];decide⟩;rw[List.length_replicate, <-zero_flat n];exact World.ownsRow_lit W _ n lr (by unfold maxLen;omega) (size_madeCells _ _)
theorem own_bools (W:World) (n:Nat) (hn:n<=1000000):(W.alloc (.cells (madeCells #[.bool false] n) 4)).ownsRow W.heap.size 4 1 (.slice (some ⟨W.heap.size,0,none⟩) n n) n ((List.replicate n false).map Value.bool):=by
 rw[List.map_replicate, <-toList_madeCells_one];exact World.ownsRow_lit W _ n lr (by unfold maxLen;omega) (by rw[size_madeCells,Nat.mul_one])
open Go.RowKit
theorem ownsRow_mono2 {w:World} {base' e size n:Nat} {v:Value} {xs:List Value} (h:w.ownsRow base e size v n xs) (hb:base'<=base):w.ownsRow base' e size v n xs:=by
 obtain ⟨hl,h⟩:=h;refine ⟨hl,?_⟩;rcases h with h|⟨g,cap,cur,h1,h2,h3⟩
 ·exact .inl h
 exact .inr ⟨g,cap,cur,h1,om,h3⟩
theorem grownBy_none2 {w w':World} (h:w.grownBy w' none) (row:Option Nat):w.grownBy w' row:=⟨h.os,h.tape,h.output,h.size,fun i hi _=>h.block i hi sm⟩
theorem step_app2 {P:Program} {ops:Array Oper} {o:Oper} {a:Act} {w:World} {K:Act->World->Prop} {Q:Exit->Act->World->Prop} {E:Prop}
 (hgd:o.guard=none) (s x:Operand) (t:TypeId)
 (ho:o.op=Op.call { callee:=Callee.builtin Builtin.append,args:=#[s,x],argTypes:=#[t,t] })
 (e:TypeId) (i:TypeInfo) (z:Value) (size bytes:Nat) (ht:P.underlying t=some (.slice e)) (hi:P.info? e=some i) (hz:i.zero=some z)
 (hsize:i.size=size) (hby:i.bytes=bytes) (hzs:z.cells.size=size) (hsz:0<size)
 (v:Value) (n:Nat) (xs:List Value) (hs:a.eval s=v) (hown:w.ownsRow 0 e size v n xs)
 (ad:Addr) (m c:Nat) (news:List Value) (hx:a.eval x= .slice (some ad) m c) (hl:news.length=m*size) (hnews:∀j u,news[j]?=some u->w.cell? (ad.add j)=some u) (h1:∀u∈news,u.oneCell'=true)
 (h63:n+m<=maxLen) (hbytes:(n+m)*bytes<=140737488355328)
 (h:∀v' w',w'.ownsRow 0 e size v' (n+m) (xs++news)->w.grownBy w' v.ownBlock->(v'.ownBlock=v.ownBlock\/∀k,v'.ownBlock=some k->w.heap.size<=k)->K (a.put o.dst v') w'):
 if Region.wanted o (yielded ops a.tmps)=true then Oper.wp P o a w K Q else E:=by
 have hw:Region.wanted o (yielded ops a.tmps)=true:=by simp[Region.wanted,hgd]
 rw[if_pos hw];have hown':=hown;obtain ⟨hlx,hsh⟩:=hown;rcases hsh with ⟨rfl,rfl⟩|⟨g,cap,cur,rfl,hg0,hg1,hg2,hg3,hg4,hg5⟩
 ·have hxs:xs=[]:=List.eq_nil_of_length_eq_zero (by simpa using hlx);subst hxs;obtain ⟨v',w',hrun,r1,r2,_⟩:=run_append_own (P:=P) w w.heap.size t o.type e i z size bytes ht hi hz hsize hby hzs hsz (.slice none 0 0) 0 [] (World.ownsRow_nil w _ e size) ad m c news hl hnews h1 h63 hbytes lr;unfold Oper.wp;simp[execOp,ho,resolve,invoke,builtin,hs,hx,hrun,Result.andThen];exact h v' w' (ownsRow_mono2 r1 (zl)) r2 (.inr fun k hk=>(r1.lt k hk).1)
 by_cases hroom:n+m<=cap
 ·obtain ⟨w',hrun,r1,r2⟩:=run_append_fits (P:=P) w 0 t o.type e i size ht hi hsize g n cap xs hown' ad m c news hl hnews h1 hroom;unfold Oper.wp;simp[execOp,ho,resolve,invoke,builtin,hs,hx,hrun,Result.andThen];exact h _ w' r1 r2 (.inl rfl)
 obtain ⟨v',w',hrun,r1,r2⟩:=run_append_arg_grows (P:=P) w t o.type e i z size bytes ht hi hz hsize hby hzs hsz ⟨g,0,none⟩ n cap xs (by simpa using hlx) (hown'.cells rfl) ad m c news hl hnews om h63 hbytes;unfold Oper.wp;simp[execOp,ho,resolve,invoke,builtin,hs,hx,hrun,Result.andThen];exact h v' w' (ownsRow_mono2 r1 (zl)) (grownBy_none2 r2 _) (.inr fun k hk=>(r1.lt k hk).1)
open Go.RowKit Stab
theorem cloneO_any (bv:Value) (xs:List Int) (w:World) (h:URow w bv xs) (hl:xs.length<=1000000):Calls Tryz.prog 35 #[bv] w fun e w'=>(∃ v,e= .returned v/\w'.ownsRow w.heap.size 5 1 v xs.length (xs.map (Value.int .u8)))/\Bl w w':=by
 obtain ⟨pa,cap,rfl,h1,h2,h4,h5⟩:=h;have h:URow w (.slice pa xs.length cap) xs:=⟨pa,cap,rfl,h1,h2,h4,h5⟩;have HX:=hD h;clear h5;obtain ⟨n,hn⟩:=nm xs.length;rw[<- hn] at h1 HX hl⊢;have HN:=hD hn;cases pa with
 |none=>
  obtain rfl:=h4 rfl;obtain rfl:n=0:=om;obtain rfl:xs=[]:=List.eq_nil_of_length_eq_zero hn.symm;clear hn h h1 h2 h4;have hnil:∀W,(binOp .eql 35 (.slice none 0 0) (.slice none 0 0)).run Tryz.prog W= .ok (.bool true) W:=fun W=>by
   simpa using Lib.run_eql_slice_nil (P:=Tryz.prog) W 35 5 none 0 0 0 0 Tryz.underlying35
  go_enter Tryz.func35,Tryz.ntmps35;go_wp2_with fail;go_ret;exact ⟨⟨_,rfl,World.ownsRow_nil _ _ _ _⟩,bL⟩
 |some p=>
  have HS:Hd (∀ W,Bl w W->SrcAt W 1 (.slice (some p) n cap) n (xs.flatMap fun n=>[Value.int .u8 n])):=fun W hW=>by
   have:=(HX.o.below keepU hW).src flatU.toFlatG
   rwa [<- hn] at this
  clear hn h h4;have hnil:∀W,(binOp .eql 35 (.slice (some p) n cap) (.slice none 0 0)).run Tryz.prog W= .ok (.bool false) W:=fun W=>by
   simpa using Lib.run_eql_slice_nil (P:=Tryz.prog) W 35 5 (some p) n cap 0 0 Tryz.underlying35
  go_enter Tryz.func35,Tryz.ntmps35;go_wp2_with (first
   |(at_builtin;refine append_gen elemU8 rfl (.tmp 5) (.tmp 6) rfl w.heap.size (.slice (some ⟨w.heap.size,0,none⟩) 0 0) 0 [] rfl (owns_made0 w 5 1) (.slice (some p) n cap) n _ rfl (HS.o _ (br.alloc lr _)) om (by unfold maxLen;omega) sm ?_;intro y1 w1 h1 h2;have HO1:=hD h1;have HB1:Hd (Bl w w1):=below_grown (br.alloc lr _) (owns_made0 w 5 1) h2 lr sm;clear h1 h2))
  go_ret;refine ⟨⟨_,rfl,?_⟩,HB1.o⟩;have:=HO1.o;rw[Nat.zero_add,List.nil_append,flat_u8] at this;exact this
def newX (port:Int) (xs:List Int) (hn mn:Nat) (fs:List (List Nat)):Pkt:=⟨port,xs,List.replicate hn false,fs,List.replicate mn 0,false,false,0,false⟩
theorem own_sh3 {w:World} {n:Nat} {v:Value} {xs:List Value} (h:w.ownsRow b E sz v n xs):∃p n c,v= .slice p n c:=by
 obtain ⟨p,c,e⟩:=own_sh h;exact ⟨p,n,c,e⟩
theorem newestD (w:World) (o:Obj) (z:Value) (t:TypeId):∀(j:Nat) (u:Value),[z][j]?=some u->(((w.alloc o).alloc (.cells #[z] t)).drew).cell? ((⟨w.heap.size+1,0,none⟩:Addr).add j)=some u:=by
 intro j u h;match j,h with
 |0,h=>cases h;simp[go_sem]
theorem nown_nextD {W:World} {v:Value} {l:List Nat} (h:NOwn b W v l) (o:Obj):NOwn b (W.alloc o).drew v l:=⟨own_keep h.1 ((br.alloc lr o).drew),h.2⟩
theorem packE:(45:Nat)≠5/\(45:Nat)≠4/\(45:Nat)≠82/\(45:Nat)≠43:=by decide
theorem PktO.not {B:Nat} {w:World} {v:Value} (h:PktO B w x r v f m fs) {g:Nat} {cs:Array Value} {z:Nat×Nat} (hg:w.heap[g]?=some (.cells cs 45 z)):∀q∈[r,v,f,m]++fs,q.ownBlock≠some g:=by
 have key:∀{b E sz n:Nat} {q:Value} {l:List Value},w.ownsRow b E sz q n l->(45:Nat)≠E->q.ownBlock≠some g:=fun h1 hE e=>by
  obtain ⟨c,h2,-⟩:=own_type h1 e;rw[hg] at h2;simp only[Option.some.injEq,Obj.cells.injEq] at h2;exact hE h2.2.1
 intro q hq;simp only[List.cons_append,List.nil_append,List.mem_cons] at hq;rcases hq with rfl|rfl|rfl|rfl|hq
 ·exact key h.hr packE.1
 ·exact key h.hv packE.2.1
 ·exact key h.hf packE.2.2.2
 ·exact key h.hm.1 packE.2.2.1
 obtain ⟨i,hi⟩:=List.getElem?_of_mem hq;have hl:=(gL_ hi).1;exact key (h.hfs i q _ hi (gE_ (by have:=h.flen;omega))).1 packE.2.2.1
theorem PktO.keeps {B:Nat} {w w':World} {v:Value} (h:PktO B w x r v f m fs) (hk:∀q∈[r,v,f,m]++fs,∀k,q.ownBlock=some k->w'.heap[k]?=w.heap[k]?):PktO B w' x r v f m fs:=
 ⟨own_far h.hr (hk r sm),own_far h.hv (hk v sm),own_far h.hf (hk f sm),fun i u l h1 h2=>(h.hfs i u l h1 h2).far (hk u (by have:=gM_ h1;simp[this])),h.hm.far (hk m sm),h.nd⟩
theorem newA_any (s:PgS) (p:Prg) (port:Int) (bp:Option Addr) (n bc:Nat) (xs:List Int) (w:World) (hp:PgOk w s p) (hS:Sm p) (hb:URow w (.slice bp n bc) xs) (hl:n<=1000000):
 Calls Tryz.prog 25 #[pgV s, .int .i64 port, .slice bp n bc] w fun e w'=>AnsO port 0 false false false w.heap.size w' (newP p port xs) e/\Bl w w':=by
 have HX:=hD hb;have HNX:Hd (n=xs.length):=hb.ln.1;have HL:=hD hl;have HP:=hD hp;have HHN:Hd (s.hn<=1000000):=by have h1:=hp.heads.ln.1;have h2:=hS.heads;show _<=_;omega
 have HMN:Hd (s.mn<=1000000):=by have h1:=hp.metas.ln.1;have h2:=hS.metas;show _<=_;omega
 have HLN:Hd (s.hn=p.heads.length/\s.mn=p.metas.length):=⟨hp.heads.ln.1,hp.metas.ln.1⟩;have HSM:=hD hS;obtain ⟨hp0,hhp⟩:∃z,s.hp=z:=⟨_,rfl⟩;have HHP:=hD hhp;unfold pgV;clear hb hp hS hl hhp;go_enter Tryz.func25,Tryz.ntmps25;go_wp2_with fail;rename_i K hK0;have HK:=hD hK0;clear hK0;obtain ⟨W0,hW0⟩:=nm ((w.alloc (.cells (pA s) 33)).alloc (.cells zA 45));have HB0:Hd (Bl w W0):=by show Below _ _ _;rw[hW0];exact bL
 have HSZ:Hd (W0.heap.size=w.heap.size+1+1):=by show _=_;rw[hW0];simp
 have HG0:Hd (GBox W0 w.heap.size s):=by show _=_;rw[hW0,Below.heap_alloc _ _ _ sm];exact heap_new _ _
 have HB:Hd (∀ (W:World),Bl W0 W->Cl W w.heap.size 0 (.slice hp0 s.hn s.hc)/\Cl W w.heap.size 1 (.slice s.mp s.mn s.mc)):=fun W h=>by
  have hg:GBox W w.heap.size s:=(h.block _ (lt_some HG0.o)).trans HG0.o;obtain ⟨q0,q1,-⟩:=hg.cells;rw[HHP.o] at q0;exact ⟨q0,q1⟩
 have HC:Hd (∀ W,Bl W0 W->Calls Tryz.prog 35 #[.slice bp n bc] W fun e w'=>(∃ v,e= .returned v/\w'.ownsRow W.heap.size 5 1 v n (xs.map (Value.int .u8)))/\Bl W w'):=fun W h=>by
  have:=cloneO_any _ xs W (HX.o.below keepU (HB0.o.trans (h.mono HB0.o.size))) (by have:=HNX.o;have:=HL.o;omega);rw[<- HNX.o] at this;exact this
 have HR:Hd (W0.heap[w.heap.size+1]?=some (.cells zA 45 (0,0))):=by
  exact gZ
 rw[<- hW0];clear hW0;refine region_outL kq (fun Wk=>Bl W0 Wk) (fun w1 w2 h1 h2=>h1.trans (h2.mono h1.size)) kq kq (Below.drew br) ?_;refine stqL ?_ (fun aa ww ll hh=>?_) ?_;rotate_left
 ·have e1:=hh.oL 1;refine ov ?_;rw[xmv e1]
 refine stqL ?_ (fun aa ww ll hh=>?_) ?_;rotate_left
 ·have e2:=hh.oL 2;refine ov ?_;rw[xmv e2]
 refine ⟨.rel (fun W v=>W.ownsRow W0.heap.size 5 1 v n (xs.map (Value.int .u8))),(fun _ _ _ h hb=>own_keep h hb),rfl,fun aa ww ll hh=>?_,?_⟩
 ·have e11:=hh.gt 1 0;have ef:=evf aa;have hsz:=hh.inv.size;refine out_call (wanted_none rfl) ?_ ((HC.o ww hh.inv).mono ?_)
  ·clear hh;generalize aa.eval=ev at e11 ef⊢;go_simp
  rintro e w1 ⟨⟨v,rfl,h1⟩,h2⟩;exact ⟨_,rfl,own_base h1 hsz,h2⟩
 refine stqL ?_ (fun aa ww ll hh=>?_) ?_;rotate_left
 ·have e3:=hh.oL 3;exact ov gX
 refine stqL ?_ (fun aa ww ll hh=>?_) ?_;rotate_left
 ·have e13:=hh.gt 3 0;exact ov (fC (HB.o ww hh.inv))
 refine stqL ?_ (fun aa ww ll hh=>?_) ?_;rotate_left
 ·have e14:=hh.gt 4 0;exact ov (fC (HB.o ww hh.inv))
 refine ⟨.rel (fun W v=>W.ownsRow W0.heap.size 4 1 v s.hn ((List.replicate s.hn false).map Value.bool)),(fun _ _ _ h hb=>own_keep h hb),rfl,fun aa ww ll hh=>?_,?_⟩
 ·have e15:=hh.gt 5 0;have hsz:=hh.inv.size;clear hh;refine out_new (wanted_none rfl) (w':=ww.alloc (.cells (madeCells #[.bool false] s.hn) 4)) (v:= .slice (some ⟨ww.heap.size,0,none⟩) s.hn s.hn) ?_ (br.alloc lr _) (own_base (own_bools ww s.hn HHN.o) hsz);generalize aa.eval=ev at e15⊢;go_simp;rw[made_bools ww s.hn HHN.o];rfl
 refine stqL ?_ (fun aa ww ll hh=>?_) ?_;rotate_left
 ·have e3:=hh.oL 3;exact ov gX
 refine stqL ?_ (fun aa ww ll hh=>?_) ?_;rotate_left
 ·have e17:=hh.gt 7 0;exact ov (fC (HB.o ww hh.inv))
 refine stqL ?_ (fun aa ww ll hh=>?_) ?_;rotate_left
 ·have e18:=hh.gt 8 0;exact ov (fC (HB.o ww hh.inv))
 refine ⟨.rel (fun W v=>NOwn W0.heap.size W v (List.replicate s.mn 0)),(fun _ _ _ h hb=>⟨own_keep h.1 hb,h.2⟩),rfl,fun aa ww ll hh=>?_,?_⟩
 ·have e19:=hh.gt 9 0;have hsz:=hh.inv.size;clear hh;refine out_new (wanted_none rfl) (w':=ww.alloc (.cells (madeCells #[.int .u64 0, .int .u64 0] (s.mn*2)) 82)) (v:= .slice (some ⟨ww.heap.size,0,none⟩) s.mn s.mn) ?_ (br.alloc lr _) ⟨own_base (own_nums ww s.mn HMN.o).1 hsz,(own_nums ww s.mn HMN.o).2⟩;generalize aa.eval=ev at e19⊢;go_simp;rw[made_nums ww s.mn HMN.o];rfl
 refine ⟨.rel (fun W u=>∃r v m,u= .agg #[.int .i64 port,r,v, .slice none 0 0,m, .bool false, .bool false, .int .i64 0, .bool false]/\PktO W0.heap.size W (newX port xs s.hn s.mn []) r v (.slice none 0 0) m []),(fun _ _ _ ⟨r,v,m,h1,h2⟩ hb=>⟨r,v,m,h1,h2.below hb⟩),rfl,fun aa ww ll hh=>?_,?_⟩
 ·have e10:=hh.gt 0 10;obtain ⟨x12,e12,-,p12⟩:=hh.got 2 8 kq rfl rfl rfl;obtain ⟨x16,e16,-,p16⟩:=hh.got 6 4 kq rfl rfl rfl;obtain ⟨x20,e20,-,p20⟩:=hh.got 10 0 kq rfl rfl rfl;have hp:PktO W0.heap.size ww (newX port xs s.hn s.mn []) x12 x16 (.slice none 0 0) x20 []:=PktO.start (by rw[HNX.o] at p12;exact p12) (by unfold newX;rw[List.length_replicate];exact p16) p20 rfl;obtain ⟨b1,m1,d1,rfl⟩:=own_sh3 p12;obtain ⟨b2,m2,d2,rfl⟩:=own_sh3 p16;obtain ⟨b3,m3,d3,rfl⟩:=own_sh3 p20.1;clear hh;refine out_new (wanted_none rfl) (w':=ww) (v:=_) ?_ br ⟨_,_,_,rfl,hp⟩;generalize aa.eval=ev at e10 e12 e16 e20⊢;go_simp;try rfl
 refine ⟨.rel (fun W v=>∃g,v= .pointer (some ⟨g,0,none⟩)/\W0.heap.size<=g/\W.heap[g]?=some (.cells zA 45 (0,0))),(fun _ _ _ ⟨g,h1,h2,h3⟩ hb=>⟨g,h1,h2,(hb.block g (gA_ h3).1).trans h3⟩),rfl,fun aa ww ll hh=>?_,?_⟩
 ·have hsz:=hh.inv.size;clear hh;refine out_new (wanted_none rfl) (w':=ww.alloc (.cells zA 45)) (v:= .pointer (some ⟨ww.heap.size,0,none⟩)) ?_ (br.alloc lr _) ⟨_,rfl,hsz,heap_new _ _⟩;go_simp;try rfl
 intro ll w2 hS hok;have p11:=hok 11 _ rfl;have p12:=hok 12 _ rfl;clear hok;simp only[ly];refine ⟨(by first|trivial|rfl),?_⟩;obtain ⟨r,v,m,hv,hPO⟩:=p11;obtain ⟨rp,rn,rc,rfl⟩:=own_sh3 hPO.hr;obtain ⟨vp,vn,vc,rfl⟩:=own_sh3 hPO.hv;obtain ⟨mp,mn,mc,rfl⟩:=own_sh3 hPO.hm.1;obtain ⟨g,hg,hgl,hgb⟩:=p12;have HPO:=hD hPO;have HGN:Hd (∀ q∈[Value.slice rp rn rc, .slice vp vn vc, .slice none 0 0, .slice mp mn mc]++[],q.ownBlock≠some g):=hPO.not hgb;rw[hv,hg];have c0:w2.cell? ⟨g,0,none⟩=some (.int .i64 0):=by simp[World.cell?,hgb]
 have f0:w2.frozen? ⟨g,0,none⟩=false:=by simp[World.frozen?,hgb]
 have c1:w2.cell? ⟨g,1,none⟩=some (.slice none 0 0):=by simp[World.cell?,hgb]
 have f1:w2.frozen? ⟨g,1,none⟩=false:=by simp[World.frozen?,hgb]
 have c2:w2.cell? ⟨g,2,none⟩=some (.slice none 0 0):=by simp[World.cell?,hgb]
 have f2:w2.frozen? ⟨g,2,none⟩=false:=by simp[World.frozen?,hgb]
 have c3:w2.cell? ⟨g,3,none⟩=some (.slice none 0 0):=by simp[World.cell?,hgb]
 have f3:w2.frozen? ⟨g,3,none⟩=false:=by simp[World.frozen?,hgb]
 have c4:w2.cell? ⟨g,4,none⟩=some (.slice none 0 0):=by simp[World.cell?,hgb]
 have f4:w2.frozen? ⟨g,4,none⟩=false:=by simp[World.frozen?,hgb]
 have c5:w2.cell? ⟨g,5,none⟩=some (.bool false):=by simp[World.cell?,hgb]
 have f5:w2.frozen? ⟨g,5,none⟩=false:=by simp[World.frozen?,hgb]
 have c6:w2.cell? ⟨g,6,none⟩=some (.bool false):=by simp[World.cell?,hgb]
 have f6:w2.frozen? ⟨g,6,none⟩=false:=by simp[World.frozen?,hgb]
 have c7:w2.cell? ⟨g,7,none⟩=some (.int .i64 0):=by simp[World.cell?,hgb]
 have f7:w2.frozen? ⟨g,7,none⟩=false:=by simp[World.frozen?,hgb]
 have c8:w2.cell? ⟨g,8,none⟩=some (.bool false):=by simp[World.cell?,hgb]
 have f8:w2.frozen? ⟨g,8,none⟩=false:=by simp[World.frozen?,hgb]
 clear hv hg hPO;unfold Oper.wp;go_simp;refine HK.o _ _ ?_;clear HK;have hb3:=set9_heap (.int .i64 port) (.slice rp rn rc) (.slice vp vn vc) (.slice none 0 0) (.slice mp mn mc) (.bool false) (.bool false) (.int .i64 0) (.bool false) hgb;have hB3:=set9_below (.int .i64 port) (.slice rp rn rc) (.slice vp vn vc) (.slice none 0 0) (.slice mp mn mc) (.bool false) (.bool false) (.int .i64 0) (.bool false) hS hgl;have hP3:PktO W0.heap.size (set9 w2 g (.int .i64 port) (.slice rp rn rc) (.slice vp vn vc) (.slice none 0 0) (.slice mp mn mc) (.bool false) (.bool false) (.int .i64 0) (.bool false)) (newX port xs s.hn s.mn []) (.slice rp rn rc) (.slice vp vn vc) (.slice none 0 0) (.slice mp mn mc) []:=HPO.o.keeps fun q hq k e=>set9_other w2 (.int .i64 port) (.slice rp rn rc) (.slice vp vn vc) (.slice none 0 0) (.slice mp mn mc) (.bool false) (.bool false) (.int .i64 0) (.bool false) (fun hkg=>HGN.o q hq (hkg ▸ e))
 change Code.wp _ _ _ _ (set9 w2 g (.int .i64 port) (.slice rp rn rc) (.slice vp vn vc) (.slice none 0 0) (.slice mp mn mc) (.bool false) (.bool false) (.int .i64 0) (.bool false));generalize set9 w2 g (.int .i64 port) (.slice rp rn rc) (.slice vp vn vc) (.slice none 0 0) (.slice mp mn mc) (.bool false) (.bool false) (.int .i64 0) (.bool false)=W3 at*;have HP3:=hD hP3;have HB3:=hD hB3;have HX3:Hd (Bx W3 g [.int .i64 port, .slice rp rn rc, .slice vp vn vc, .slice none 0 0, .slice mp mn mc, .bool false, .bool false, .int .i64 0, .bool false]):=hb3;have HGL:=hD hgl;clear c0 f0 c1 f1 c2 f2 c3 f3 c4 f4 c5 f5 c6 f6 c7 f7 c8 f8 hP3 hgb hS hb3 HPO HGN;obtain ⟨q0,q1⟩:=HB.o W3 hB3;clear hB3 q1 hgl;go_wp2_with fail;obtain ⟨i0,hi0,hz0,hz1,hz2⟩:=info_parts elemNs.inf;go_loopw [25,9] (fun i _ wr=>∃(k:Nat) (F:Value) (fs:List Value),k<=s.hn/\i= .int .i64 k/\Hd (PktO W0.heap.size wr (newX port xs s.hn s.mn ((p.heads.take k).map fun l=>List.replicate l.length 0)) (.slice rp rn rc) (.slice vp vn vc) F (.slice mp mn mc) fs)/\Hd (Bx wr g [.int .i64 port, .slice rp rn rc, .slice vp vn vc,F, .slice mp mn mc, .bool false, .bool false, .int .i64 0, .bool false])/\Hd (Bl W0 wr)) (fun i _ _=>s.hn-(intOf i).toNat)
 case atStart=>exact ⟨0,_,_,zl,rfl,HP3.o,HX3.o,HB3.o⟩
 case round=>
  clear q0;obtain ⟨k,F,fs,hk,rfl,HPK,HXK,HBK⟩:=hrel;obtain ⟨pu,cu,rfl⟩:=own_sh HPK.o.hf;have hfl:((p.heads.take k).map fun l=>List.replicate l.length 0).length=k:=by rw[List.length_map,List.length_take,Nat.min_eq_left (by have:=HLN.o;omega)]
  have HFL:=hD hfl;have hfe:(newX port xs s.hn s.mn ((p.heads.take k).map fun l=>List.replicate l.length (0:Nat))).fields.length=k:=hfl;rw[hfe] at HPK HXK;clear hfl;by_cases hlt:k<s.hn
  ·have hki:(k:Int)<(s.hn:Int):=om;have hkl:k<p.heads.length:=by have:=HLN.o;omega
   obtain ⟨xb,xo,lp,ln,lc,hps,hxb,z0,hz⟩:=IsRow.el HP.o.heads (j:=k) hkl;obtain rfl:hp0=some ⟨xb,xo,none⟩:=by rw[<- HHP.o];exact hps
   obtain ⟨ws,hws⟩:=nm (p.heads.getD k []);rw[<- hws] at hz;have hln:ln=ws.length:=hz.ln.1;have hln6:ln<=1000000:=by have:=HSM.o.head ws (by rw[hws];exact gM_ (some_getD (l:=p.heads) (j:=k) [] hkl));omega
   have hwK:=HB0.o.trans (HBK.o.mono HB0.o.size);have y0:=(hwK.cell (p:=⟨xb,xo+k,none⟩) hxb).trans z0;have HNX1:Hd ((p.heads.take (k+1)).map (fun l=>List.replicate l.length (0:Nat))=(p.heads.take k).map (fun l=>List.replicate l.length 0)++[List.replicate ln 0]):=by
    show _=_;rw[List.take_add_one,some_getD (l:=p.heads) (j:=k) [] hkl, <-hws,List.map_append,hln];rfl
   have HOW:Hd (∀ W,Bl wr W->W.ownsRow 0 43 1 (.slice pu k cu) k fs):=fun W h=>by
    have h1:=own_base (own_keep HPK.o.hf h) (zl);rw[hfe] at h1;exact h1
   have HCG:Hd (∀ W,Bl wr W->Cl W g 3 (.slice pu k cu)/\W.frozen? ⟨g,3,none⟩=false):=fun W h=>⟨(HXK.o.below h).cell (i:=3) rfl,(HXK.o.below h).free 3⟩
   have HGN:Hd (∀ q∈[Value.slice rp rn rc, .slice vp vn vc, .slice pu k cu, .slice mp mn mc]++fs,q.ownBlock≠some g):=HPK.o.not HXK.o;have HMK:∀W,(Instr.makeSlice 43 (.int .i64 (ln:Int)) (.int .i64 (ln:Int))).run Tryz.prog W= .ok (.slice (some ⟨W.heap.size,0,none⟩) ln ln) (W.alloc (.cells (madeCells #[.int .u64 0, .int .u64 0] (ln*2)) 82)):=fun W=>made_nums W ln hln6
   clear hkl hps hxb z0 hz hws hln hwK;obtain ⟨c3,f3⟩:=HCG.o wr br;have c3a:=(HCG.o (wr.alloc (.cells (madeCells #[.int .u64 0, .int .u64 0] (ln*2)) 82)) (br.alloc lr _)).1;have c3b:=(HCG.o ((wr.alloc (.cells (madeCells #[.int .u64 0, .int .u64 0] (ln*2)) 82)).alloc (.cells #[.slice (some ⟨wr.heap.size,0,none⟩) ln ln] 43)) ((br.alloc lr _).alloc sm _)).1;have hk6:k<=1000000:=by have:=HHN.o;omega
   have HKG:Hd (∀ (W w3:World),Bl wr W->W.grownBy w3 (Value.slice pu k cu).ownBlock->Cl w3 g 3 (.slice pu k cu)/\w3.frozen? ⟨g,3,none⟩=false):=fun W w3 h hg=>by
    have hx:=HXK.o.below h;have hx3:Bx w3 g [.int .i64 port, .slice rp rn rc, .slice vp vn vc, .slice pu k cu, .slice mp mn mc, .bool false, .bool false, .int .i64 0, .bool false]:=(hg.block g hx.lt fun e=>HGN.o (.slice pu k cu) sm e.symm).trans hx;exact ⟨hx3.cell (i:=3) rfl,hx3.free 3⟩
   have HPU:Hd (∀ (W w3:World) (u y:Value),Bl wr W->NOwn wr.heap.size W u (List.replicate ln 0)->w3.ownsRow 0 43 1 y (k+1) (fs++[u])->W.grownBy w3 (Value.slice pu k cu).ownBlock->(y.ownBlock=(Value.slice pu k cu).ownBlock\/∀z,y.ownBlock=some z->W.heap.size<=z)->
    PktO W0.heap.size (w3.setCell ⟨g,3,none⟩ y) (newX port xs s.hn s.mn ((p.heads.take (k+1)).map fun l=>List.replicate l.length 0)) (.slice rp rn rc) (.slice vp vn vc) y (.slice mp mn mc) (fs++[u])/\Bx (w3.setCell ⟨g,3,none⟩ y) g [.int .i64 port, .slice rp rn rc, .slice vp vn vc,y, .slice mp mn mc, .bool false, .bool false, .int .i64 0, .bool false]/\Bl W0 (w3.setCell ⟨g,3,none⟩ y)):=fun W w3 u y h hu ho hg hw=>by
    have hbs:=HBK.o.size;have hx:=HXK.o.below h;have hx3:Bx w3 g [.int .i64 port, .slice rp rn rc, .slice vp vn vc, .slice pu k cu, .slice mp mn mc, .bool false, .bool false, .int .i64 0, .bool false]:=(hg.block g hx.lt fun e=>HGN.o (.slice pu k cu) sm e.symm).trans hx;have hpp:=HPK.o.push hbs h hu (n:=k+1) (by rw[hfe]) (own_raise ho fun z e=>by
     rcases hw with hw|hw
     ·exact (own_size HPK.o.hf (hw ▸ e)).1
     ·have:=hw z e;have:=h.size;omega) hg hw
    rw[HNX1.o];have hne:=hpp.not hx3;refine ⟨hpp.keeps fun q hq z e=>heap_setCell_other w3 _ z y (fun q2=>hne q hq (by rw[e,show z=g from q2])),hx3.put 3 y,(below_grown (HBK.o.trans (h.mono hbs)) (own_keep HPK.o.hf h) hg lr (Nat.le_trans hbs h.size)).setCell HGL.o _⟩
   clear hfe;go_upto_region 5 with fail;go_region_law (refine step_app2 rfl (.tmp 30) (.tmp 34) 42 rfl 43 i0 (.slice none 0 0) 1 24 Tryz.underlying42 hi0 hz0 hz1 hz2 rfl dq (.slice pu k cu) k fs rfl (HOW.o _ (by repeat (first|exact br|refine Below.drew ?_|refine Below.alloc ?_ sm _))) ⟨_,0,none⟩ 1 1 [.slice (some ⟨_,0,none⟩) ln ln] rfl rfl (newestD _ _ _ _) (by intro u hu;simp at hu;subst hu;rfl) (by unfold maxLen;omega) om ?_;intro v3 w3 hown3 hgrow3 hwhere;obtain ⟨p3,d3,rfl⟩:=own_sh hown3;obtain ⟨c3',f3'⟩:=HKG.o _ _ (by repeat (first|exact br|refine Below.drew ?_|refine Below.alloc ?_ sm _)) hgrow3;have HQ:=hD (HPU.o _ _ _ _ (by repeat (first|exact br|refine Below.drew ?_|refine Below.alloc ?_ sm _)) (nown_nextD (own_nums _ ln hln6) _) hown3 hgrow3 hwhere);clear hown3 hgrow3 hwhere);all_goals
    clear c3 f3 c3a c3b c3' f3';go_wp2_with fail;go_roundw
    case rel=>exact ⟨k+1,_,_,om,by go_num,HQ.o.1,HQ.o.2.1,HQ.o.2.2⟩
    case measure=>exact mz
  obtain rfl:k=s.hn:=om;have hki:¬(s.hn:Int)<(s.hn:Int):=om;have HNW:Hd (newX port xs s.hn s.mn ((p.heads.take s.hn).map fun l=>List.replicate l.length (0:Nat))=newP p port xs):=by
   show _=_;rw[HLN.o.1,HLN.o.2,List.take_length];rfl
  rw[HNW.o] at HPK;clear hfe HFL HNW;have HZ4:Hd (wr.heap[w.heap.size+1]?=some (.cells zA 45 (0,0))):=(HBK.o.block _ (by have:=HSZ.o;omega)).trans HR.o;have HA4:=hD (HB0.o.trans (HBK.o.mono HB0.o.size));have hY4:=HXK.o;have hZ4:Bx wr (w.heap.size+1) zL:=HZ4.o;obtain ⟨d0,d1,d2,d3,d4,d5,d6,d7,d8⟩:=Bx.c9 hY4;obtain ⟨e0,e1,e2,e3,e4,e5,e6,e7,e8⟩:=Bx.c9 hZ4;have l0:=Bx.free hZ4 0;have l1:=Bx.free hZ4 1;have l2:=Bx.free hZ4 2;have l3:=Bx.free hZ4 3;have l4:=Bx.free hZ4 4;have l5:=Bx.free hZ4 5;have l6:=Bx.free hZ4 6;have l7:=Bx.free hZ4 7;have l8:=Bx.free hZ4 8;clear hY4 hZ4;go_wp2_with fail;have hb4:=set9_heap (.int .i64 port) (.slice rp rn rc) (.slice vp vn vc) (.slice pu s.hn cu) (.slice mp mn mc) (.bool false) (.bool false) (.int .i64 0) (.bool false) HZ4.o;refine bodyPost_ret (v:= .agg #[.int .i64 port, .slice rp rn rc, .slice vp vn vc, .slice pu s.hn cu, .slice mp mn mc, .bool false, .bool false, .int .i64 0, .bool false]) ?_ rfl ⟨⟨_,_,_,_,fs,rfl,?_⟩,?_⟩
  ·change Sem.run Tryz.prog (results _ _) (set9 wr (w.heap.size+1) (.int .i64 port) (.slice rp rn rc) (.slice vp vn vc) (.slice pu s.hn cu) (.slice mp mn mc) (.bool false) (.bool false) (.int .i64 0) (.bool false))=Result.ok _ (set9 wr (w.heap.size+1) (.int .i64 port) (.slice rp rn rc) (.slice vp vn vc) (.slice pu s.hn cu) (.slice mp mn mc) (.bool false) (.bool false) (.int .i64 0) (.bool false));generalize set9 wr (w.heap.size+1) (.int .i64 port) (.slice rp rn rc) (.slice vp vn vc) (.slice pu s.hn cu) (.slice mp mn mc) (.bool false) (.bool false) (.int .i64 0) (.bool false)=W5 at hb4⊢;have hb5:Bx W5 (w.heap.size+1) [.int .i64 port, .slice rp rn rc, .slice vp vn vc, .slice pu s.hn cu, .slice mp mn mc, .bool false, .bool false, .int .i64 0, .bool false]:=hb4;obtain ⟨m0,m1,m2,m3,m4,m5,m6,m7,m8⟩:=Bx.c9 hb5;simp[results,Tryz.results25,go_sem,m0,m1,m2,m3,m4,m5,m6,m7,m8]
  ·exact (HPK.o.far fun k h1 h2=>set9_other wr (.int .i64 port) (.slice rp rn rc) (.slice vp vn vc) (.slice pu s.hn cu) (.slice mp mn mc) (.bool false) (.bool false) (.int .i64 0) (.bool false) (by have:=HSZ.o;omega)).lower (by have:=HSZ.o;omega)
  exact set9_below (.int .i64 port) (.slice rp rn rc) (.slice vp vn vc) (.slice pu s.hn cu) (.slice mp mn mc) (.bool false) (.bool false) (.int .i64 0) (.bool false) HA4.o om
open Go.RowKit Stab
theorem sum_take {l:List Int} (h:∀k∈l,0<k/\k<129) (n:Nat):0<=sumI (l.take n)/\sumI (l.take n)<=128*(n:Int):=by
 have h1:(l.take n).all okP=true:=List.all_eq_true.2 fun k hk=>okP_iff.2 (h k (List.mem_of_mem_take hk))
 have h2:=sumI_ok h1;have h3:(l.take n).length<=n:=by rw[List.length_take];omega
 omega
theorem sizeA_any (s:PgS) (p:Prg) (h:Nat) (w:World) (hp:PgOk w s p) (hh:h<p.heads.length) (hd:HdOk p):
 Calls Tryz.prog 60 #[pgV s, .int .i64 (h:Int)] w fun e w'=>e= .returned (.int .i64 (sizeP p h))/\Bl w w':=by
 obtain ⟨ws,hws⟩:∃ws,p.heads[h]?=some ws:=⟨_,gE_ hh⟩;obtain ⟨hw,-,-,-,hl16⟩:=hd.w h ws hws;have hwd:=wdsP_some hws;obtain ⟨xb,xo,lp,ln,lc,hps,hxb,z0,hz⟩:=IsRow.el hp.heads (j:=h) hh;have hge:p.heads.getD h []=ws:=hwd;rw[hge] at hz;have hln:ln=ws.length:=hz.ln.1;have hhi:(h:Int)<(s.hn:Int):=by have:=hp.heads.ln.1;omega
 have hR:Hd (sizeP p h=(sumI ws).tdiv 8):=by show _=_;unfold sizeP;rw[hwd]
 have HW:Hd (∀ W,Bl w W->CR 58 #[pgV s, .int .i64 (h:Int)] W (.slice lp ln lc)):=fun W hb=>widthsA_any s W hhi hps ((hb.cell (p:=⟨xb,xo+h,none⟩) hxb).trans z0)
 have HZ:Hd (∀ W,Bl w W->IRow W (.slice lp ln lc) ws):=fun W hb=>hz.below keepI hb
 have HSB:=hD (sum_take hw);have HWK:=hD hw;have HLN:=hD hln;have hl6:ln<=16:=om;rw[hR.o];clear hps z0 hz hxb hwd hge hws hp hd hw hh hln hl16 hhi hR;unfold pgV at HW⊢;go_enter Tryz.func60,Tryz.ntmps60;go_upto_region 2 with fail;obtain ⟨W0,hW0⟩:=nm (w.alloc (.cells (pA s) 33));have HB0:Hd (Bl w W0):=by show Below _ _ _;rw[hW0];exact br.alloc lr _
 have HG0:Hd (GBox W0 w.heap.size s):=by show _=_;rw[hW0];exact heap_new _ _
 rw[<- hW0];clear hW0;obtain ⟨q0,q1,q2,q3,q4,q5,q6,q7,q8,q9,q10,q11⟩:=HG0.o.cells;go_wp2_with (go_at_call 58;refine (HW.o _ HB0.o).mono ?_;rintro e w1 ⟨rfl,hb1⟩;have HB1:=hD (HB0.o.trans (hb1.mono HB0.o.size));clear hb1);clear q0 q1 q2 q3 q4 q5 q6 q7 q8 q9 q10 q11;go_loopw [12,5,7] (fun i n _ wr=>∃k:Nat,k<=ln/\i= .int .i64 k/\n= .int .i64 (sumI (ws.take k))/\Hd (Bl w wr)) (fun i _ _ _=>ln-(intOf i).toNat)
 case atStart=>exact ⟨0,zl,rfl,rfl,HB1.o⟩
 case round=>
  obtain ⟨k,hk,rfl,rfl,HBK⟩:=hrel;by_cases hlt:k<ln
  ·have hki:(k:Int)<(ln:Int):=om;have hkl:k<ws.length:=by have:=HLN.o;omega
   obtain ⟨wb,wo,hps1,hwb,z1⟩:=IRow.el (HZ.o wr HBK.o) (j:=k) hkl;obtain ⟨wv,hwv⟩:=nm (ws.getD k 0);rw[<- hwv] at z1;have hsn:=sumI_snoc (l:=ws) hkl;rw[<- hwv] at hsn;have hs1:=HSB.o k;have hs2:=HSB.o (k+1);generalize sumI (ws.take k)=n0 at*;rw[hsn] at hs2;have HSN:=hD hsn;subst hps1;clear hsn;clear hkl hwv;have hk16:k<16:=om;go_wp2_with fail;go_roundw
   case rel=>exact ⟨k+1,om,by go_num,by rw[HSN.o],HBK.o⟩
   case measure=>exact mz
  obtain rfl:k=ln:=om;have hki:¬(k:Int)<(k:Int):=om;have htk:ws.take k=ws:=List.take_of_length_le (by have:=HLN.o;omega);have hs1:=HSB.o k;rw[htk] at hs1;rw[htk];have hq:(sumI ws).tdiv 8=sumI ws/8:=Int.tdiv_eq_ediv_of_nonneg hs1.1;go_wp2_with fail;go_ret;refine ⟨?_,HBK.o⟩;rfl
theorem wholeA_any (p:Prg) (h:Nat) (lp:Option Addr) (ln lc:Nat) (w:World) (hz:IRow w (.slice lp ln lc) (wdsP p h)) (hh:h<p.heads.length) (hd:HdOk p):
 Calls Tryz.prog 61 #[.slice lp ln lc] w fun e w'=>e= .returned (.bool true)/\Bl w w':=by
 obtain ⟨ws,hws⟩:∃ws,p.heads[h]?=some ws:=⟨_,gE_ hh⟩;obtain ⟨hw,h8,-,-,hl16⟩:=hd.w h ws hws;rw[wdsP_some hws] at hz;have hln:ln=ws.length:=hz.ln.1;have HZ:=hD hz;have HSB:=hD (sum_take hw);have HWK:=hD hw;have HLN:=hD hln;have H8:=hD h8;have hl6:ln<=16:=om;clear hws hd hw hh hln hl16 hz h8;go_enter Tryz.func61,Tryz.ntmps61;go_wp2_with fail;go_loopw [9,3,4,6] (fun i n m _ wr=>∃k:Nat,k<=ln/\i= .int .i64 k/\n= .int .i64 (sumI (ws.take k))/\m= .int .i64 0/\Hd (Bl w wr)) (fun i _ _ _ _=>ln-(intOf i).toNat)
 case atStart=>exact ⟨0,zl,rfl,rfl,rfl,Below.refl _ _⟩
 case round=>
  obtain ⟨k,hk,rfl,rfl,rfl,HBK⟩:=hrel;by_cases hlt:k<ln
  ·have hki:(k:Int)<(ln:Int):=om;have hkl:k<ws.length:=by have:=HLN.o;omega
   obtain ⟨wb,wo,hps1,hwb,z1⟩:=IRow.el (HZ.o.below keepI HBK.o) (j:=k) hkl;obtain ⟨wv,hwv⟩:=nm (ws.getD k 0);have hwp:0<wv:=by
    rw[hwv,List.getD_eq_getElem?_getD,gE_ hkl];exact (HWK.o _ (List.getElem_mem hkl)).1
   rw[<- hwv] at z1;have hsn:=sumI_snoc (l:=ws) hkl;rw[<- hwv] at hsn;have hs1:=HSB.o k;have hs2:=HSB.o (k+1);generalize sumI (ws.take k)=n0 at*;rw[hsn] at hs2;have HSN:=hD hsn;subst hps1;clear hsn;clear hkl hwv;have hk16:k<16:=om;go_wp2_with fail;go_roundw
   case rel=>exact ⟨k+1,om,by go_num,by rw[HSN.o],by first|rfl|go_num|(simp;omega),HBK.o⟩
   case measure=>exact mz
  obtain rfl:k=ln:=om;have hki:¬(k:Int)<(k:Int):=om;have htk:ws.take k=ws:=List.take_of_length_le (by have:=HLN.o;omega);have hs1:=HSB.o k;rw[htk] at hs1;rw[htk];have h8:=H8.o;have h9:(sumI ws).tmod 8=0:=by rw[Int.tmod_eq_emod_of_nonneg hs1.1];exact h8
  go_wp2_with fail;go_ret;refine ⟨?_,HBK.o⟩;first|rfl|(simp[h9])|go_num
open Go.RowKit Stab
theorem PktB.restAt {w:World} {v:Value} (h:PktB base w X x r v f m fs) (hk:k<x.rest.length):∃g c,r= .slice (some ⟨g,0,none⟩) x.rest.length c/\base<=g/\g<w.heap.size/\g≠X/\w.cell? ⟨g,k,none⟩=some (.int .u8 (x.rest.getD k 0)):=by
 have h1:=h.hr;obtain ⟨hl,⟨rfl,h0⟩|⟨g,cap,cur,rfl,h2,h3,h4,h5,h6,h7⟩⟩:=h1
 ·omega
 refine ⟨g,cap,rfl,h2,lt_some h3,?_,?_⟩
 ·have:=h.nd;simp only[List.cons_append,List.filterMap_cons,Value.ownBlock,List.nodup_cons,List.mem_cons] at this;intro e;exact this.1 (.inl e.symm)
 refine own_get (xs:=x.rest.map (Value.int .u8)) h.hr ?_;rw[List.getElem?_map,gE_ hk,List.getD_eq_getElem?_getD,gE_ hk];rfl
theorem bitA_any {w:World} {v:Value} (hP:PktB base w X x r v f m fs) (g4 g8 a:Nat) (c4:w.cell? ⟨g4,0,none⟩=some (.pointer (some ⟨X,0,none⟩))) (c8:w.cell? ⟨g8,0,none⟩=some (.int .i64 (a:Int))) (f8:w.frozen? ⟨g8,0,none⟩=false) (hk:a/8<x.rest.length) (ha:a<=1000000):
 Calls Tryz.prog 62 #[.pointer (some ⟨g4,0,none⟩), .pointer (some ⟨g8,0,none⟩)] w fun e w'=>e= .returned (.int .u64 (bitP x.rest a))/\∃n,w'=(w.drewN n).setCell ⟨g8,0,none⟩ (.int .i64 ((a+1:Nat):Int)):=by
 obtain ⟨g,c,rfl,-,-,-,z0⟩:=hP.restAt hk;have x1:w.cell? ⟨X,1,none⟩=some (.slice (some ⟨g,0,none⟩) x.rest.length c):=hP.cell (i:=1) rfl;generalize x.rest.length=N at*;have HBT:Hd (((bitP x.rest a:Nat):Int)=bits .and .u8 ((x.rest.getD (a/8) 0)/2 ^ (7-a%8)) 1):=by
  show _=_;have:=(bits_one ((x.rest.getD (a/8) 0)/2 ^ (7-a%8))).1;unfold bitP;omega
 have HB1:=hD (bits_one ((x.rest.getD (a/8) 0)/2 ^ (7-a%8)));obtain ⟨q,hq⟩:=nm (x.rest.getD (a/8) 0);rw[<- hq] at z0 HBT HB1;have hi:(a/8:Int)<(N:Int):=om;have hd:(a:Int).tdiv 8=((a/8:Nat):Int):=by rw[Int.tdiv_eq_ediv_of_nonneg om];omega
 have hm:(a:Int).tmod 8=((a%8:Nat):Int):=by rw[Int.tmod_eq_emod_of_nonneg om];omega
 clear hP hq;go_enter Tryz.func62,Tryz.ntmps62;go_upto_region 1 with fail;go_quiet (fail);have hb1:=HB1.o;have hbt:=HBT.o;generalize bits .and .u8 (q/2 ^ (7-a%8)) 1=z at*;go_wp2_with fail;go_ret;refine ⟨?_,nq,?_⟩
 ·show Ending.returned (.int .u64 z)=_;rw[hbt]
 rw[show ((a+1:Nat):Int)=(a:Int)+1 by omega]
open Go.RowKit Stab
theorem offN_succ (ws:List Int) (k:Nat) (hk:k<ws.length):offN ws (k+1)=offN ws k+(ws.getD k 0).toNat:=by
 unfold offN;rw[List.take_add_one,some_getD (l:=ws) (j:=k) 0 hk,List.map_append,List.sum_append];simp
theorem offN_sum (hw:∀k∈ws,0<k/\k<129):∀k,k<=ws.length->((offN ws k:Nat):Int)=sumI (ws.take k)
 |0,_=>by simp[offN,sumI]
 |k+1,hk=>by
  have ih:=offN_sum hw k om;have hkl:k<ws.length:=om
  have hg:ws.getD k 0=ws[k]:=by rw[List.getD_eq_getElem?_getD,gE_ hkl];rfl
  have:=(hw _ (List.getElem_mem hkl)).1;rw[offN_succ ws k hkl,sumI_snoc hkl, <-ih,hg];omega
theorem sum_mono (hw:∀k∈ws,0<k/\k<129):∀k,k<=ws.length->sumI (ws.take k)<=sumI ws:=by
 intro k hk;have:∀n,k+n<=ws.length->sumI (ws.take k)<=sumI (ws.take (k+n)):=by
  intro n;induction n with
  |zero=>intro _;exact Int.le_refl _
  |succ n ih=>
   intro hn;have hkl:k+n<ws.length:=om;have hg:ws.getD (k+n) 0=ws[k+n]:=by rw[List.getD_eq_getElem?_getD,gE_ hkl];rfl
   have h1:=(hw _ (List.getElem_mem hkl)).1;have h2:=ih om;rw[show k+(n+1)=k+n+1 by omega,sumI_snoc hkl,hg];omega
 have h1:=this (ws.length-k) om;rw[show k+(ws.length-k)=ws.length by omega,List.take_length] at h1;exact h1
theorem offN_lt (hw:∀k∈ws,0<k/\k<129) {j:Nat} (hk:k<ws.length) (hj:j<(ws.getD k 0).toNat):((offN ws k+j:Nat):Int)<sumI ws:=by
 have h1:=offN_sum hw (k+1) om;have h2:=sum_mono hw (k+1) om;rw[offN_succ ws k hk] at h1;omega
def xK (x:Pkt) (h:Nat) (l:List Nat) (ws:List Int) (k:Nat):Pkt:={ x with fields:=x.fields.set h (tkF x.rest ws k l) }
theorem set_self {α:Type} {l:List α} {a:α} (hl:l[h]?=some a):l.set h a=l:=by
 refine List.ext_getElem? fun i=>?_
 by_cases e:h=i
 ·subst e;rw[List.getElem?_set_self (gL_ hl).1,hl]
 rw[List.getElem?_set_ne e]
theorem xK_zero {l:List Nat} (hl:x.fields[h]?=some l) (ws:List Int):xK x h l ws 0=x:=by
 unfold xK tkF;rw[set_self hl]
theorem xK_row {l:List Nat} (hl:x.fields[h]?=some l) (ws:List Int) (k:Nat):(xK x h l ws k).fields[h]?=some (tkF x.rest ws k l):=by
 unfold xK;rw[List.getElem?_set_self (gL_ hl).1]
theorem xK_succ (x:Pkt) (h:Nat) (l:List Nat) (ws:List Int) (k:Nat):{ xK x h l ws k with fields:=(xK x h l ws k).fields.set h ((tkF x.rest ws k l).set k (fldN x.rest ws k)) }=xK x h l ws (k+1):=by
 unfold xK;simp only[List.set_set,tkF]
theorem xK_took {p:Prg} {l:List Nat} (hl:x.fields[h]?=some l):{ xK x h l (wdsP p h) (wdsP p h).length with rest:=x.rest.drop (sizeP p h).toNat,valid:=x.valid.set h true }=tookP p x h:=by
 unfold xK tookP;rw[List.getD_eq_getElem?_getD,hl];rfl
section
variable {base:Nat} {w w':World} {X:Nat} {x:Pkt} {r v f m:Value} {fs:List Value}
theorem PktB.newRest (h:PktB base w X x r v f m fs) {B:Nat} (hB:base<=B) (hX:X<B) {r':Value} {xs:List Int} (hn:∀k,PS X r v f m fs k->k<B) (ho:w.ownsRow B 5 1 r' xs.length (xs.map (Value.int .u8))):PktB base (w.setCell ⟨X,1,none⟩ r') X { x with rest:=xs } r' v f m fs:=by
 have hf:∀z,(h':z∈[r,v,f,m]++fs)->∀k,z.ownBlock=some k->k<B/\k≠X:=fun z hz k e=>⟨hn k (.inr ⟨z,hz,e⟩),by
  obtain ⟨a,ha⟩:=List.getElem?_of_mem hz;exact h.nX ha e⟩
 have hr':∀k,r'.ownBlock=some k->B<=k:=fun k e=>(own_size ho e).1
 have hk:∀z∈[r,v,f,m]++fs,∀k,z.ownBlock=some k->(w.setCell ⟨X,1,none⟩ r').heap[k]?=w.heap[k]?:=fun z hz k e=>heap_setCell_other w _ k r' (hf z hz k e).2
 refine ⟨?_,?_,own_far h.hv (hk v sm),own_far h.hf (hk f sm),fun i u l h1 h2=>(h.hfs i u l h1 h2).far (hk u (by have:=gM_ h1;simp[this])),h.hm.far (hk m sm),h.lo,?_⟩
 ·have h1:=h.st;have h2:Bx w X (pktCells x r v f m):=h1;exact h2.put 1 r'
 ·refine own_base (own_far ho fun k e=>heap_setCell_other w _ k r' (by have:=hr' k e;show k≠X;omega)) hB
 have h1:=h.nd;simp only[List.nodup_cons,List.cons_append,List.nil_append] at h1⊢;unfold List.Nodup at h1⊢;rw[List.pairwise_filterMap] at h1⊢;obtain ⟨h1,h2⟩:=h1;rw[List.pairwise_cons] at h2⊢;refine ⟨fun hc=>?_,⟨fun z hz b e b' e' q=>?_,h2.2⟩⟩
 ·obtain ⟨z,hz,e⟩:=List.mem_filterMap.1 hc;rcases List.mem_cons.1 hz with rfl|hz
  ·have:=hr' _ e;omega
  exact h1 (List.mem_filterMap.2 ⟨z,List.mem_cons_of_mem _ hz,e⟩)
 have h3:=(hf z (List.mem_cons_of_mem _ hz) b' e').1;have:=hr' b e;omega
end
end Go.Proofs.YtikilcbpogfgkaaGreat
