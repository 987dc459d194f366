/- Lemmas. -/
import Derived.Test.YtikilcbpogfgkaaGreatJI40
set_option maxRecDepth 100000
namespace Go.Proofs.YtikilcbpogfgkaaGreat
open Go.ChangeShapes Go.WideShapes Go.ChangeAt Go.RowKit Go.Deep
variable {t e:TypeId} {fs:Array Field} {fuel c base m sz:Nat} {α:Type} {va c0 c1 c2 c3:Value} {p:List MemPlace}
section
variable {H:Type} {enc:TypeId×Value->H} {w:World} {b o:Nat} {cs:List Value} {x y:DataW H×List MemPlace} {d:DataW H}
theorem u64_of_wf {n:Int} (h:(Lit.int IntKind.u64 n).wf=true):∃k:Nat,n=(k:Int)/\k<18446744073709551616:=by
 have h0:IntKind.u64.min=0:=by decide
 have h1:IntKind.u64.max=18446744073709551615:=by decide
 simp only[Lit.wf,Bool.and_eq_true,decide_eq_true_eq,h0,h1] at h;obtain ⟨n,rfl⟩:=Int.eq_ofNat_of_zero_le h.1;exact ⟨n,rfl,om⟩
theorem trod_field (ht:Tryz.prog.underlying t=some (.struct fs)) (h:DataW.trod enc Tryz.prog w 0 (fun _=>true) true fuel t cs=some x)
 (i:Nat) (f:Field) (hf:fs[i]?=some f) (ty o c:Nat) (h1:f.type=ty) (h2:f.offset=o) (h3:Tryz.prog.cellsOf ty=c):∃n y,DataW.trod enc Tryz.prog w 0 (fun _=>true) true n ty ((cs.drop o).take c)=some y:=by
 subst h1 h2 h3;obtain ⟨xs,n,rfl,-,-,hl,hg⟩:=DataW.trod_struct ht h;have hi:i<fs.size:=(gA_ hf).1;exact ⟨n,_,(hg i f hf).trans (gE_ om)⟩
theorem hadd0 (ab ao i:Nat):(Addr.mk ab ao none).add i=⟨ab,ao+i,none⟩:=by
 unfold Addr.add;by_cases hi:i=0<;>simp[hi]
theorem open_rowAt {At:World->Nat->Nat->α->Prop} (d:α) (ht:Tryz.prog.underlying t=some (.slice e)) (hc:Tryz.prog.cellsOf e=c) (hc0:0<c)
 (hel:∀(m b o:Nat) (cs:List Value) (y:DataW H×List MemPlace),cs.length=c->CellsAt w b o cs->DataW.trod enc Tryz.prog w 0 (fun _=>true) true m e cs=some y->∃x,At w b o x)
 (h:DataW.trod enc Tryz.prog w 0 (fun _=>true) true fuel t [va]=some x):∃l,RowAt c At w va l:=by
 subst hc;rcases open_slice ht h with ⟨he,-⟩|⟨a,len,cap,m,n,D,Pl,he,-,hl,hm,hmm,hxx,hx⟩
 ·simp only[List.cons.injEq,and_true] at he;exact ⟨[],by rw[he];exact RowAt.nil⟩
 simp only[List.cons.injEq,and_true] at he;simp only[if_true] at hmm;subst hmm he;have key:∀j,j<len->∃cs y,cs.length=Tryz.prog.cellsOf e/\(∀ i,i<Tryz.prog.cellsOf e->w.cell? (a.add (j*Tryz.prog.cellsOf e+i))=cs[i]?)/\DataW.trod enc Tryz.prog w 0 (fun _=>true) true n e cs=some y:=by
  intro j hj;obtain ⟨cs,hcs,htr⟩:=hx j om;obtain ⟨-,hlen,hat⟩:=World.cells?_some hcs;refine ⟨cs,_,hlen,fun i hi=>?_,htr⟩;rw[<- Go.Deep.add_add];exact hat i hi
 by_cases h0:0<len
 ·obtain ⟨cs0,-,hl0,hc0',-⟩:=key 0 h0;have c0:=hc0' 0 hc0;rw[gE_ om,Nat.zero_mul,Nat.add_zero] at c0;obtain ⟨ab,ao,asp⟩:=a;have hsp:asp=none:=(cell_there c0).2;have hblk:=(cell_there c0).1;subst hsp;rw[hadd0] at hblk;have key2:∀j,∃y:α,j<len->At w ab (ao+j*Tryz.prog.cellsOf e) y:=by
   intro j;by_cases hj:j<len
   ·obtain ⟨cs,y,h1,h2,h3⟩:=key j hj;obtain ⟨x,hx⟩:=hel n ab (ao+j*Tryz.prog.cellsOf e) cs y h1 (fun i v hi=>by
     have hlt:=(gL_ hi).1;have:=h2 i om;rw[hadd0] at this;rw[Nat.add_assoc,this];exact hi) h3
    exact ⟨x,fun _=>hx⟩
   exact ⟨d,fun h=>absurd h hj⟩
  obtain ⟨f,hf⟩:=Classical.axiomOfChoice key2;refine ⟨(List.range len).map f,some ⟨ab,ao,none⟩,_,by simp,by simpa using hl,hm,(fun q=>by cases q),fun _=>⟨ab,ao,rfl,hblk,fun j x hj=>?_⟩⟩;have hjl:j<len:=by have:=(gL_ hj).1;simpa using this
  have:f j=x:=by simpa [hjl] using hj
  rw[<- this];exact hf j hjl
 obtain rfl:len=0:=om;exact ⟨[],some a,_,rfl,zl,hm,(fun q=>by cases q),fun h=>absurd h (Nat.lt_irrefl 0)⟩
theorem slice_cells (ht:Tryz.prog.underlying t=some (.slice e)) (hv:Value.okWide Tryz.prog w .any base t va):va.cells.toList=[va]:=by
 simp only[Value.okWide,Cell.okWide,ht] at hv;cases va<;>first|rfl|(simp[Cell.ok,ht] at hv)
theorem agg_cells (ht:Tryz.prog.underlying t=some (.struct fs)) (hv:Value.okWide Tryz.prog w .any base t va):∃cs,va= .agg cs/\cs.size=Tryz.prog.cellsOf t:=by
 simp only[Value.okWide,ht] at hv;obtain ⟨cs,rfl,h1,-⟩:=hv;exact ⟨cs,rfl,h1⟩
theorem nAt_of_trod (hc:CellsAt w b o [c0,c1]) (h:DataW.trod enc Tryz.prog w 0 (fun _=>true) true m 82 [c0,c1]=some y):∃n,NAt w b o n:=by
 obtain ⟨n0,y0,h0⟩:=trod_field Tryz.underlying82 h 0 _ rfl 80 0 1 rfl rfl kq;obtain ⟨n1,y1,h1⟩:=trod_field Tryz.underlying82 h 1 _ rfl 80 1 1 rfl rfl kq;obtain ⟨v0,e0,-,b0⟩:=DataW.trod_int Tryz.underlying80 h0;obtain ⟨v1,e1,-,b1⟩:=DataW.trod_int Tryz.underlying80 h1;simp only[List.take,List.drop] at e0 e1;obtain ⟨k0,rfl,l0⟩:=u64_of_wf b0;obtain ⟨k1,rfl,l1⟩:=u64_of_wf b1;simp only[List.cons.injEq,and_true] at e0 e1;subst e0 e1;have hB:B=18446744073709551616:=rfl;rw[<- hB] at l0 l1;have hB0:0<B:=by decide
 have e1:(k0*B+k1)/B=k0:=by
  rw[Nat.mul_comm,Nat.mul_add_div hB0,Nat.div_eq_of_lt l1,Nat.add_zero]
 have e2:(k0*B+k1)%B=k1:=by
  rw[Nat.mul_comm,Nat.mul_add_mod,Nat.mod_eq_of_lt l1]
 refine ⟨k0*B+k1,?_,?_,?_⟩
 ·have:(k0+1)*B<=B*B:=Nat.mul_le_mul_right _ l0;rw[Nat.succ_mul] at this;omega
 ·rw[e1];exact hc 0 _ rfl
 rw[e2];exact hc 1 _ rfl
theorem pAt_of_trod (hc:CellsAt w b o [c0,c1,c2,c3]) (h:DataW.trod enc Tryz.prog w 0 (fun _=>true) true m 142 [c0,c1,c2,c3]=some y):∃n,PAt w b o n:=by
 obtain ⟨n0,y0,h0⟩:=trod_field Tryz.underlying142 h 0 _ rfl 82 0 2 rfl rfl kq;obtain ⟨n1,y1,h1⟩:=trod_field Tryz.underlying142 h 1 _ rfl 82 2 2 rfl rfl kq;simp only[List.take,List.drop] at h0 h1;obtain ⟨v,hv⟩:=nAt_of_trod (b:=b) (o:=o) (fun i u hi=>hc i u (by
  match i,hi with
  |0,hi=>exact hi
  |1,hi=>exact hi)) h0
 obtain ⟨k,hk⟩:=nAt_of_trod (b:=b) (o:=o+2) (fun i u hi=>by
  rw[Nat.add_assoc];refine hc (2+i) u ?_
  match i,hi with
  |0,hi=>exact hi
  |1,hi=>exact hi) h1
 exact ⟨⟨v,k⟩,hv,hk⟩
theorem CellsAt.from {b o k:Nat} (h:CellsAt w b o cs):CellsAt w b (o+k) (cs.drop k):=fun i v hi=>by
 rw[Nat.add_assoc];exact h (k+i) v (by rwa [List.getElem?_drop] at hi)
theorem CellsAt.first {b o k:Nat} (h:CellsAt w b o cs):CellsAt w b o (cs.take k):=fun i v hi=>h i v (by
 rw[List.getElem?_take] at hi;split at hi
 ·exact hi
 ·cases hi)
theorem sl_of_trod {At:World->Nat->Nat->α->Prop} (d:α) (hc:CellsAt w b o [c0]) (ht:Tryz.prog.underlying t=some (.slice e)) (hce:Tryz.prog.cellsOf e=sz) (hc0:0<sz)
 (hel:∀(m b o:Nat) (cs:List Value) (y:DataW H×List MemPlace),cs.length=sz->CellsAt w b o cs->DataW.trod enc Tryz.prog w 0 (fun _=>true) true m e cs=some y->∃x,At w b o x)
 (h:DataW.trod enc Tryz.prog w 0 (fun _=>true) true m t [c0]=some y):∃l,SlAt (RowAt sz At) w b o l:=by
 obtain ⟨l,hl⟩:=open_rowAt d ht hce hc0 hel h;obtain ⟨pa,cap,rfl,-⟩:=hl.shape;exact ⟨l,_,_,_,hc 0 _ rfl,hl⟩
theorem i_of_trod (hl:cs.length=1) (hc:CellsAt w b o cs) (h:DataW.trod enc Tryz.prog w 0 (fun _=>true) true m 3 cs=some y):∃n,IAt w b o n:=by
 obtain ⟨k,rfl,-,-⟩:=DataW.trod_int Tryz.underlying3 h;exact ⟨k,hc 0 _ rfl⟩
theorem u_of_trod (hl:cs.length=1) (hc:CellsAt w b o cs) (h:DataW.trod enc Tryz.prog w 0 (fun _=>true) true m 5 cs=some y):∃n,UAt w b o n:=by
 obtain ⟨k,rfl,-,-⟩:=DataW.trod_int Tryz.underlying5 h;exact ⟨k,hc 0 _ rfl⟩
theorem nd_of_trod (hl:cs.length=6) (hc:CellsAt w b o cs) (h:DataW.trod enc Tryz.prog w 0 (fun _=>true) true m 84 cs=some y):∃n,NdAt w b o n:=by
 match cs,hl with
 |[c0,c1,c2,c3,c4,c5],_=>
  obtain ⟨n0,y0,h0⟩:=trod_field Tryz.underlying84 h 0 _ rfl 5 0 1 rfl rfl kq;obtain ⟨n1,y1,h1⟩:=trod_field Tryz.underlying84 h 1 _ rfl 3 1 1 rfl rfl kq;obtain ⟨n2,y2,h2⟩:=trod_field Tryz.underlying84 h 2 _ rfl 3 2 1 rfl rfl kq;obtain ⟨n3,y3,h3⟩:=trod_field Tryz.underlying84 h 3 _ rfl 3 3 1 rfl rfl kq;obtain ⟨n4,y4,h4⟩:=trod_field Tryz.underlying84 h 4 _ rfl 82 4 2 rfl rfl kq;obtain ⟨k0,e0,-,-⟩:=DataW.trod_int Tryz.underlying5 h0;obtain ⟨k1,e1,-,-⟩:=DataW.trod_int Tryz.underlying3 h1;obtain ⟨k2,e2,-,-⟩:=DataW.trod_int Tryz.underlying3 h2;obtain ⟨k3,e3,-,-⟩:=DataW.trod_int Tryz.underlying3 h3;simp only[List.take,List.drop] at e0 e1 e2 e3 h4;simp only[List.cons.injEq,and_true] at e0 e1 e2 e3;subst e0 e1 e2 e3;obtain ⟨v,hv⟩:=nAt_of_trod (b:=b) (o:=o+4) (hc.from (k:=4)) h4;exact ⟨⟨k0,k1,k2,k3,v⟩,hc 0 _ rfl,hc 1 _ rfl,hc 2 _ rfl,hc 3 _ rfl,hv⟩
theorem ints_of_trod (hl:cs.length=1) (hc:CellsAt w b o cs) (h:DataW.trod enc Tryz.prog w 0 (fun _=>true) true m 23 cs=some y):∃n,SlAt IRow w b o n:=by
 match cs,hl with
 |[c0],_=>exact sl_of_trod 0 hc Tryz.underlying23 (by kernel_rfl:_=1) dq (fun m b o cs y h1 h2 h3=>i_of_trod h1 h2 h3) h
theorem s_of_trod (hl:cs.length=1) (hc:CellsAt w b o cs) (h:DataW.trod enc Tryz.prog w 0 (fun _=>true) true m 9 cs=some y):∃n,StAt w b o n:=by
 obtain ⟨k,rfl,-⟩:=DataW.trod_string Tryz.underlying9 h;exact ⟨k,hc 0 _ rfl⟩
theorem strs_of_trod (hl:cs.length=1) (hc:CellsAt w b o cs) (h:DataW.trod enc Tryz.prog w 0 (fun _=>true) true m 28 cs=some y):∃n,SlAt StRow w b o n:=by
 match cs,hl with
 |[c0],_=>exact sl_of_trod ⟨#[]⟩ hc Tryz.underlying28 (by kernel_rfl:_=1) dq (fun m b o cs y h1 h2 h3=>s_of_trod h1 h2 h3) h
abbrev KB:Nat:=1048576
theorem bulk_one (d:DataW H):1<=Rows.uptoBulk d:=by
 cases d with
 |lit l=>cases l<;>simp[Rows.uptoBulk]
 |nil=>simp[Rows.uptoBulk]
 |ptr d=>simp[Rows.uptoBulk]
 |slice elems spare=>simp[Rows.uptoBulk]
 |agg parts=>simp[Rows.uptoBulk]
 |iface t d=>simp[Rows.uptoBulk]
 |map entries=>simp[Rows.uptoBulk]
 |held h=>simp[Rows.uptoBulk]
theorem bulk_part:∀{l:List (DataW H)} {d:DataW H},d∈l->Rows.uptoBulk d<=Rows.uptoBulkAll l
 |[],d,h=>by cases h
 |x::l,d,h=>by
  rw[Rows.uptoBulkAll];rcases List.mem_cons.1 h with e|e
  ·rw[e];omega
  ·have:=bulk_part e;omega
theorem bulk_len:∀l:List (DataW H),l.length<=Rows.uptoBulkAll l
 |[]=>by simp
 |x::l=>by
  have h1:=bulk_one x;have h2:=bulk_len l;rw[Rows.uptoBulkAll,List.length_cons];omega
theorem trod_fieldK (ht:Tryz.prog.underlying t=some (.struct fs)) (h:DataW.trod enc Tryz.prog w 0 (fun _=>true) true fuel t cs=some x) (hb:Rows.uptoBulk x.1<=KB)
 (i:Nat) (f:Field) (hf:fs[i]?=some f) (ty o c:Nat) (h1:f.type=ty) (h2:f.offset=o) (h3:Tryz.prog.cellsOf ty=c):∃n y,DataW.trod enc Tryz.prog w 0 (fun _=>true) true n ty ((cs.drop o).take c)=some y/\Rows.uptoBulk y.1<=KB:=by
 subst h1 h2 h3;obtain ⟨xs,n,rfl,hx,-,hl,hg⟩:=DataW.trod_struct ht h;subst hx;have hi:i<fs.size:=(gA_ hf).1;refine ⟨n,_,(hg i f hf).trans (gE_ om),?_⟩;have h4:(xs[i]'om).1∈xs.map (·.1):=List.mem_map.2 ⟨_,List.getElem_mem _,rfl⟩;have h5:=bulk_part h4;have h6:Rows.uptoBulkAll (xs.map (·.1))+1<=KB:=hb;omega
theorem bulk_mul {mb:Nat}:∀l:List (DataW H),(∀ d∈l,mb<=Rows.uptoBulk d)->l.length*mb<=Rows.uptoBulkAll l
 |[],_=>by simp
 |x::l,h=>by
  have h1:=h x sm;have h2:=bulk_mul l fun d hd=>h d (by simp[hd])
  rw[Rows.uptoBulkAll,List.length_cons,Nat.add_mul];omega
theorem bulk_struct (ht:Tryz.prog.underlying t=some (.struct fs)) (hf:0<fs.size) (h:DataW.trod enc Tryz.prog w 0 (fun _=>true) true fuel t cs=some x):2<=Rows.uptoBulk x.1:=by
 obtain ⟨xs,n,rfl,hx,-,hl,hg⟩:=DataW.trod_struct ht h;subst hx;have h1:=bulk_len (xs.map (·.1));rw[List.length_map] at h1;show 2<=Rows.uptoBulkAll (xs.map (·.1))+1;omega
theorem open_rowAtK {P:α->Prop} {At:World->Nat->Nat->α->Prop} (d:α) (ht:Tryz.prog.underlying t=some (.slice e)) (hc:Tryz.prog.cellsOf e=c) (hc0:0<c) (mb:Nat) (hmb:∀(m:Nat) (cs:List Value) (y:DataW H×List MemPlace),DataW.trod enc Tryz.prog w 0 (fun _=>true) true m e cs=some y->mb<=Rows.uptoBulk y.1)
 (hel:∀(m b o:Nat) (cs:List Value) (y:DataW H×List MemPlace),cs.length=c->CellsAt w b o cs->DataW.trod enc Tryz.prog w 0 (fun _=>true) true m e cs=some y->Rows.uptoBulk y.1<=KB->∃x,At w b o x/\P x)
 (h:DataW.trod enc Tryz.prog w 0 (fun _=>true) true fuel t [va]=some x) (hb:Rows.uptoBulk x.1<=KB):∃l,RowAt c At w va l/\l.length*mb<=KB/\∀x∈l,P x:=by
 subst hc;rcases open_slice ht h with ⟨he,-⟩|⟨a,len,cap,m,n,D,Pl,he,-,hl,hm,hmm,hxx,hx⟩
 ·simp only[List.cons.injEq,and_true] at he;exact ⟨[],by rw[he];exact RowAt.nil,by simp,by simp⟩
 simp only[List.cons.injEq,and_true] at he;simp only[if_true] at hmm;subst hmm he;subst hxx;have hall:Rows.uptoBulkAll ((List.range len).map D)+1<=KB:=by
  have h1:Rows.uptoBulkAll ((List.range len).map D)+Rows.uptoBulkAll ((List.range (m-len)).map fun j=>D (len+j))+1<=KB:=hb;omega
 have hlen:len*mb<=KB:=by
  have:=bulk_mul (mb:=mb) ((List.range len).map D) (fun q hq=>by
   obtain ⟨j,hj,rfl⟩:=List.mem_map.1 hq;obtain ⟨cs,-,htr⟩:=hx j (by have:=List.mem_range.1 hj;omega);exact hmb _ _ _ htr)
  simp only[List.length_map,List.length_range] at this;omega
 have hD:∀j,j<len->Rows.uptoBulk (D j)<=KB:=fun j hj=>by have:=bulk_part (d:=D j) (l:=(List.range len).map D) (List.mem_map.2 ⟨j,List.mem_range.2 hj,rfl⟩);omega
 have key:∀j,j<len->∃cs y,cs.length=Tryz.prog.cellsOf e/\(∀ i,i<Tryz.prog.cellsOf e->w.cell? (a.add (j*Tryz.prog.cellsOf e+i))=cs[i]?)/\DataW.trod enc Tryz.prog w 0 (fun _=>true) true n e cs=some y/\Rows.uptoBulk y.1<=KB:=by
  intro j hj;obtain ⟨cs,hcs,htr⟩:=hx j om;obtain ⟨-,hlen,hat⟩:=World.cells?_some hcs;refine ⟨cs,_,hlen,fun i hi=>?_,htr,hD j hj⟩;rw[<- Go.Deep.add_add];exact hat i hi
 by_cases h0:0<len
 ·obtain ⟨cs0,-,hl0,hc0',-⟩:=key 0 h0;have c0:=hc0' 0 hc0;rw[gE_ om,Nat.zero_mul,Nat.add_zero] at c0;obtain ⟨ab,ao,asp⟩:=a;have hsp:asp=none:=(cell_there c0).2;have hblk:=(cell_there c0).1;subst hsp;rw[hadd0] at hblk;have key2:∀j,∃y:α,j<len->At w ab (ao+j*Tryz.prog.cellsOf e) y/\P y:=by
   intro j;by_cases hj:j<len
   ·obtain ⟨cs,y,h1,h2,h3,h4⟩:=key j hj;obtain ⟨x,hx⟩:=hel n ab (ao+j*Tryz.prog.cellsOf e) cs y h1 (fun i v hi=>by
     have hlt:=(gL_ hi).1;have:=h2 i om;rw[hadd0] at this;rw[Nat.add_assoc,this];exact hi) h3 h4
    exact ⟨x,fun _=>hx⟩
   exact ⟨d,fun h=>absurd h hj⟩
  obtain ⟨f,hf⟩:=Classical.axiomOfChoice key2;refine ⟨(List.range len).map f,⟨some ⟨ab,ao,none⟩,_,by simp,by simpa using hl,hm,(fun q=>by cases q),fun _=>⟨ab,ao,rfl,hblk,fun j x hj=>?_⟩⟩,by simpa using hlen,fun x hx=>?_⟩
  ·have hjl:j<len:=by have:=(gL_ hj).1;simpa using this
   have:f j=x:=by simpa [hjl] using hj
   rw[<- this];exact (hf j hjl).1
  obtain ⟨j,hj,rfl⟩:=List.mem_map.1 hx;exact (hf j (List.mem_range.1 hj)).2
 obtain rfl:len=0:=om;exact ⟨[],⟨some a,_,rfl,zl,hm,(fun q=>by cases q),fun h=>absurd h (Nat.lt_irrefl 0)⟩,by simp,by simp⟩
theorem slK {P:α->Prop} {At:World->Nat->Nat->α->Prop} (d:α) (hc:CellsAt w b o [c0]) (ht:Tryz.prog.underlying t=some (.slice e)) (hce:Tryz.prog.cellsOf e=sz) (hc0:0<sz) (mb:Nat) (hmb:∀(m:Nat) (cs:List Value) (y:DataW H×List MemPlace),DataW.trod enc Tryz.prog w 0 (fun _=>true) true m e cs=some y->mb<=Rows.uptoBulk y.1)
 (hel:∀(m b o:Nat) (cs:List Value) (y:DataW H×List MemPlace),cs.length=sz->CellsAt w b o cs->DataW.trod enc Tryz.prog w 0 (fun _=>true) true m e cs=some y->Rows.uptoBulk y.1<=KB->∃x,At w b o x/\P x)
 (h:DataW.trod enc Tryz.prog w 0 (fun _=>true) true m t [c0]=some y) (hb:Rows.uptoBulk y.1<=KB):∃l,SlAt (RowAt sz At) w b o l/\l.length*mb<=KB/\∀x∈l,P x:=by
 obtain ⟨l,hl,h1,h2⟩:=open_rowAtK d ht hce hc0 mb hmb hel h hb;obtain ⟨pa,cap,rfl,-⟩:=hl.shape;exact ⟨l,⟨_,_,_,hc 0 _ rfl,hl⟩,h1,h2⟩
def PIst (i:Ist):Prop:=i.e.length<=KB
def PBrn (x:Brn):Prop:=x.pats.length<=KB
def PStp (x:Stp):Prop:=x.takes.length<=KB/\(x.keys.length<=KB/\∀c∈x.keys,c.length<=KB)/\x.brs.length<=KB/\∀b∈x.brs,PBrn b
def PActn (x:Actn):Prop:=x.params.length<=KB/\x.body.length<=KB/\∀i∈x.body,PIst i
def PTbl (x:Tbl):Prop:=(x.keys.length<=KB/\∀c∈x.keys,c.length<=KB)/\x.acts.length<=KB/\x.dargs.length<=KB
theorem codeK (hl:cs.length=1) (hc:CellsAt w b o cs) (h:DataW.trod enc Tryz.prog w 0 (fun _=>true) true m 70 cs=some y) (hb:Rows.uptoBulk y.1<=KB):∃n,SlAt CRow w b o n/\n.length<=KB:=by
 match cs,hl with
 |[c0],_=>
  obtain ⟨l,q1,q2,q3⟩:=slK (P:=(fun _=>True)) (⟨0,0,0,0,0⟩:Nod) hc Tryz.underlying70 (by kernel_rfl:_=6) dq 1 (fun _ _ y _=>bulk_one y.1) (fun m b o cs y h1 h2 h3 _=>by obtain ⟨n,hn⟩:=nd_of_trod h1 h2 h3;exact ⟨n,hn,trivial⟩) h hb;exact ⟨l,q1,om⟩
theorem istK (hl:cs.length=5) (hc:CellsAt w b o cs) (h:DataW.trod enc Tryz.prog w 0 (fun _=>true) true m 86 cs=some y) (hb:Rows.uptoBulk y.1<=KB):∃n,IstAt w b o n/\PIst n:=by
 match cs,hl with
 |[c0,c1,c2,c3,c4],_=>
  obtain ⟨n0,y0,h0,-⟩:=trod_fieldK Tryz.underlying86 h hb 0 _ rfl 5 0 1 rfl rfl kq;obtain ⟨n1,y1,h1,-⟩:=trod_fieldK Tryz.underlying86 h hb 1 _ rfl 3 1 1 rfl rfl kq;obtain ⟨n2,y2,h2,-⟩:=trod_fieldK Tryz.underlying86 h hb 2 _ rfl 3 2 1 rfl rfl kq;obtain ⟨n3,y3,h3,b3⟩:=trod_fieldK Tryz.underlying86 h hb 3 _ rfl 70 3 1 rfl rfl kq;obtain ⟨n4,y4,h4,-⟩:=trod_fieldK Tryz.underlying86 h hb 4 _ rfl 3 4 1 rfl rfl kq;simp only[List.take,List.drop] at h0 h1 h2 h3 h4;obtain ⟨k0,r0⟩:=u_of_trod (cs:=[c0]) (b:=b) (o:=o) rfl (hc.first (k:=1)) h0;obtain ⟨k1,r1⟩:=i_of_trod (cs:=[c1]) (b:=b) (o:=o+1) rfl ((hc.from (k:=1)).first (k:=1)) h1;obtain ⟨k2,r2⟩:=i_of_trod (cs:=[c2]) (b:=b) (o:=o+2) rfl ((hc.from (k:=2)).first (k:=1)) h2;obtain ⟨l3,r3,p3⟩:=codeK (cs:=[c3]) (b:=b) (o:=o+3) rfl ((hc.from (k:=3)).first (k:=1)) h3 b3;obtain ⟨k4,r4⟩:=i_of_trod (cs:=[c4]) (b:=b) (o:=o+4) rfl ((hc.from (k:=4)).first (k:=1)) h4;exact ⟨⟨k0,k1,k2,l3,k4⟩,⟨r0,r1,r2,r3,r4⟩,p3⟩
theorem intsK (hl:cs.length=1) (hc:CellsAt w b o cs) (h:DataW.trod enc Tryz.prog w 0 (fun _=>true) true m 23 cs=some y) (hb:Rows.uptoBulk y.1<=KB):∃n,SlAt IRow w b o n/\n.length<=KB:=by
 match cs,hl with
 |[c0],_=>
  obtain ⟨l,q1,q2,q3⟩:=slK (P:=(fun _=>True)) (0:Int) hc Tryz.underlying23 (by kernel_rfl:_=1) dq 1 (fun _ _ y _=>bulk_one y.1) (fun m b o cs y h1 h2 h3 _=>by obtain ⟨n,hn⟩:=i_of_trod h1 h2 h3;exact ⟨n,hn,trivial⟩) h hb;exact ⟨l,q1,om⟩
theorem bytesK (hl:cs.length=1) (hc:CellsAt w b o cs) (h:DataW.trod enc Tryz.prog w 0 (fun _=>true) true m 35 cs=some y) (hb:Rows.uptoBulk y.1<=KB):∃n,SlAt URow w b o n/\n.length<=KB:=by
 match cs,hl with
 |[c0],_=>
  obtain ⟨l,q1,q2,q3⟩:=slK (P:=(fun _=>True)) (0:Int) hc Tryz.underlying35 (by kernel_rfl:_=1) dq 1 (fun _ _ y _=>bulk_one y.1) (fun m b o cs y h1 h2 h3 _=>by obtain ⟨n,hn⟩:=u_of_trod h1 h2 h3;exact ⟨n,hn,trivial⟩) h hb;exact ⟨l,q1,om⟩
theorem codesK (hl:cs.length=1) (hc:CellsAt w b o cs) (h:DataW.trod enc Tryz.prog w 0 (fun _=>true) true m 76 cs=some y) (hb:Rows.uptoBulk y.1<=KB):∃n,SlAt CsRow w b o n/\n.length<=KB/\∀c∈n,c.length<=KB:=by
 match cs,hl with
 |[c0],_=>
  obtain ⟨l,q1,q2,q3⟩:=slK (P:=(fun c:List Nod=>c.length<=KB)) ([]:List Nod) hc Tryz.underlying76 (by kernel_rfl:_=1) dq 1 (fun _ _ y _=>bulk_one y.1) (fun m b o cs y h1 h2 h3 h4=>codeK h1 h2 h3 h4) h hb;exact ⟨l,q1,om,q3⟩
theorem instsK (hl:cs.length=1) (hc:CellsAt w b o cs) (h:DataW.trod enc Tryz.prog w 0 (fun _=>true) true m 27 cs=some y) (hb:Rows.uptoBulk y.1<=KB):∃n,SlAt IstRow w b o n/\n.length<=KB/\∀i∈n,PIst i:=by
 match cs,hl with
 |[c0],_=>
  obtain ⟨l,q1,q2,q3⟩:=slK (P:=PIst) (⟨0,0,0,[],0⟩:Ist) hc Tryz.underlying27 (by kernel_rfl:_=5) dq 1 (fun _ _ y _=>bulk_one y.1) (fun m b o cs y h1 h2 h3 h4=>istK h1 h2 h3 h4) h hb;exact ⟨l,q1,om,q3⟩
theorem numsK (hl:cs.length=1) (hc:CellsAt w b o cs) (h:DataW.trod enc Tryz.prog w 0 (fun _=>true) true m 43 cs=some y) (hb:Rows.uptoBulk y.1<=KB):∃n,SlAt NRow w b o n/\n.length*2<=KB:=by
 match cs,hl with
 |[c0],_=>
  obtain ⟨l,q1,q2,q3⟩:=slK (P:=(fun _=>True)) (0:Nat) hc Tryz.underlying43 (by kernel_rfl:_=2) dq 2 (fun _ _ y h=>bulk_struct Tryz.underlying82 dq h) (fun m b o cs y h1 h2 h3 _=>by
   match cs,h1 with
   |[c0,c1],_=>
    obtain ⟨n,hn⟩:=nAt_of_trod h2 h3;exact ⟨n,hn,trivial⟩) h hb
  exact ⟨l,q1,om⟩
theorem patsK (hl:cs.length=1) (hc:CellsAt w b o cs) (h:DataW.trod enc Tryz.prog w 0 (fun _=>true) true m 123 cs=some y) (hb:Rows.uptoBulk y.1<=KB):∃n,SlAt PRow w b o n/\n.length*2<=KB:=by
 match cs,hl with
 |[c0],_=>
  obtain ⟨l,q1,q2,q3⟩:=slK (P:=(fun _=>True)) (⟨0,0⟩:Pt) hc Tryz.underlying123 (by kernel_rfl:_=4) dq 2 (fun _ _ y h=>bulk_struct Tryz.underlying142 dq h) (fun m b o cs y h1 h2 h3 _=>by
   match cs,h1 with
   |[c0,c1,c2,c3],_=>
    obtain ⟨n,hn⟩:=pAt_of_trod h2 h3;exact ⟨n,hn,trivial⟩) h hb
  exact ⟨l,q1,om⟩
theorem brnK (hl:cs.length=2) (hc:CellsAt w b o cs) (h:DataW.trod enc Tryz.prog w 0 (fun _=>true) true m 140 cs=some y) (hb:Rows.uptoBulk y.1<=KB):∃n,BrnAt w b o n/\PBrn n:=by
 match cs,hl with
 |[c0,c1],_=>
  obtain ⟨n0,y0,h0,b0⟩:=trod_fieldK Tryz.underlying140 h hb 0 _ rfl 123 0 1 rfl rfl kq;obtain ⟨n1,y1,h1,-⟩:=trod_fieldK Tryz.underlying140 h hb 1 _ rfl 3 1 1 rfl rfl kq;simp only[List.take,List.drop] at h0 h1;obtain ⟨l,r0,p0⟩:=patsK (cs:=[c0]) (b:=b) (o:=o) rfl (hc.first (k:=1)) h0 b0;obtain ⟨k,r1⟩:=i_of_trod (cs:=[c1]) (b:=b) (o:=o+1) rfl ((hc.from (k:=1)).first (k:=1)) h1;exact ⟨⟨l,k⟩,⟨r0,r1⟩,by show l.length<=KB;omega⟩
theorem brnsK (hl:cs.length=1) (hc:CellsAt w b o cs) (h:DataW.trod enc Tryz.prog w 0 (fun _=>true) true m 77 cs=some y) (hb:Rows.uptoBulk y.1<=KB):∃n,SlAt BrnRow w b o n/\n.length<=KB/\∀x∈n,PBrn x:=by
 match cs,hl with
 |[c0],_=>
  obtain ⟨l,q1,q2,q3⟩:=slK (P:=PBrn) (⟨[],0⟩:Brn) hc Tryz.underlying77 (by kernel_rfl:_=2) dq 1 (fun _ _ y _=>bulk_one y.1) (fun m b o cs y h1 h2 h3 h4=>brnK h1 h2 h3 h4) h hb;exact ⟨l,q1,om,q3⟩
theorem stpK (hl:cs.length=4) (hc:CellsAt w b o cs) (h:DataW.trod enc Tryz.prog w 0 (fun _=>true) true m 79 cs=some y) (hb:Rows.uptoBulk y.1<=KB):∃n,StpAt w b o n/\PStp n:=by
 match cs,hl with
 |[c0,c1,c2,c3],_=>
  obtain ⟨n0,y0,h0,b0⟩:=trod_fieldK Tryz.underlying79 h hb 0 _ rfl 23 0 1 rfl rfl kq;obtain ⟨n1,y1,h1,b1⟩:=trod_fieldK Tryz.underlying79 h hb 1 _ rfl 76 1 1 rfl rfl kq;obtain ⟨n2,y2,h2,b2⟩:=trod_fieldK Tryz.underlying79 h hb 2 _ rfl 77 2 1 rfl rfl kq;obtain ⟨n3,y3,h3,-⟩:=trod_fieldK Tryz.underlying79 h hb 3 _ rfl 3 3 1 rfl rfl kq;simp only[List.take,List.drop] at h0 h1 h2 h3;obtain ⟨l0,r0,p0⟩:=intsK (cs:=[c0]) (b:=b) (o:=o) rfl (hc.first (k:=1)) h0 b0;obtain ⟨l1,r1,p1⟩:=codesK (cs:=[c1]) (b:=b) (o:=o+1) rfl ((hc.from (k:=1)).first (k:=1)) h1 b1;obtain ⟨l2,r2,p2⟩:=brnsK (cs:=[c2]) (b:=b) (o:=o+2) rfl ((hc.from (k:=2)).first (k:=1)) h2 b2;obtain ⟨k,r3⟩:=i_of_trod (cs:=[c3]) (b:=b) (o:=o+3) rfl ((hc.from (k:=3)).first (k:=1)) h3;exact ⟨⟨l0,l1,l2,k⟩,⟨r0,r1,r2,r3⟩,p0,p1,p2⟩
theorem actnK (hl:cs.length=2) (hc:CellsAt w b o cs) (h:DataW.trod enc Tryz.prog w 0 (fun _=>true) true m 110 cs=some y) (hb:Rows.uptoBulk y.1<=KB):∃n,ActnAt w b o n/\PActn n:=by
 match cs,hl with
 |[c0,c1],_=>
  obtain ⟨n0,y0,h0,b0⟩:=trod_fieldK Tryz.underlying110 h hb 0 _ rfl 23 0 1 rfl rfl kq;obtain ⟨n1,y1,h1,b1⟩:=trod_fieldK Tryz.underlying110 h hb 1 _ rfl 27 1 1 rfl rfl kq;simp only[List.take,List.drop] at h0 h1;obtain ⟨l0,r0,p0⟩:=intsK (cs:=[c0]) (b:=b) (o:=o) rfl (hc.first (k:=1)) h0 b0;obtain ⟨l1,r1,p1⟩:=instsK (cs:=[c1]) (b:=b) (o:=o+1) rfl ((hc.from (k:=1)).first (k:=1)) h1 b1;exact ⟨⟨l0,l1⟩,⟨r0,r1⟩,p0,p1⟩
theorem tblK (hl:cs.length=5) (hc:CellsAt w b o cs) (h:DataW.trod enc Tryz.prog w 0 (fun _=>true) true m 121 cs=some y) (hb:Rows.uptoBulk y.1<=KB):∃n,TblAt w b o n/\PTbl n:=by
 match cs,hl with
 |[c0,c1,c2,c3,c4],_=>
  obtain ⟨n0,y0,h0,b0⟩:=trod_fieldK Tryz.underlying121 h hb 0 _ rfl 76 0 1 rfl rfl kq;obtain ⟨n1,y1,h1,b1⟩:=trod_fieldK Tryz.underlying121 h hb 1 _ rfl 35 1 1 rfl rfl kq;obtain ⟨n2,y2,h2,b2⟩:=trod_fieldK Tryz.underlying121 h hb 2 _ rfl 23 2 1 rfl rfl kq;obtain ⟨n3,y3,h3,b3⟩:=trod_fieldK Tryz.underlying121 h hb 3 _ rfl 119 3 2 rfl rfl kq;obtain ⟨n4,y4,h4,-⟩:=trod_fieldK Tryz.underlying119 h3 b3 0 _ rfl 3 0 1 rfl rfl kq;obtain ⟨n5,y5,h5,b5⟩:=trod_fieldK Tryz.underlying119 h3 b3 1 _ rfl 43 1 1 rfl rfl kq;simp only[List.take,List.drop] at h0 h1 h2 h4 h5;obtain ⟨l0,r0,p0⟩:=codesK (cs:=[c0]) (b:=b) (o:=o) rfl (hc.first (k:=1)) h0 b0;obtain ⟨l1,r1,-⟩:=bytesK (cs:=[c1]) (b:=b) (o:=o+1) rfl ((hc.from (k:=1)).first (k:=1)) h1 b1;obtain ⟨l2,r2,p2⟩:=intsK (cs:=[c2]) (b:=b) (o:=o+2) rfl ((hc.from (k:=2)).first (k:=1)) h2 b2;obtain ⟨k,r3⟩:=i_of_trod (cs:=[c3]) (b:=b) (o:=o+3) rfl ((hc.from (k:=3)).first (k:=1)) h4;obtain ⟨l4,r4,p4⟩:=numsK (cs:=[c4]) (b:=b) (o:=o+4) rfl ((hc.from (k:=4)).first (k:=1)) h5 b5;exact ⟨⟨l0,l1,l2,k,l4⟩,⟨r0,r1,r2,r3,r4⟩,p0,p2,by show l4.length<=KB;omega⟩
theorem prgK (hl:cs.length=12) (h:DataW.trod enc Tryz.prog w 0 (fun _=>true) true m 33 cs=some y) (hb:Rows.uptoBulk y.1<=KB):∃(s:PgS) (p:Prg),cs=s.cells/\PgOk w s p/\Lm p:=by
 match cs,hl with
 |[c0,c1,c2,c3,c4,c5,c6,c7,c8,c9,c10,c11],_=>
  obtain ⟨n0,y0,h0,b0⟩:=trod_fieldK Tryz.underlying33 h hb 0 _ rfl 22 0 1 rfl rfl kq;obtain ⟨n1,y1,h1,b1⟩:=trod_fieldK Tryz.underlying33 h hb 1 _ rfl 23 1 1 rfl rfl kq;obtain ⟨n2,y2,h2,b2⟩:=trod_fieldK Tryz.underlying33 h hb 2 _ rfl 24 2 1 rfl rfl kq;obtain ⟨n3,y3,h3,b3⟩:=trod_fieldK Tryz.underlying33 h hb 3 _ rfl 25 3 1 rfl rfl kq;obtain ⟨n4,y4,h4,b4⟩:=trod_fieldK Tryz.underlying33 h hb 4 _ rfl 26 4 1 rfl rfl kq;obtain ⟨n5,y5,h5,b5⟩:=trod_fieldK Tryz.underlying33 h hb 5 _ rfl 27 5 1 rfl rfl kq;obtain ⟨n6,y6,h6,b6⟩:=trod_fieldK Tryz.underlying33 h hb 6 _ rfl 23 6 1 rfl rfl kq;obtain ⟨nx,yx,hx,bx⟩:=trod_fieldK Tryz.underlying33 h hb 7 _ rfl 31 7 5 rfl rfl kq;obtain ⟨n7,y7,h7⟩:=trod_field Tryz.underlying31 hx 0 _ rfl 28 0 1 rfl rfl kq;obtain ⟨n8,y8,h8⟩:=trod_field Tryz.underlying31 hx 1 _ rfl 29 1 1 rfl rfl kq;obtain ⟨n9,y9,h9⟩:=trod_field Tryz.underlying31 hx 2 _ rfl 28 2 1 rfl rfl kq;obtain ⟨n10,y10,h10⟩:=trod_field Tryz.underlying31 hx 3 _ rfl 28 3 1 rfl rfl kq;obtain ⟨n11,y11,h11⟩:=trod_field Tryz.underlying31 hx 4 _ rfl 28 4 1 rfl rfl kq;simp only[List.take,List.drop] at h0 h1 h2 h3 h4 h5 h6 h7 h8 h9 h10 h11;obtain ⟨l0,q0,a0,p0⟩:=open_rowAtK (P:=fun l:List Int=>l.length<=KB) [] Tryz.underlying22 (by kernel_rfl:_=1) dq 1 (fun _ _ y _=>bulk_one y.1) (fun m b o cs y h1 h2 h3 h4=>intsK h1 h2 h3 h4) h0 b0;obtain ⟨l1,q1,a1,-⟩:=open_rowAtK (P:=fun _=>True) (0:Int) Tryz.underlying23 (by kernel_rfl:_=1) dq 1 (fun _ _ y _=>bulk_one y.1) (fun m b o cs y h1 h2 h3 _=>by obtain ⟨n,hn⟩:=i_of_trod h1 h2 h3;exact ⟨n,hn,trivial⟩) h1 b1;obtain ⟨l2,q2,a2,p2⟩:=open_rowAtK (P:=PStp) ⟨[],[],[],0⟩ Tryz.underlying24 (by kernel_rfl:_=4) dq 1 (fun _ _ y _=>bulk_one y.1) (fun m b o cs y h1 h2 h3 h4=>stpK h1 h2 h3 h4) h2 b2;obtain ⟨l3,q3,a3,p3⟩:=open_rowAtK (P:=PActn) ⟨[],[]⟩ Tryz.underlying25 (by kernel_rfl:_=2) dq 1 (fun _ _ y _=>bulk_one y.1) (fun m b o cs y h1 h2 h3 h4=>actnK h1 h2 h3 h4) h3 b3;obtain ⟨l4,q4,a4,p4⟩:=open_rowAtK (P:=PTbl) ⟨[],[],[],0,[]⟩ Tryz.underlying26 (by kernel_rfl:_=5) dq 1 (fun _ _ y _=>bulk_one y.1) (fun m b o cs y h1 h2 h3 h4=>tblK h1 h2 h3 h4) h4 b4;obtain ⟨l5,q5,a5,p5⟩:=open_rowAtK (P:=PIst) ⟨0,0,0,[],0⟩ Tryz.underlying27 (by kernel_rfl:_=5) dq 1 (fun _ _ y _=>bulk_one y.1) (fun m b o cs y h1 h2 h3 h4=>istK h1 h2 h3 h4) h5 b5;obtain ⟨l6,q6,a6,-⟩:=open_rowAtK (P:=fun _=>True) (0:Int) Tryz.underlying23 (by kernel_rfl:_=1) dq 1 (fun _ _ y _=>bulk_one y.1) (fun m b o cs y h1 h2 h3 _=>by obtain ⟨n,hn⟩:=i_of_trod h1 h2 h3;exact ⟨n,hn,trivial⟩) h6 b6;obtain ⟨l7,q7⟩:=open_rowAt ⟨#[]⟩ Tryz.underlying28 (by kernel_rfl:_=1) dq (fun m b o cs y h1 h2 h3=>s_of_trod h1 h2 h3) h7;obtain ⟨l8,q8⟩:=open_rowAt [] Tryz.underlying29 (by kernel_rfl:_=1) dq (fun m b o cs y h1 h2 h3=>strs_of_trod h1 h2 h3) h8;obtain ⟨l9,q9⟩:=open_rowAt ⟨#[]⟩ Tryz.underlying28 (by kernel_rfl:_=1) dq (fun m b o cs y h1 h2 h3=>s_of_trod h1 h2 h3) h9;obtain ⟨l10,q10⟩:=open_rowAt ⟨#[]⟩ Tryz.underlying28 (by kernel_rfl:_=1) dq (fun m b o cs y h1 h2 h3=>s_of_trod h1 h2 h3) h10;obtain ⟨l11,q11⟩:=open_rowAt ⟨#[]⟩ Tryz.underlying28 (by kernel_rfl:_=1) dq (fun m b o cs y h1 h2 h3=>s_of_trod h1 h2 h3) h11;obtain ⟨pa0,cp0,rfl,-⟩:=q0.shape;obtain ⟨pa1,cp1,rfl,-⟩:=q1.shape;obtain ⟨pa2,cp2,rfl,-⟩:=q2.shape;obtain ⟨pa3,cp3,rfl,-⟩:=q3.shape;obtain ⟨pa4,cp4,rfl,-⟩:=q4.shape;obtain ⟨pa5,cp5,rfl,-⟩:=q5.shape;obtain ⟨pa6,cp6,rfl,-⟩:=q6.shape;obtain ⟨pa7,cp7,rfl,-⟩:=q7.shape;obtain ⟨pa8,cp8,rfl,-⟩:=q8.shape;obtain ⟨pa9,cp9,rfl,-⟩:=q9.shape;obtain ⟨pa10,cp10,rfl,-⟩:=q10.shape;obtain ⟨pa11,cp11,rfl,-⟩:=q11.shape;refine ⟨⟨pa0,_,cp0,pa1,_,cp1,pa2,_,cp2,pa3,_,cp3,pa4,_,cp4,pa5,_,cp5,pa6,_,cp6,pa7,_,cp7,pa8,_,cp8,pa9,_,cp9,pa10,_,cp10,pa11,_,cp11⟩,⟨l0,l1,l2,l3,l4,l5,l6,l7,l8,l9,l10,l11⟩,rfl,⟨q0,q1,q2,q3,q4,q5,q6,q7,q8,q9,q10,q11⟩,?_⟩;exact { heads:=by show l0.length<=KB;omega,head:=p0,metas:=by show l1.length<=KB;omega,emit:=by show l6.length<=KB;omega,steps:=by show l2.length<=KB;omega,takes:=fun x hx=>(p2 x hx).1,skeys:=fun x hx=>(p2 x hx).2.1.1,scode:=fun x hx=>(p2 x hx).2.1.2,brs:=fun x hx=>(p2 x hx).2.2.1,pats:=fun x hx b hb=>(p2 x hx).2.2.2 b hb,acts:=by show l3.length<=KB;omega,params:=fun x hx=>(p3 x hx).1,body:=fun x hx=>(p3 x hx).2.1,bcode:=fun x hx i hi=>(p3 x hx).2.2 i hi,ctl:=by show l5.length<=KB;omega,ccode:=p5,tabs:=by show l4.length<=KB;omega,tkeys:=fun x hx=>(p4 x hx).1.1,tcode:=fun x hx=>(p4 x hx).1.2,tacts:=fun x hx=>(p4 x hx).2.1,dargs:=fun x hx=>(p4 x hx).2.2 }
theorem open_progK (hv:Value.okWide Tryz.prog w .any 0 33 va) (h:DataW.Trod enc Tryz.prog w 0 (fun _=>true) true 33 va d p) (hb:Rows.uptoBulk d<=KB):∃(s:PgS) (q:Prg),va=pgV s/\PgOk w s q/\Lm q:=by
 obtain ⟨fuel,h⟩:=h;obtain ⟨cs,rfl,hs⟩:=agg_cells Tryz.underlying33 hv;have e:Tryz.prog.cellsOf 33=12:=by kernel_rfl
 rw[e] at hs;obtain ⟨cl⟩:=cs;obtain ⟨s,q,e2,hq,hL⟩:=prgK hs h hb;have e3:cl=s.cells:=e2;exact ⟨s,q,by rw[e3];rfl,hq,hL⟩
theorem entK {c4 c5:Value} (hc:CellsAt w b o [c0,c1,c2,c3,c4,c5]) (h:DataW.trod enc Tryz.prog w 0 (fun _=>true) true m 125 [c0,c1,c2,c3,c4,c5]=some y) (hb:Rows.uptoBulk y.1<=KB):∃n,EAt w b o n/\n.pats.length<=1000000/\n.args.length<=1000000:=by
 obtain ⟨n0,y0,h0,b0⟩:=trod_fieldK Tryz.underlying125 h hb 0 _ rfl 3 0 1 rfl rfl kq;obtain ⟨n1,y1,h1,b1⟩:=trod_fieldK Tryz.underlying125 h hb 1 _ rfl 123 1 1 rfl rfl kq;obtain ⟨n2,y2,h2,b2⟩:=trod_fieldK Tryz.underlying125 h hb 2 _ rfl 3 2 1 rfl rfl kq;obtain ⟨n3,y3,h3,b3⟩:=trod_fieldK Tryz.underlying125 h hb 3 _ rfl 3 3 1 rfl rfl kq;obtain ⟨n4,y4,h4,b4⟩:=trod_fieldK Tryz.underlying125 h hb 4 _ rfl 119 4 2 rfl rfl kq;obtain ⟨n5,y5,h5,-⟩:=trod_fieldK Tryz.underlying119 h4 b4 0 _ rfl 3 0 1 rfl rfl kq;obtain ⟨n6,y6,h6,b6⟩:=trod_fieldK Tryz.underlying119 h4 b4 1 _ rfl 43 1 1 rfl rfl kq;obtain ⟨k0,e0,-,-⟩:=DataW.trod_int Tryz.underlying3 h0;obtain ⟨k2,e2,-,-⟩:=DataW.trod_int Tryz.underlying3 h2;obtain ⟨k3,e3,-,-⟩:=DataW.trod_int Tryz.underlying3 h3;obtain ⟨k5,e5,-,-⟩:=DataW.trod_int Tryz.underlying3 h5;simp only[List.take,List.drop] at e0 h1 e2 e3 e5 h6;simp only[List.cons.injEq,and_true] at e0 e2 e3 e5;subst e0 e2 e3 e5;obtain ⟨l,hl,p1,-⟩:=open_rowAtK (P:=fun _=>True) (⟨0,0⟩:Pt) Tryz.underlying123 (by kernel_rfl:_=4) dq 2 (fun _ _ y h=>bulk_struct Tryz.underlying142 dq h) (fun m b o cs y h1 h2 h3 _=>by
  match cs,h1 with
  |[c0,c1,c2,c3],_=>
   obtain ⟨n,hn⟩:=pAt_of_trod h2 h3;exact ⟨n,hn,trivial⟩) h1 b1
 obtain ⟨g,hg,p2,-⟩:=open_rowAtK (P:=fun _=>True) (0:Nat) Tryz.underlying43 (by kernel_rfl:_=2) dq 2 (fun _ _ y h=>bulk_struct Tryz.underlying82 dq h) (fun m b o cs y h1 h2 h3 _=>by
  match cs,h1 with
  |[c0,c1],_=>
   obtain ⟨n,hn⟩:=nAt_of_trod h2 h3;exact ⟨n,hn,trivial⟩) h6 b6
 refine ⟨⟨k0,l,k2,k3,k5,g⟩,⟨hc 0 _ rfl,⟨_,hc 1 _ rfl,hl⟩,hc 2 _ rfl,hc 3 _ rfl,hc 4 _ rfl,⟨_,hc 5 _ rfl,hg⟩⟩,?_,?_⟩
 ·show l.length<=1000000;unfold KB at p1;omega
 show g.length<=1000000;unfold KB at p2;omega
theorem ed2_of_trod (h:DataW.trod enc Tryz.prog w 0 (fun _=>true) true m 54 [c0,c1]=some y):∃e:Ed,c0= .int .i64 e.sw/\c1= .int .i64 e.port:=by
 obtain ⟨n0,y0,h0⟩:=trod_field Tryz.underlying54 h 0 _ rfl 3 0 1 rfl rfl kq;obtain ⟨n1,y1,h1⟩:=trod_field Tryz.underlying54 h 1 _ rfl 3 1 1 rfl rfl kq;obtain ⟨k0,e0,-,-⟩:=DataW.trod_int Tryz.underlying3 h0;obtain ⟨k1,e1,-,-⟩:=DataW.trod_int Tryz.underlying3 h1;simp only[List.take,List.drop] at e0 e1;simp only[List.cons.injEq,and_true] at e0 e1;exact ⟨⟨k0,k1⟩,e0,e1⟩
theorem lnk_of_trod (hl:cs.length=4) (hc:CellsAt w b o cs) (h:DataW.trod enc Tryz.prog w 0 (fun _=>true) true m 151 cs=some y):∃n,LAt w b o n:=by
 match cs,hl with
 |[c0,c1,c2,c3],_=>
  obtain ⟨n0,y0,h0⟩:=trod_field Tryz.underlying151 h 0 _ rfl 54 0 2 rfl rfl kq;obtain ⟨n1,y1,h1⟩:=trod_field Tryz.underlying151 h 1 _ rfl 54 2 2 rfl rfl kq;simp only[List.take,List.drop] at h0 h1;obtain ⟨e0,rfl,rfl⟩:=ed2_of_trod h0;obtain ⟨e1,rfl,rfl⟩:=ed2_of_trod h1;exact ⟨⟨e0,e1⟩,hc 0 _ rfl,hc 1 _ rfl,hc 2 _ rfl,hc 3 _ rfl⟩
theorem net_of_trod (h:DataW.trod enc Tryz.prog w 0 (fun _=>true) true m 52 [c0,c1,c2]=some y) (hb:Rows.uptoBulk y.1<=KB):∃(t:NtS) (n:Net), .agg #[c0,c1,c2]=ntV t/\NtOk w t n/\n.links.length<=1048576:=by
 obtain ⟨n0,y0,h0⟩:=trod_field Tryz.underlying52 h 0 _ rfl 28 0 1 rfl rfl kq;obtain ⟨n1,y1,h1⟩:=trod_field Tryz.underlying52 h 1 _ rfl 22 1 1 rfl rfl kq;obtain ⟨n2,y2,h2,b2⟩:=trod_fieldK Tryz.underlying52 h hb 2 _ rfl 50 2 1 rfl rfl kq;simp only[List.take,List.drop] at h0 h1 h2;obtain ⟨l0,q0⟩:=open_rowAt (⟨#[]⟩:ByteArray) Tryz.underlying28 (by kernel_rfl:_=1) dq (fun m b o cs y h1 h2 h3=>s_of_trod h1 h2 h3) h0;obtain ⟨l1,q1⟩:=open_rowAt ([]:List Int) Tryz.underlying22 (by kernel_rfl:_=1) dq (fun m b o cs y h1 h2 h3=>ints_of_trod h1 h2 h3) h1;obtain ⟨l2,q2,p2,-⟩:=open_rowAtK (P:=fun _=>True) (⟨⟨0,0⟩,⟨0,0⟩⟩:Lnk) Tryz.underlying50 (by kernel_rfl:_=4) dq 1 (fun _ _ y _=>bulk_one y.1) (fun m b o cs y h1 h2 h3 _=>by
  obtain ⟨n,hn⟩:=lnk_of_trod h1 h2 h3;exact ⟨n,hn,trivial⟩) h2 b2
 obtain ⟨r0,s0,rfl,-⟩:=q0.shape;obtain ⟨r1,s1,rfl,-⟩:=q1.shape;obtain ⟨r2,s2,rfl,-⟩:=q2.shape;exact ⟨⟨r0,_,s0,r1,_,s1,r2,_,s2⟩,⟨l0,l1,l2⟩,rfl,⟨q0,q1,q2⟩,by show l2.length<=_;unfold KB at p2;omega⟩
theorem open_netK (hv:Value.okWide Tryz.prog w .any 0 52 va) (h:DataW.Trod enc Tryz.prog w 0 (fun _=>true) true 52 va d p) (hb:Rows.uptoBulk d<=KB):∃(t:NtS) (n:Net),va=ntV t/\NtOk w t n/\n.links.length<=1048576:=by
 obtain ⟨fuel,h⟩:=h;obtain ⟨cs,rfl,hs⟩:=agg_cells Tryz.underlying52 hv;have e:Tryz.prog.cellsOf 52=3:=by kernel_rfl
 rw[e] at hs;obtain ⟨cl⟩:=cs;match cl,hs with
 |[c0,c1,c2],_=>exact net_of_trod h hb
theorem open_end (hv:Value.okWide Tryz.prog w .any 0 54 va) (h:DataW.Trod enc Tryz.prog w 0 (fun _=>true) true 54 va d p):∃e:Ed,va=EdV e:=by
 obtain ⟨fuel,h⟩:=h;obtain ⟨cs,rfl,hs⟩:=agg_cells Tryz.underlying54 hv;have e:Tryz.prog.cellsOf 54=2:=by kernel_rfl
 rw[e] at hs;obtain ⟨cl⟩:=cs;match cl,hs with
 |[c0,c1],_=>
  obtain ⟨e,rfl,rfl⟩:=ed2_of_trod h;exact ⟨e,rfl⟩
theorem open_listsK (hv:Value.okWide Tryz.prog w .any 0 49 va) (h:DataW.Trod enc Tryz.prog w 0 (fun _=>true) true 49 va d p) (hb:Rows.uptoBulk d<=KB):∃ls,EsRow w va ls/\∀x∈ls,∀e∈x,e.pats.length<=1000000/\e.args.length<=1000000:=by
 obtain ⟨fuel,h⟩:=h;rw[slice_cells Tryz.underlying49 hv] at h;obtain ⟨l,h1,-,h2⟩:=open_rowAtK (At:=SlAt ERow) (P:=fun x:List Ent=>∀e∈x,e.pats.length<=1000000/\e.args.length<=1000000) ([]:List Ent) Tryz.underlying49 (by kernel_rfl:_=1) dq 1 (fun _ _ y _=>bulk_one y.1) (fun m b o cs y hl hc ht hb=>by
  match cs,hl with
  |[c0],_=>
   obtain ⟨l,q1,-,q2⟩:=open_rowAtK (P:=fun e:Ent=>e.pats.length<=1000000/\e.args.length<=1000000) (⟨0,[],0,0,0,[]⟩:Ent) Tryz.underlying34 (by kernel_rfl:_=6) dq 1 (fun _ _ y _=>bulk_one y.1) (fun m b o cs y hl hc ht hb=>by
    match cs,hl with
    |[c0,c1,c2,c3,c4,c5],_=>exact entK hc ht hb) ht hb
   obtain ⟨pa,cap,rfl,-⟩:=q1.shape;have hs:SlAt ERow w b o l:=⟨_,_,_,hc 0 _ rfl,q1⟩;exact Exists.intro l (And.intro hs q2)) h hb
 exact ⟨l,h1,h2⟩
end
end Go.Proofs.YtikilcbpogfgkaaGreat
