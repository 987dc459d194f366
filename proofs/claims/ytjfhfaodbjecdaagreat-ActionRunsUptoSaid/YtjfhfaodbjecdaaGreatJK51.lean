/- Lemmas. -/
import Derived.Test.YtjfhfaodbjecdaaGreatJK50
set_option maxRecDepth 100000
namespace Go.Proofs.YtjfhfaodbjecdaaGreat
open Go.ChangeShapes Go.WideShapes Go.ChangeAt Go.RowKit Go.Deep
variable {m fuel sz:Nat} {c0 c1 c2 c3 va c4 c5:Value} {α:Type} {t e:TypeId} {fs:Array Field} {p:List MemPlace}
section
variable {H:Type} {enc:TypeId×Value->H} {w:World}
theorem dj {b o:Nat} {y:DataW H×List MemPlace} (hc:CellsAt w b o [c0,c1]) (h:DataW.trod enc Tryz.prog w 0 (fun _=>true) true m 60 [c0,c1]=some y):∃n,zq w b o n:=by
 obtain ⟨n0,y0,h0⟩:=aJ Tryz.underlying60 h 0 _ rfl 58 0 1 rfl rfl kq;obtain ⟨n1,y1,h1⟩:=aJ Tryz.underlying60 h 1 _ rfl 58 1 1 rfl rfl kq;obtain ⟨v0,e0,-,b0⟩:=DataW.trod_int Tryz.underlying58 h0;obtain ⟨v1,e1,-,b1⟩:=DataW.trod_int Tryz.underlying58 h1;simp only[List.drop_zero,List.take,List.drop] at e0 e1;obtain ⟨k0,rfl,l0⟩:=oG b0;obtain ⟨k1,rfl,l1⟩:=oG b1;simp only[List.cons.injEq,and_true] at e0 e1;subst e0 e1;have hB:B=18446744073709551616:=rfl;rw[<- hB] at l0 l1;have hB0:0<B:=by decide
 have e1:(k0*B+k1)/B=k0:=by
  rw[Nat.mul_comm,Nat.mul_add_div hB0,Nat.div_eq_of_lt l1,Nat.add_zero]
 have e2:(k0*B+k1)%B=k1:=by
  rw[Nat.mul_comm,Nat.mul_add_mod,Nat.mod_eq_of_lt l1]
 refine ⟨k0*B+k1,?_,?_,?_⟩
 ·have:(k0+1)*B<=B*B:=Nat.mul_le_mul_right _ l0;rw[Nat.succ_mul] at this;omega
 ·rw[e1];exact hc 0 _ rfl
 rw[e2];exact hc 1 _ rfl
theorem kD {b o:Nat} {y:DataW H×List MemPlace} (hc:CellsAt w b o [c0,c1,c2,c3]) (h:DataW.trod enc Tryz.prog w 0 (fun _=>true) true m 128 [c0,c1,c2,c3]=some y):∃n,Ci w b o n:=by
 obtain ⟨n0,y0,h0⟩:=aJ Tryz.underlying128 h 0 _ rfl 60 0 2 rfl rfl kq;obtain ⟨n1,y1,h1⟩:=aJ Tryz.underlying128 h 1 _ rfl 60 2 2 rfl rfl kq;simp only[List.drop_zero,List.take,List.drop] at h0 h1;obtain ⟨v,hv⟩:=dj (b:=b) (o:=o) (fun i u hi=>hc i u (by
  match i,hi with
  |0,hi=>exact hi
  |1,hi=>exact hi)) h0
 obtain ⟨k,hk⟩:=dj (b:=b) (o:=o+2) (fun i u hi=>by
  rw[Nat.add_assoc];refine hc (2+i) u ?_
  match i,hi with
  |0,hi=>exact hi
  |1,hi=>exact hi) h1
 exact ⟨⟨v,k⟩,hv,hk⟩
theorem pE {x:DataW H×List MemPlace} (h:DataW.trod enc Tryz.prog w 0 (fun _=>true) true fuel 38 [va]=some x):∃l,NRow w va l:=
 cD 0 Tryz.underlying38 (by kernel_rfl:_=2) dq (fun m b o cs y hl hc ht=>by
  match cs,hl with
  |[c0,c1],_=>exact dj hc ht) h
end
section
variable {H:Type} {enc:TypeId×Value->H} {w:World}
theorem CellsAt.from {b o k:Nat} {cs:List Value} (h:CellsAt w b o cs):CellsAt w b (o+k) (cs.drop k):=fun i v hi=>by
 rw[Nat.add_assoc];exact h (k+i) v (by rwa [List.getElem?_drop] at hi)
theorem CellsAt.first {b o k:Nat} {cs:List Value} (h:CellsAt w b o cs):CellsAt w b o (cs.take k):=fun i v hi=>h i v (by
 rw[List.getElem?_take] at hi;split at hi
 ·exact hi
 ·cases hi)
theorem ng {At:World->Nat->Nat->α->Prop} {b o:Nat} {y:DataW H×List MemPlace} (d:α) (hc:CellsAt w b o [c0]) (ht:Tryz.prog.underlying t=some (.slice e)) (hce:Tryz.prog.cellsOf e=sz) (hc0:0<sz)
 (hel:∀(m b o:Nat) (cs:List Value) (y:DataW H×List MemPlace),cs.length=sz->CellsAt w b o cs->DataW.trod enc Tryz.prog w 0 (fun _=>true) true m e cs=some y->∃x,At w b o x)
 (h:DataW.trod enc Tryz.prog w 0 (fun _=>true) true m t [c0]=some y):∃l,SlAt (RowAt sz At) w b o l:=by
 obtain ⟨l,hl⟩:=cD d ht hce hc0 hel h;obtain ⟨pa,cap,rfl,-⟩:=hl.shape;exact ⟨l,_,_,_,hc 0 _ rfl,hl⟩
theorem dk {b o:Nat} {cs:List Value} {y:DataW H×List MemPlace} (hl:cs.length=1) (hc:CellsAt w b o cs) (h:DataW.trod enc Tryz.prog w 0 (fun _=>true) true m 3 cs=some y):∃n,Cj w b o n:=by
 obtain ⟨k,rfl,-,-⟩:=DataW.trod_int Tryz.underlying3 h;exact ⟨k,hc 0 _ rfl⟩
theorem jY {b o:Nat} {cs:List Value} {y:DataW H×List MemPlace} (hl:cs.length=1) (hc:CellsAt w b o cs) (h:DataW.trod enc Tryz.prog w 0 (fun _=>true) true m 5 cs=some y):∃n,A7 w b o n:=by
 obtain ⟨k,rfl,-,-⟩:=DataW.trod_int Tryz.underlying5 h;exact ⟨k,hc 0 _ rfl⟩
theorem sE {b o:Nat} {cs:List Value} {y:DataW H×List MemPlace} (hl:cs.length=6) (hc:CellsAt w b o cs) (h:DataW.trod enc Tryz.prog w 0 (fun _=>true) true m 65 cs=some y):∃n,zN w b o n:=by
 match cs,hl with
 |[c0,c1,c2,c3,c4,c5],_=>
  obtain ⟨n0,y0,h0⟩:=aJ Tryz.underlying65 h 0 _ rfl 5 0 1 rfl rfl kq;obtain ⟨n1,y1,h1⟩:=aJ Tryz.underlying65 h 1 _ rfl 3 1 1 rfl rfl kq;obtain ⟨n2,y2,h2⟩:=aJ Tryz.underlying65 h 2 _ rfl 3 2 1 rfl rfl kq;obtain ⟨n3,y3,h3⟩:=aJ Tryz.underlying65 h 3 _ rfl 3 3 1 rfl rfl kq;obtain ⟨n4,y4,h4⟩:=aJ Tryz.underlying65 h 4 _ rfl 60 4 2 rfl rfl kq;obtain ⟨k0,e0,-,-⟩:=DataW.trod_int Tryz.underlying5 h0;obtain ⟨k1,e1,-,-⟩:=DataW.trod_int Tryz.underlying3 h1;obtain ⟨k2,e2,-,-⟩:=DataW.trod_int Tryz.underlying3 h2;obtain ⟨k3,e3,-,-⟩:=DataW.trod_int Tryz.underlying3 h3;simp only[List.drop_zero,List.take,List.drop] at e0 e1 e2 e3 h4;simp only[List.cons.injEq,and_true] at e0 e1 e2 e3;subst e0 e1 e2 e3;obtain ⟨v,hv⟩:=dj (b:=b) (o:=o+4) (hc.from (k:=4)) h4;exact ⟨⟨k0,k1,k2,k3,v⟩,hc 0 _ rfl,hc 1 _ rfl,hc 2 _ rfl,hc 3 _ rfl,hv⟩
theorem nF {b o:Nat} {cs:List Value} {y:DataW H×List MemPlace} (hl:cs.length=1) (hc:CellsAt w b o cs) (h:DataW.trod enc Tryz.prog w 0 (fun _=>true) true m 38 cs=some y):∃n,SlAt NRow w b o n:=by
 match cs,hl with
 |[c0],_=>exact ng 0 hc Tryz.underlying38 (by kernel_rfl:_=2) dq (fun m b o cs y h1 h2 h3=>by
  match cs,h1 with
  |[c0,c1],_=>exact dj h2 h3) h
theorem fY {b o:Nat} {cs:List Value} {y:DataW H×List MemPlace} (hl:cs.length=1) (hc:CellsAt w b o cs) (h:DataW.trod enc Tryz.prog w 0 (fun _=>true) true m 9 cs=some y):∃n,zM w b o n:=by
 obtain ⟨k,rfl,-⟩:=DataW.trod_string Tryz.underlying9 h;exact ⟨k,hc 0 _ rfl⟩
theorem pF {b o:Nat} {cs:List Value} {y:DataW H×List MemPlace} (hl:cs.length=1) (hc:CellsAt w b o cs) (h:DataW.trod enc Tryz.prog w 0 (fun _=>true) true m 28 cs=some y):∃n,SlAt lj w b o n:=by
 match cs,hl with
 |[c0],_=>exact ng ⟨#[]⟩ hc Tryz.underlying28 (by kernel_rfl:_=1) dq (fun m b o cs y h1 h2 h3=>fY h1 h2 h3) h
end
abbrev KB:Nat:=1048576
section
variable {H:Type} {enc:TypeId×Value->H} {w:World}
theorem ch (d:DataW H):1<=Rows.uptoBulk d:=by
 cases d with
 |lit l=>cases l<;>simp[Rows.uptoBulk]
 |nil=>simp[Rows.uptoBulk]
 |ptr d=>simp[Rows.uptoBulk]
 |slice elems spare=>simp[Rows.uptoBulk]
 |agg parts=>simp[Rows.uptoBulk]
 |iface t d=>simp[Rows.uptoBulk]
 |map entries=>simp[Rows.uptoBulk]
 |held h=>simp[Rows.uptoBulk]
theorem jZ:∀{l:List (DataW H)} {d:DataW H},d∈l->Rows.uptoBulk d<=Rows.uptoBulkAll l
 |[],d,h=>by cases h
 |x::l,d,h=>by
  rw[Rows.uptoBulkAll];rcases List.mem_cons.1 h with e|e
  ·rw[e];omega
  ·have:=jZ e;omega
theorem rd:∀l:List (DataW H),l.length<=Rows.uptoBulkAll l
 |[]=>by simp
 |x::l=>by
  have h1:=ch x;have h2:=rd l;rw[Rows.uptoBulkAll,List.length_cons];omega
theorem aD {cs:List Value} {x:DataW H×List MemPlace} (ht:Tryz.prog.underlying t=some (.struct fs)) (h:DataW.trod enc Tryz.prog w 0 (fun _=>true) true fuel t cs=some x) (hb:Rows.uptoBulk x.1<=KB)
 (i:Nat) (f:Field) (hf:fs[i]?=some f) (ty o c:Nat) (h1:f.type=ty) (h2:f.offset=o) (h3:Tryz.prog.cellsOf ty=c):∃n y,DataW.trod enc Tryz.prog w 0 (fun _=>true) true n ty ((cs.drop o).take c)=some y/\Rows.uptoBulk y.1<=KB:=by
 subst h1 h2 h3;obtain ⟨xs,n,rfl,hx,-,hl,hg⟩:=DataW.trod_struct ht h;subst hx;have hi:i<fs.size:=(bV hf).1;refine ⟨n,_,(hg i f hf).trans (bS om),?_⟩;have h4:(xs[i]'om).1∈xs.map (·.1):=List.mem_map.2 ⟨_,List.getElem_mem _,rfl⟩;have h5:=jZ h4;have h6:Rows.uptoBulkAll (xs.map (·.1))+1<=KB:=hb;omega
theorem re {mb:Nat}:∀l:List (DataW H),(∀ d∈l,mb<=Rows.uptoBulk d)->l.length*mb<=Rows.uptoBulkAll l
 |[],_=>by simp
 |x::l,h=>by
  have h1:=h x sm;have h2:=re l fun d hd=>h d (by simp[hd])
  rw[Rows.uptoBulkAll,List.length_cons,Nat.add_mul];omega
theorem fI {cs:List Value} {x:DataW H×List MemPlace} (ht:Tryz.prog.underlying t=some (.struct fs)) (hf:0<fs.size) (h:DataW.trod enc Tryz.prog w 0 (fun _=>true) true fuel t cs=some x):2<=Rows.uptoBulk x.1:=by
 obtain ⟨xs,n,rfl,hx,-,hl,hg⟩:=DataW.trod_struct ht h;subst hx;have h1:=rd (xs.map (·.1));rw[List.length_map] at h1;show 2<=Rows.uptoBulkAll (xs.map (·.1))+1;omega
theorem bJ {P:α->Prop} {At:World->Nat->Nat->α->Prop} {c:Nat} {x:DataW H×List MemPlace} (d:α) (ht:Tryz.prog.underlying t=some (.slice e)) (hc:Tryz.prog.cellsOf e=c) (hc0:0<c) (mb:Nat) (hmb:∀(m:Nat) (cs:List Value) (y:DataW H×List MemPlace),DataW.trod enc Tryz.prog w 0 (fun _=>true) true m e cs=some y->mb<=Rows.uptoBulk y.1)
 (hel:∀(m b o:Nat) (cs:List Value) (y:DataW H×List MemPlace),cs.length=c->CellsAt w b o cs->DataW.trod enc Tryz.prog w 0 (fun _=>true) true m e cs=some y->Rows.uptoBulk y.1<=KB->∃x,At w b o x/\P x)
 (h:DataW.trod enc Tryz.prog w 0 (fun _=>true) true fuel t [va]=some x) (hb:Rows.uptoBulk x.1<=KB):∃l,RowAt c At w va l/\l.length*mb<=KB/\∀x∈l,P x:=by
 subst hc;rcases open_slice ht h with ⟨he,-⟩|⟨a,len,cap,m,n,D,Pl,he,-,hl,hm,hmm,hxx,hx⟩
 ·simp only[List.cons.injEq,and_true] at he;exact ⟨[],by rw[he];exact RowAt.nil,by simp,by simp⟩
 simp only[List.cons.injEq,and_true] at he;simp only[if_true] at hmm;subst hmm he;subst hxx;have hall:Rows.uptoBulkAll ((List.range len).map D)+1<=KB:=by
  have h1:Rows.uptoBulkAll ((List.range len).map D)+Rows.uptoBulkAll ((List.range (m-len)).map fun j=>D (len+j))+1<=KB:=hb;omega
 have hlen:len*mb<=KB:=by
  have:=re (mb:=mb) ((List.range len).map D) (fun q hq=>by
   obtain ⟨j,hj,rfl⟩:=List.mem_map.1 hq;obtain ⟨cs,-,htr⟩:=hx j (by have:=List.mem_range.1 hj;omega);exact hmb _ _ _ htr)
  simp only[List.length_map,List.length_range] at this;omega
 have hD:∀j,j<len->Rows.uptoBulk (D j)<=KB:=fun j hj=>by have:=jZ (d:=D j) (l:=(List.range len).map D) (List.mem_map.2 ⟨j,List.mem_range.2 hj,rfl⟩);omega
 have key:∀j,j<len->∃cs y,cs.length=Tryz.prog.cellsOf e/\(∀ i,i<Tryz.prog.cellsOf e->w.cell? (a.add (j*Tryz.prog.cellsOf e+i))=cs[i]?)/\DataW.trod enc Tryz.prog w 0 (fun _=>true) true n e cs=some y/\Rows.uptoBulk y.1<=KB:=by
  intro j hj;obtain ⟨cs,hcs,htr⟩:=hx j om;obtain ⟨-,hlen,hat⟩:=World.cells?_some hcs;refine ⟨cs,_,hlen,fun i hi=>?_,htr,hD j hj⟩;rw[<- Go.Deep.add_add];exact hat i hi
 by_cases h0:0<len
 ·obtain ⟨cs0,-,hl0,hc0',-⟩:=key 0 h0;have c0:=hc0' 0 hc0;rw[bS om,Nat.zero_mul,Nat.add_zero] at c0;obtain ⟨ab,ao,asp⟩:=a;have hsp:asp=none:=(af c0).2;have hblk:=(af c0).1;subst hsp;rw[tB] at hblk;have key2:∀j,∃y:α,j<len->At w ab (ao+j*Tryz.prog.cellsOf e) y/\P y:=by
   intro j;by_cases hj:j<len
   ·obtain ⟨cs,y,h1,h2,h3,h4⟩:=key j hj;obtain ⟨x,hx⟩:=hel n ab (ao+j*Tryz.prog.cellsOf e) cs y h1 (fun i v hi=>by
     have hlt:=(bO hi).1;have:=h2 i om;rw[tB] at this;rw[Nat.add_assoc,this];exact hi) h3 h4
    exact ⟨x,fun _=>hx⟩
   exact ⟨d,fun h=>absurd h hj⟩
  obtain ⟨f,hf⟩:=Classical.axiomOfChoice key2;refine ⟨(List.range len).map f,⟨some ⟨ab,ao,none⟩,_,by simp,by simpa using hl,hm,(fun q=>by cases q),fun _=>⟨ab,ao,rfl,hblk,fun j x hj=>?_⟩⟩,by simpa using hlen,fun x hx=>?_⟩
  ·have hjl:j<len:=by have:=(bO hj).1;simpa using this
   have:f j=x:=by simpa [hjl] using hj
   rw[<- this];exact (hf j hjl).1
  obtain ⟨j,hj,rfl⟩:=List.mem_map.1 hx;exact (hf j (List.mem_range.1 hj)).2
 obtain rfl:len=0:=om;exact ⟨[],⟨some a,_,rfl,zl,hm,(fun q=>by cases q),fun h=>absurd h (Nat.lt_irrefl 0)⟩,by simp,by simp⟩
theorem zG {P:α->Prop} {At:World->Nat->Nat->α->Prop} {b o:Nat} {y:DataW H×List MemPlace} (d:α) (hc:CellsAt w b o [c0]) (ht:Tryz.prog.underlying t=some (.slice e)) (hce:Tryz.prog.cellsOf e=sz) (hc0:0<sz) (mb:Nat) (hmb:∀(m:Nat) (cs:List Value) (y:DataW H×List MemPlace),DataW.trod enc Tryz.prog w 0 (fun _=>true) true m e cs=some y->mb<=Rows.uptoBulk y.1)
 (hel:∀(m b o:Nat) (cs:List Value) (y:DataW H×List MemPlace),cs.length=sz->CellsAt w b o cs->DataW.trod enc Tryz.prog w 0 (fun _=>true) true m e cs=some y->Rows.uptoBulk y.1<=KB->∃x,At w b o x/\P x)
 (h:DataW.trod enc Tryz.prog w 0 (fun _=>true) true m t [c0]=some y) (hb:Rows.uptoBulk y.1<=KB):∃l,SlAt (RowAt sz At) w b o l/\l.length*mb<=KB/\∀x∈l,P x:=by
 obtain ⟨l,hl,h1,h2⟩:=bJ d ht hce hc0 mb hmb hel h hb;obtain ⟨pa,cap,rfl,-⟩:=hl.shape;exact ⟨l,⟨_,_,_,hc 0 _ rfl,hl⟩,h1,h2⟩
def xF (i:Ist):Prop:=i.e.length<=KB
def zn (x:Brn):Prop:=x.pats.length<=KB
def BV (x:Stp):Prop:=x.takes.length<=KB/\(x.keys.length<=KB/\∀c∈x.keys,c.length<=KB)/\x.brs.length<=KB/\∀b∈x.brs,zn b
def zH (x:Actn):Prop:=x.params.length<=KB/\x.body.length<=KB/\∀i∈x.body,xF i
def BW (x:Tbl):Prop:=(x.keys.length<=KB/\∀c∈x.keys,c.length<=KB)/\x.acts.length<=KB/\x.dargs.length<=KB
theorem zI {b o:Nat} {cs:List Value} {y:DataW H×List MemPlace} (hl:cs.length=1) (hc:CellsAt w b o cs) (h:DataW.trod enc Tryz.prog w 0 (fun _=>true) true m 70 cs=some y) (hb:Rows.uptoBulk y.1<=KB):∃n,SlAt eQ w b o n/\n.length<=KB:=by
 match cs,hl with
 |[c0],_=>
  obtain ⟨l,q1,q2,q3⟩:=zG (P:=(fun _=>True)) (⟨0,0,0,0,0⟩:Nod) hc Tryz.underlying70 (by kernel_rfl:_=6) dq 1 (fun _ _ y _=>ch y.1) (fun m b o cs y h1 h2 h3 _=>by obtain ⟨n,hn⟩:=sE h1 h2 h3;exact ⟨n,hn,trivial⟩) h hb;exact ⟨l,q1,om⟩
theorem BX {b o:Nat} {cs:List Value} {y:DataW H×List MemPlace} (hl:cs.length=5) (hc:CellsAt w b o cs) (h:DataW.trod enc Tryz.prog w 0 (fun _=>true) true m 75 cs=some y) (hb:Rows.uptoBulk y.1<=KB):∃n,uX w b o n/\xF n:=by
 match cs,hl with
 |[c0,c1,c2,c3,c4],_=>
  obtain ⟨n0,y0,h0,-⟩:=aD Tryz.underlying75 h hb 0 _ rfl 5 0 1 rfl rfl kq;obtain ⟨n1,y1,h1,-⟩:=aD Tryz.underlying75 h hb 1 _ rfl 3 1 1 rfl rfl kq;obtain ⟨n2,y2,h2,-⟩:=aD Tryz.underlying75 h hb 2 _ rfl 3 2 1 rfl rfl kq;obtain ⟨n3,y3,h3,b3⟩:=aD Tryz.underlying75 h hb 3 _ rfl 70 3 1 rfl rfl kq;obtain ⟨n4,y4,h4,-⟩:=aD Tryz.underlying75 h hb 4 _ rfl 3 4 1 rfl rfl kq;simp only[List.drop_zero,List.take,List.drop] at h0 h1 h2 h3 h4;obtain ⟨k0,r0⟩:=jY (cs:=[c0]) (b:=b) (o:=o) rfl (hc.first (k:=1)) h0;obtain ⟨k1,r1⟩:=dk (cs:=[c1]) (b:=b) (o:=o+1) rfl ((hc.from (k:=1)).first (k:=1)) h1;obtain ⟨k2,r2⟩:=dk (cs:=[c2]) (b:=b) (o:=o+2) rfl ((hc.from (k:=2)).first (k:=1)) h2;obtain ⟨l3,r3,p3⟩:=zI (cs:=[c3]) (b:=b) (o:=o+3) rfl ((hc.from (k:=3)).first (k:=1)) h3 b3;obtain ⟨k4,r4⟩:=dk (cs:=[c4]) (b:=b) (o:=o+4) rfl ((hc.from (k:=4)).first (k:=1)) h4;exact ⟨⟨k0,k1,k2,l3,k4⟩,⟨r0,r1,r2,r3,r4⟩,p3⟩
theorem tC {b o:Nat} {cs:List Value} {y:DataW H×List MemPlace} (hl:cs.length=1) (hc:CellsAt w b o cs) (h:DataW.trod enc Tryz.prog w 0 (fun _=>true) true m 23 cs=some y) (hb:Rows.uptoBulk y.1<=KB):∃n,SlAt IRow w b o n/\n.length<=KB:=by
 match cs,hl with
 |[c0],_=>
  obtain ⟨l,q1,q2,q3⟩:=zG (P:=(fun _=>True)) (0:Int) hc Tryz.underlying23 (by kernel_rfl:_=1) dq 1 (fun _ _ y _=>ch y.1) (fun m b o cs y h1 h2 h3 _=>by obtain ⟨n,hn⟩:=dk h1 h2 h3;exact ⟨n,hn,trivial⟩) h hb;exact ⟨l,q1,om⟩
theorem AL {b o:Nat} {cs:List Value} {y:DataW H×List MemPlace} (hl:cs.length=1) (hc:CellsAt w b o cs) (h:DataW.trod enc Tryz.prog w 0 (fun _=>true) true m 35 cs=some y) (hb:Rows.uptoBulk y.1<=KB):∃n,SlAt URow w b o n/\n.length<=KB:=by
 match cs,hl with
 |[c0],_=>
  obtain ⟨l,q1,q2,q3⟩:=zG (P:=(fun _=>True)) (0:Int) hc Tryz.underlying35 (by kernel_rfl:_=1) dq 1 (fun _ _ y _=>ch y.1) (fun m b o cs y h1 h2 h3 _=>by obtain ⟨n,hn⟩:=jY h1 h2 h3;exact ⟨n,hn,trivial⟩) h hb;exact ⟨l,q1,om⟩
theorem xG {b o:Nat} {cs:List Value} {y:DataW H×List MemPlace} (hl:cs.length=1) (hc:CellsAt w b o cs) (h:DataW.trod enc Tryz.prog w 0 (fun _=>true) true m 50 cs=some y) (hb:Rows.uptoBulk y.1<=KB):∃n,SlAt CsRow w b o n/\n.length<=KB/\∀c∈n,c.length<=KB:=by
 match cs,hl with
 |[c0],_=>
  obtain ⟨l,q1,q2,q3⟩:=zG (P:=(fun c:List Nod=>c.length<=KB)) ([]:List Nod) hc Tryz.underlying50 (by kernel_rfl:_=1) dq 1 (fun _ _ y _=>ch y.1) (fun m b o cs y h1 h2 h3 h4=>zI h1 h2 h3 h4) h hb;exact ⟨l,q1,om,q3⟩
theorem AM {b o:Nat} {cs:List Value} {y:DataW H×List MemPlace} (hl:cs.length=1) (hc:CellsAt w b o cs) (h:DataW.trod enc Tryz.prog w 0 (fun _=>true) true m 27 cs=some y) (hb:Rows.uptoBulk y.1<=KB):∃n,SlAt IstRow w b o n/\n.length<=KB/\∀i∈n,xF i:=by
 match cs,hl with
 |[c0],_=>
  obtain ⟨l,q1,q2,q3⟩:=zG (P:=xF) (⟨0,0,0,[],0⟩:Ist) hc Tryz.underlying27 (by kernel_rfl:_=5) dq 1 (fun _ _ y _=>ch y.1) (fun m b o cs y h1 h2 h3 h4=>BX h1 h2 h3 h4) h hb;exact ⟨l,q1,om,q3⟩
theorem BY {b o:Nat} {cs:List Value} {y:DataW H×List MemPlace} (hl:cs.length=1) (hc:CellsAt w b o cs) (h:DataW.trod enc Tryz.prog w 0 (fun _=>true) true m 38 cs=some y) (hb:Rows.uptoBulk y.1<=KB):∃n,SlAt NRow w b o n/\n.length*2<=KB:=by
 match cs,hl with
 |[c0],_=>
  obtain ⟨l,q1,q2,q3⟩:=zG (P:=(fun _=>True)) (0:Nat) hc Tryz.underlying38 (by kernel_rfl:_=2) dq 2 (fun _ _ y h=>fI Tryz.underlying60 dq h) (fun m b o cs y h1 h2 h3 _=>by
   match cs,h1 with
   |[c0,c1],_=>
    obtain ⟨n,hn⟩:=dj h2 h3;exact ⟨n,hn,trivial⟩) h hb
  exact ⟨l,q1,om⟩
theorem BZ {b o:Nat} {cs:List Value} {y:DataW H×List MemPlace} (hl:cs.length=1) (hc:CellsAt w b o cs) (h:DataW.trod enc Tryz.prog w 0 (fun _=>true) true m 96 cs=some y) (hb:Rows.uptoBulk y.1<=KB):∃n,SlAt oI w b o n/\n.length*2<=KB:=by
 match cs,hl with
 |[c0],_=>
  obtain ⟨l,q1,q2,q3⟩:=zG (P:=(fun _=>True)) (⟨0,0⟩:Pt) hc Tryz.underlying96 (by kernel_rfl:_=4) dq 2 (fun _ _ y h=>fI Tryz.underlying128 dq h) (fun m b o cs y h1 h2 h3 _=>by
   match cs,h1 with
   |[c0,c1,c2,c3],_=>
    obtain ⟨n,hn⟩:=kD h2 h3;exact ⟨n,hn,trivial⟩) h hb
  exact ⟨l,q1,om⟩
theorem CS {b o:Nat} {cs:List Value} {y:DataW H×List MemPlace} (hl:cs.length=2) (hc:CellsAt w b o cs) (h:DataW.trod enc Tryz.prog w 0 (fun _=>true) true m 121 cs=some y) (hb:Rows.uptoBulk y.1<=KB):∃n,uY w b o n/\zn n:=by
 match cs,hl with
 |[c0,c1],_=>
  obtain ⟨n0,y0,h0,b0⟩:=aD Tryz.underlying121 h hb 0 _ rfl 96 0 1 rfl rfl kq;obtain ⟨n1,y1,h1,-⟩:=aD Tryz.underlying121 h hb 1 _ rfl 3 1 1 rfl rfl kq;simp only[List.drop_zero,List.take,List.drop] at h0 h1;obtain ⟨l,r0,p0⟩:=BZ (cs:=[c0]) (b:=b) (o:=o) rfl (hc.first (k:=1)) h0 b0;obtain ⟨k,r1⟩:=dk (cs:=[c1]) (b:=b) (o:=o+1) rfl ((hc.from (k:=1)).first (k:=1)) h1;exact ⟨⟨l,k⟩,⟨r0,r1⟩,by show l.length<=KB;omega⟩
theorem B0 {b o:Nat} {cs:List Value} {y:DataW H×List MemPlace} (hl:cs.length=1) (hc:CellsAt w b o cs) (h:DataW.trod enc Tryz.prog w 0 (fun _=>true) true m 90 cs=some y) (hb:Rows.uptoBulk y.1<=KB):∃n,SlAt BrnRow w b o n/\n.length<=KB/\∀x∈n,zn x:=by
 match cs,hl with
 |[c0],_=>
  obtain ⟨l,q1,q2,q3⟩:=zG (P:=zn) (⟨[],0⟩:Brn) hc Tryz.underlying90 (by kernel_rfl:_=2) dq 1 (fun _ _ y _=>ch y.1) (fun m b o cs y h1 h2 h3 h4=>CS h1 h2 h3 h4) h hb;exact ⟨l,q1,om,q3⟩
theorem CT {b o:Nat} {cs:List Value} {y:DataW H×List MemPlace} (hl:cs.length=4) (hc:CellsAt w b o cs) (h:DataW.trod enc Tryz.prog w 0 (fun _=>true) true m 92 cs=some y) (hb:Rows.uptoBulk y.1<=KB):∃n,uZ w b o n/\BV n:=by
 match cs,hl with
 |[c0,c1,c2,c3],_=>
  obtain ⟨n0,y0,h0,b0⟩:=aD Tryz.underlying92 h hb 0 _ rfl 23 0 1 rfl rfl kq;obtain ⟨n1,y1,h1,b1⟩:=aD Tryz.underlying92 h hb 1 _ rfl 50 1 1 rfl rfl kq;obtain ⟨n2,y2,h2,b2⟩:=aD Tryz.underlying92 h hb 2 _ rfl 90 2 1 rfl rfl kq;obtain ⟨n3,y3,h3,-⟩:=aD Tryz.underlying92 h hb 3 _ rfl 3 3 1 rfl rfl kq;simp only[List.drop_zero,List.take,List.drop] at h0 h1 h2 h3;obtain ⟨l0,r0,p0⟩:=tC (cs:=[c0]) (b:=b) (o:=o) rfl (hc.first (k:=1)) h0 b0;obtain ⟨l1,r1,p1⟩:=xG (cs:=[c1]) (b:=b) (o:=o+1) rfl ((hc.from (k:=1)).first (k:=1)) h1 b1;obtain ⟨l2,r2,p2⟩:=B0 (cs:=[c2]) (b:=b) (o:=o+2) rfl ((hc.from (k:=2)).first (k:=1)) h2 b2;obtain ⟨k,r3⟩:=dk (cs:=[c3]) (b:=b) (o:=o+3) rfl ((hc.from (k:=3)).first (k:=1)) h3;exact ⟨⟨l0,l1,l2,k⟩,⟨r0,r1,r2,r3⟩,p0,p1,p2⟩
theorem B1 {b o:Nat} {cs:List Value} {y:DataW H×List MemPlace} (hl:cs.length=2) (hc:CellsAt w b o cs) (h:DataW.trod enc Tryz.prog w 0 (fun _=>true) true m 49 cs=some y) (hb:Rows.uptoBulk y.1<=KB):∃n,rq w b o n/\zH n:=by
 match cs,hl with
 |[c0,c1],_=>
  obtain ⟨n0,y0,h0,b0⟩:=aD Tryz.underlying49 h hb 0 _ rfl 23 0 1 rfl rfl kq;obtain ⟨n1,y1,h1,b1⟩:=aD Tryz.underlying49 h hb 1 _ rfl 27 1 1 rfl rfl kq;simp only[List.drop_zero,List.take,List.drop] at h0 h1;obtain ⟨l0,r0,p0⟩:=tC (cs:=[c0]) (b:=b) (o:=o) rfl (hc.first (k:=1)) h0 b0;obtain ⟨l1,r1,p1⟩:=AM (cs:=[c1]) (b:=b) (o:=o+1) rfl ((hc.from (k:=1)).first (k:=1)) h1 b1;exact ⟨⟨l0,l1⟩,⟨r0,r1⟩,p0,p1⟩
theorem CU {b o:Nat} {cs:List Value} {y:DataW H×List MemPlace} (hl:cs.length=5) (hc:CellsAt w b o cs) (h:DataW.trod enc Tryz.prog w 0 (fun _=>true) true m 54 cs=some y) (hb:Rows.uptoBulk y.1<=KB):∃n,vd w b o n/\BW n:=by
 match cs,hl with
 |[c0,c1,c2,c3,c4],_=>
  obtain ⟨n0,y0,h0,b0⟩:=aD Tryz.underlying54 h hb 0 _ rfl 50 0 1 rfl rfl kq;obtain ⟨n1,y1,h1,b1⟩:=aD Tryz.underlying54 h hb 1 _ rfl 35 1 1 rfl rfl kq;obtain ⟨n2,y2,h2,b2⟩:=aD Tryz.underlying54 h hb 2 _ rfl 23 2 1 rfl rfl kq;obtain ⟨n3,y3,h3,b3⟩:=aD Tryz.underlying54 h hb 3 _ rfl 52 3 2 rfl rfl kq;obtain ⟨n4,y4,h4,-⟩:=aD Tryz.underlying52 h3 b3 0 _ rfl 3 0 1 rfl rfl kq;obtain ⟨n5,y5,h5,b5⟩:=aD Tryz.underlying52 h3 b3 1 _ rfl 38 1 1 rfl rfl kq;simp only[List.drop_zero,List.take,List.drop] at h0 h1 h2 h4 h5;obtain ⟨l0,r0,p0⟩:=xG (cs:=[c0]) (b:=b) (o:=o) rfl (hc.first (k:=1)) h0 b0;obtain ⟨l1,r1,-⟩:=AL (cs:=[c1]) (b:=b) (o:=o+1) rfl ((hc.from (k:=1)).first (k:=1)) h1 b1;obtain ⟨l2,r2,p2⟩:=tC (cs:=[c2]) (b:=b) (o:=o+2) rfl ((hc.from (k:=2)).first (k:=1)) h2 b2;obtain ⟨k,r3⟩:=dk (cs:=[c3]) (b:=b) (o:=o+3) rfl ((hc.from (k:=3)).first (k:=1)) h4;obtain ⟨l4,r4,p4⟩:=BY (cs:=[c4]) (b:=b) (o:=o+4) rfl ((hc.from (k:=4)).first (k:=1)) h5 b5;exact ⟨⟨l0,l1,l2,k,l4⟩,⟨r0,r1,r2,r3,r4⟩,p0,p2,by show l4.length<=KB;omega⟩
theorem CV {cs:List Value} {y:DataW H×List MemPlace} (hl:cs.length=12) (h:DataW.trod enc Tryz.prog w 0 (fun _=>true) true m 33 cs=some y) (hb:Rows.uptoBulk y.1<=KB):∃(s:PgS) (p:Prg),cs=s.cells/\PgOk w s p/\Lm p:=by
 match cs,hl with
 |[c0,c1,c2,c3,c4,c5,c6,c7,c8,c9,c10,c11],_=>
  obtain ⟨n0,y0,h0,b0⟩:=aD Tryz.underlying33 h hb 0 _ rfl 22 0 1 rfl rfl kq;obtain ⟨n1,y1,h1,b1⟩:=aD Tryz.underlying33 h hb 1 _ rfl 23 1 1 rfl rfl kq;obtain ⟨n2,y2,h2,b2⟩:=aD Tryz.underlying33 h hb 2 _ rfl 24 2 1 rfl rfl kq;obtain ⟨n3,y3,h3,b3⟩:=aD Tryz.underlying33 h hb 3 _ rfl 25 3 1 rfl rfl kq;obtain ⟨n4,y4,h4,b4⟩:=aD Tryz.underlying33 h hb 4 _ rfl 26 4 1 rfl rfl kq;obtain ⟨n5,y5,h5,b5⟩:=aD Tryz.underlying33 h hb 5 _ rfl 27 5 1 rfl rfl kq;obtain ⟨n6,y6,h6,b6⟩:=aD Tryz.underlying33 h hb 6 _ rfl 23 6 1 rfl rfl kq;obtain ⟨nx,yx,hx,bx⟩:=aD Tryz.underlying33 h hb 7 _ rfl 31 7 5 rfl rfl kq;obtain ⟨n7,y7,h7⟩:=aJ Tryz.underlying31 hx 0 _ rfl 28 0 1 rfl rfl kq;obtain ⟨n8,y8,h8⟩:=aJ Tryz.underlying31 hx 1 _ rfl 29 1 1 rfl rfl kq;obtain ⟨n9,y9,h9⟩:=aJ Tryz.underlying31 hx 2 _ rfl 28 2 1 rfl rfl kq;obtain ⟨n10,y10,h10⟩:=aJ Tryz.underlying31 hx 3 _ rfl 28 3 1 rfl rfl kq;obtain ⟨n11,y11,h11⟩:=aJ Tryz.underlying31 hx 4 _ rfl 28 4 1 rfl rfl kq;simp only[List.drop_zero,List.take,List.drop] at h0 h1 h2 h3 h4 h5 h6 h7 h8 h9 h10 h11;obtain ⟨l0,q0,a0,p0⟩:=bJ (P:=fun l:List Int=>l.length<=KB) [] Tryz.underlying22 (by kernel_rfl:_=1) dq 1 (fun _ _ y _=>ch y.1) (fun m b o cs y h1 h2 h3 h4=>tC h1 h2 h3 h4) h0 b0;obtain ⟨l1,q1,a1,-⟩:=bJ (P:=fun _=>True) (0:Int) Tryz.underlying23 (by kernel_rfl:_=1) dq 1 (fun _ _ y _=>ch y.1) (fun m b o cs y h1 h2 h3 _=>by obtain ⟨n,hn⟩:=dk h1 h2 h3;exact ⟨n,hn,trivial⟩) h1 b1;obtain ⟨l2,q2,a2,p2⟩:=bJ (P:=BV) ⟨[],[],[],0⟩ Tryz.underlying24 (by kernel_rfl:_=4) dq 1 (fun _ _ y _=>ch y.1) (fun m b o cs y h1 h2 h3 h4=>CT h1 h2 h3 h4) h2 b2;obtain ⟨l3,q3,a3,p3⟩:=bJ (P:=zH) ⟨[],[]⟩ Tryz.underlying25 (by kernel_rfl:_=2) dq 1 (fun _ _ y _=>ch y.1) (fun m b o cs y h1 h2 h3 h4=>B1 h1 h2 h3 h4) h3 b3;obtain ⟨l4,q4,a4,p4⟩:=bJ (P:=BW) ⟨[],[],[],0,[]⟩ Tryz.underlying26 (by kernel_rfl:_=5) dq 1 (fun _ _ y _=>ch y.1) (fun m b o cs y h1 h2 h3 h4=>CU h1 h2 h3 h4) h4 b4;obtain ⟨l5,q5,a5,p5⟩:=bJ (P:=xF) ⟨0,0,0,[],0⟩ Tryz.underlying27 (by kernel_rfl:_=5) dq 1 (fun _ _ y _=>ch y.1) (fun m b o cs y h1 h2 h3 h4=>BX h1 h2 h3 h4) h5 b5;obtain ⟨l6,q6,a6,-⟩:=bJ (P:=fun _=>True) (0:Int) Tryz.underlying23 (by kernel_rfl:_=1) dq 1 (fun _ _ y _=>ch y.1) (fun m b o cs y h1 h2 h3 _=>by obtain ⟨n,hn⟩:=dk h1 h2 h3;exact ⟨n,hn,trivial⟩) h6 b6;obtain ⟨l7,q7⟩:=cD ⟨#[]⟩ Tryz.underlying28 (by kernel_rfl:_=1) dq (fun m b o cs y h1 h2 h3=>fY h1 h2 h3) h7;obtain ⟨l8,q8⟩:=cD [] Tryz.underlying29 (by kernel_rfl:_=1) dq (fun m b o cs y h1 h2 h3=>pF h1 h2 h3) h8;obtain ⟨l9,q9⟩:=cD ⟨#[]⟩ Tryz.underlying28 (by kernel_rfl:_=1) dq (fun m b o cs y h1 h2 h3=>fY h1 h2 h3) h9;obtain ⟨l10,q10⟩:=cD ⟨#[]⟩ Tryz.underlying28 (by kernel_rfl:_=1) dq (fun m b o cs y h1 h2 h3=>fY h1 h2 h3) h10;obtain ⟨l11,q11⟩:=cD ⟨#[]⟩ Tryz.underlying28 (by kernel_rfl:_=1) dq (fun m b o cs y h1 h2 h3=>fY h1 h2 h3) h11;obtain ⟨pa0,cp0,rfl,-⟩:=q0.shape;obtain ⟨pa1,cp1,rfl,-⟩:=q1.shape;obtain ⟨pa2,cp2,rfl,-⟩:=q2.shape;obtain ⟨pa3,cp3,rfl,-⟩:=q3.shape;obtain ⟨pa4,cp4,rfl,-⟩:=q4.shape;obtain ⟨pa5,cp5,rfl,-⟩:=q5.shape;obtain ⟨pa6,cp6,rfl,-⟩:=q6.shape;obtain ⟨pa7,cp7,rfl,-⟩:=q7.shape;obtain ⟨pa8,cp8,rfl,-⟩:=q8.shape;obtain ⟨pa9,cp9,rfl,-⟩:=q9.shape;obtain ⟨pa10,cp10,rfl,-⟩:=q10.shape;obtain ⟨pa11,cp11,rfl,-⟩:=q11.shape;refine ⟨⟨pa0,_,cp0,pa1,_,cp1,pa2,_,cp2,pa3,_,cp3,pa4,_,cp4,pa5,_,cp5,pa6,_,cp6,pa7,_,cp7,pa8,_,cp8,pa9,_,cp9,pa10,_,cp10,pa11,_,cp11⟩,⟨l0,l1,l2,l3,l4,l5,l6,l7,l8,l9,l10,l11⟩,rfl,⟨q0,q1,q2,q3,q4,q5,q6,q7,q8,q9,q10,q11⟩,?_⟩;exact { heads:=by show l0.length<=KB;omega,head:=p0,metas:=by show l1.length<=KB;omega,emit:=by show l6.length<=KB;omega,steps:=by show l2.length<=KB;omega,takes:=fun x hx=>(p2 x hx).1,skeys:=fun x hx=>(p2 x hx).2.1.1,scode:=fun x hx=>(p2 x hx).2.1.2,brs:=fun x hx=>(p2 x hx).2.2.1,pats:=fun x hx b hb=>(p2 x hx).2.2.2 b hb,acts:=by show l3.length<=KB;omega,params:=fun x hx=>(p3 x hx).1,body:=fun x hx=>(p3 x hx).2.1,bcode:=fun x hx i hi=>(p3 x hx).2.2 i hi,ctl:=by show l5.length<=KB;omega,ccode:=p5,tabs:=by show l4.length<=KB;omega,tkeys:=fun x hx=>(p4 x hx).1.1,tcode:=fun x hx=>(p4 x hx).1.2,tacts:=fun x hx=>(p4 x hx).2.1,dargs:=fun x hx=>(p4 x hx).2.2 }
theorem sF {d:DataW H} (hv:Value.okWide Tryz.prog w .any 0 33 va) (h:DataW.Trod enc Tryz.prog w 0 (fun _=>true) true 33 va d p) (hb:Rows.uptoBulk d<=KB):∃(s:PgS) (q:Prg),va=cE s/\PgOk w s q/\Lm q:=by
 obtain ⟨fuel,h⟩:=h;obtain ⟨cs,rfl,hs⟩:=oH Tryz.underlying33 hv;have e:Tryz.prog.cellsOf 33=12:=by kernel_rfl
 rw[e] at hs;obtain ⟨cl⟩:=cs;obtain ⟨s,q,e2,hq,hL⟩:=CV hs h hb;have e3:cl=s.cells:=e2;exact ⟨s,q,by rw[e3];rfl,hq,hL⟩
end
section
variable {H:Type} {enc:TypeId×Value->H} {w:World}
theorem CW {b o:Nat} {y:DataW H×List MemPlace} (hc:CellsAt w b o [c0,c1,c2,c3,c4,c5]) (h:DataW.trod enc Tryz.prog w 0 (fun _=>true) true m 98 [c0,c1,c2,c3,c4,c5]=some y) (hb:Rows.uptoBulk y.1<=KB):∃n,EAt w b o n/\n.pats.length<=1000000/\n.args.length<=1000000:=by
 obtain ⟨n0,y0,h0,b0⟩:=aD Tryz.underlying98 h hb 0 _ rfl 3 0 1 rfl rfl kq;obtain ⟨n1,y1,h1,b1⟩:=aD Tryz.underlying98 h hb 1 _ rfl 96 1 1 rfl rfl kq;obtain ⟨n2,y2,h2,b2⟩:=aD Tryz.underlying98 h hb 2 _ rfl 3 2 1 rfl rfl kq;obtain ⟨n3,y3,h3,b3⟩:=aD Tryz.underlying98 h hb 3 _ rfl 3 3 1 rfl rfl kq;obtain ⟨n4,y4,h4,b4⟩:=aD Tryz.underlying98 h hb 4 _ rfl 52 4 2 rfl rfl kq;obtain ⟨n5,y5,h5,-⟩:=aD Tryz.underlying52 h4 b4 0 _ rfl 3 0 1 rfl rfl kq;obtain ⟨n6,y6,h6,b6⟩:=aD Tryz.underlying52 h4 b4 1 _ rfl 38 1 1 rfl rfl kq;obtain ⟨k0,e0,-,-⟩:=DataW.trod_int Tryz.underlying3 h0;obtain ⟨k2,e2,-,-⟩:=DataW.trod_int Tryz.underlying3 h2;obtain ⟨k3,e3,-,-⟩:=DataW.trod_int Tryz.underlying3 h3;obtain ⟨k5,e5,-,-⟩:=DataW.trod_int Tryz.underlying3 h5;simp only[List.drop_zero,List.take,List.drop] at e0 h1 e2 e3 e5 h6;simp only[List.cons.injEq,and_true] at e0 e2 e3 e5;subst e0 e2 e3 e5;obtain ⟨l,hl,p1,-⟩:=bJ (P:=fun _=>True) (⟨0,0⟩:Pt) Tryz.underlying96 (by kernel_rfl:_=4) dq 2 (fun _ _ y h=>fI Tryz.underlying128 dq h) (fun m b o cs y h1 h2 h3 _=>by
  match cs,h1 with
  |[c0,c1,c2,c3],_=>
   obtain ⟨n,hn⟩:=kD h2 h3;exact ⟨n,hn,trivial⟩) h1 b1
 obtain ⟨g,hg,p2,-⟩:=bJ (P:=fun _=>True) (0:Nat) Tryz.underlying38 (by kernel_rfl:_=2) dq 2 (fun _ _ y h=>fI Tryz.underlying60 dq h) (fun m b o cs y h1 h2 h3 _=>by
  match cs,h1 with
  |[c0,c1],_=>
   obtain ⟨n,hn⟩:=dj h2 h3;exact ⟨n,hn,trivial⟩) h6 b6
 refine ⟨⟨k0,l,k2,k3,k5,g⟩,⟨hc 0 _ rfl,⟨_,hc 1 _ rfl,hl⟩,hc 2 _ rfl,hc 3 _ rfl,hc 4 _ rfl,⟨_,hc 5 _ rfl,hg⟩⟩,?_,?_⟩
 ·show l.length<=1000000;unfold KB at p1;omega
 show g.length<=1000000;unfold KB at p2;omega
theorem nG {d:DataW H} (hv:Value.okWide Tryz.prog w .any 0 34 va) (h:DataW.Trod enc Tryz.prog w 0 (fun _=>true) true 34 va d p) (hb:Rows.uptoBulk d<=KB):∃l,ERow w va l/\∀e∈l,e.pats.length<=1000000/\e.args.length<=1000000:=by
 obtain ⟨fuel,h⟩:=h;rw[qZ Tryz.underlying34 hv] at h;obtain ⟨l,h1,-,h2⟩:=bJ (P:=fun e:Ent=>e.pats.length<=1000000/\e.args.length<=1000000) ⟨0,[],0,0,0,[]⟩ Tryz.underlying34 (by kernel_rfl:_=6) dq 1 (fun _ _ y _=>ch y.1) (fun m b o cs y hl hc ht hb=>by
  match cs,hl with
  |[c0,c1,c2,c3,c4,c5],_=>exact CW hc ht hb) h hb
 exact ⟨l,h1,h2⟩
theorem uW {b o:Nat} {cs:List Value} {y:DataW H×List MemPlace} (hl:cs.length=1) (hc:CellsAt w b o cs) (h:DataW.trod enc Tryz.prog w 0 (fun _=>true) true m 4 cs=some y):∃n,Cn w b o n:=by
 obtain ⟨k,rfl,-⟩:=DataW.trod_bool Tryz.underlying4 h;exact ⟨k,hc 0 _ rfl⟩
theorem rg {c6 c7 c8:Value} {y:DataW H×List MemPlace} (h:DataW.trod enc Tryz.prog w 0 (fun _=>true) true m 40 [c0,c1,c2,c3,c4,c5,c6,c7,c8]=some y):∃x,PktV w (.agg #[c0,c1,c2,c3,c4,c5,c6,c7,c8]) x:=by
 obtain ⟨n0,y0,h0⟩:=aJ Tryz.underlying40 h 0 _ rfl 3 0 1 rfl rfl kq;obtain ⟨n1,y1,h1⟩:=aJ Tryz.underlying40 h 1 _ rfl 35 1 1 rfl rfl kq;obtain ⟨n2,y2,h2⟩:=aJ Tryz.underlying40 h 2 _ rfl 36 2 1 rfl rfl kq;obtain ⟨n3,y3,h3⟩:=aJ Tryz.underlying40 h 3 _ rfl 37 3 1 rfl rfl kq;obtain ⟨n4,y4,h4⟩:=aJ Tryz.underlying40 h 4 _ rfl 38 4 1 rfl rfl kq;obtain ⟨n5,y5,h5⟩:=aJ Tryz.underlying40 h 5 _ rfl 4 5 1 rfl rfl kq;obtain ⟨n6,y6,h6⟩:=aJ Tryz.underlying40 h 6 _ rfl 4 6 1 rfl rfl kq;obtain ⟨n7,y7,h7⟩:=aJ Tryz.underlying40 h 7 _ rfl 3 7 1 rfl rfl kq;obtain ⟨n8,y8,h8⟩:=aJ Tryz.underlying40 h 8 _ rfl 4 8 1 rfl rfl kq;obtain ⟨k0,e0,-,-⟩:=DataW.trod_int Tryz.underlying3 h0;obtain ⟨k7,e7,-,-⟩:=DataW.trod_int Tryz.underlying3 h7;obtain ⟨k5,e5,-⟩:=DataW.trod_bool Tryz.underlying4 h5;obtain ⟨k6,e6,-⟩:=DataW.trod_bool Tryz.underlying4 h6;obtain ⟨k8,e8,-⟩:=DataW.trod_bool Tryz.underlying4 h8;simp only[List.drop_zero,List.take,List.drop] at e0 e5 e6 e7 e8 h1 h2 h3 h4;simp only[List.cons.injEq,and_true] at e0 e5 e6 e7 e8;subst e0 e5 e6 e7 e8;obtain ⟨l1,q1⟩:=cD (0:Int) Tryz.underlying35 (by kernel_rfl:_=1) dq (fun m b o cs y h1 h2 h3=>jY h1 h2 h3) h1;obtain ⟨l2,q2⟩:=cD false Tryz.underlying36 (by kernel_rfl:_=1) dq (fun m b o cs y h1 h2 h3=>uW h1 h2 h3) h2;obtain ⟨l3,q3⟩:=cD ([]:List Nat) Tryz.underlying37 (by kernel_rfl:_=1) dq (fun m b o cs y h1 h2 h3=>nF h1 h2 h3) h3;obtain ⟨l4,q4⟩:=pE h4;obtain ⟨pa1,cp1,rfl,-⟩:=q1.shape;obtain ⟨pa2,cp2,rfl,-⟩:=q2.shape;obtain ⟨pa3,cp3,rfl,-⟩:=q3.shape;obtain ⟨pa4,cp4,rfl,-⟩:=q4.shape;exact ⟨⟨k0,l1,l2,l3,l4,k5,k6,k7,k8⟩,pa1,_,cp1,pa2,_,cp2,pa3,_,cp3,pa4,_,cp4,rfl,q1,q2,q3,q4⟩
theorem xH {d:DataW H} (hv:Value.okWide Tryz.prog w .any 0 40 va) (h:DataW.Trod enc Tryz.prog w 0 (fun _=>true) true 40 va d p):∃(q:KS) (x:Pkt),va=kV q x.port x.dropped x.sent x.egress x.access/\KOk w q x:=by
 obtain ⟨fuel,h⟩:=h;obtain ⟨cs,rfl,hs⟩:=oH Tryz.underlying40 hv;have e:Tryz.prog.cellsOf 40=9:=by kernel_rfl
 rw[e] at hs;obtain ⟨cl⟩:=cs;match cl,hs with
 |[c0,c1,c2,c3,c4,c5,c6,c7,c8],_=>
  obtain ⟨x,hx⟩:=rg h;obtain ⟨q,e,hq⟩:=hx.ks;exact ⟨q,x,e,hq⟩
theorem AO {d1 d2 d3:DataW H} (h:Rows.uptoSmall H [d1,d2,d3]=true):Rows.uptoBulk d1<=KB/\Rows.uptoBulk d2<=KB/\Rows.uptoBulk d3<=KB:=by
 have h:Rows.uptoBulkAll [d1,d2,d3]<=1048576:=of_decide_eq_true h;simp only[Rows.uptoBulkAll] at h;unfold KB;omega
end
end Go.Proofs.YtjfhfaodbjecdaaGreat
