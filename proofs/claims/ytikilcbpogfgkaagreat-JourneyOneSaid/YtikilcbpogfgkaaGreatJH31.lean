/- Lemmas. -/
import Derived.OpenShut
import Derived.Deep.Slices
import Derived.Test.YtikilcbpogfgkaaGreatJH05
set_option maxRecDepth 100000
namespace Go.Proofs.YtikilcbpogfgkaaGreat
open Go.ChangeShapes Go.WideShapes Go.ChangeAt Go.RowKit Go.Deep
variable {t e:TypeId} {fs:Array Field} {fuel base b o m:Nat} {cs:List Value} {α:Type} {va c0 c1:Value} {p:List MemPlace}
section
variable {H:Type} {enc:TypeId×Value->H} {w:World}
theorem trod_field {x:DataW H×List MemPlace} (ht:Tryz.prog.underlying t=some (.struct fs)) (h:DataW.trod enc Tryz.prog w 0 (fun _=>true) true fuel t cs=some x)
 (i:Nat) (f:Field) (hf:fs[i]?=some f) (ty o c:Nat) (h1:f.type=ty) (h2:f.offset=o) (h3:Tryz.prog.cellsOf ty=c):∃n y,DataW.trod enc Tryz.prog w 0 (fun _=>true) true n ty ((cs.drop o).take c)=some y:=by
 subst h1 h2 h3;obtain ⟨xs,n,rfl,-,-,hl,hg⟩:=DataW.trod_struct ht h;have hi:i<fs.size:=(gA_ hf).1;exact ⟨n,_,(hg i f hf).trans (gE_ om)⟩
theorem hadd0 (ab ao i:Nat):(Addr.mk ab ao none).add i=⟨ab,ao+i,none⟩:=by
 unfold Addr.add;by_cases hi:i=0<;>simp[hi]
theorem open_rowAt {At:World->Nat->Nat->α->Prop} {c:Nat} {x:DataW H×List MemPlace} (d:α) (ht:Tryz.prog.underlying t=some (.slice e)) (hc:Tryz.prog.cellsOf e=c) (hc0:0<c)
 (hel:∀(m b o:Nat) (cs:List Value) (y:DataW H×List MemPlace),cs.length=c->CellsAt w b o cs->DataW.trod enc Tryz.prog w 0 (fun _=>true) true m e cs=some y->∃x,At w b o x)
 (h:DataW.trod enc Tryz.prog w 0 (fun _=>true) true fuel t [va]=some x):∃l,RowAt c At w va l:=by
 subst hc;rcases open_slice ht h with ⟨he,-⟩|⟨a,len,cap,m,n,D,Pl,he,-,hl,hm,hmm,hxx,hx⟩
 ·simp only[List.cons.injEq,and_true] at he;exact ⟨[],by rw[he];exact RowAt.nil⟩
 simp only[List.cons.injEq,and_true] at he;simp only[if_true] at hmm;subst hmm he;have key:∀j,j<len->∃cs y,cs.length=Tryz.prog.cellsOf e/\(∀ i,i<Tryz.prog.cellsOf e->w.cell? (a.add (j*Tryz.prog.cellsOf e+i))=cs[i]?)/\DataW.trod enc Tryz.prog w 0 (fun _=>true) true n e cs=some y:=by
  intro j hj;obtain ⟨cs,hcs,htr⟩:=hx j om;obtain ⟨-,hlen,hat⟩:=World.cells?_some hcs;refine ⟨cs,_,hlen,fun i hi=>?_,htr⟩;rw[<- Go.Deep.add_add];exact hat i hi
 by_cases h0:0<len
 ·obtain ⟨cs0,-,hl0,hc0',-⟩:=key 0 h0;have c0:=hc0' 0 hc0;rw[gE_ om,Nat.zero_mul,Nat.add_zero] at c0;obtain ⟨ab,ao,asp⟩:=a;have hsp:asp=none:=(cell_there c0).2;have hblk:=(cell_there c0).1;subst hsp;rw[hadd0] at hblk;have key2:∀j,∃y:α,j<len->At w ab (ao+j*Tryz.prog.cellsOf e) y:=by
   intro j;by_cases hj:j<len
   ·obtain ⟨cs,y,h1,h2,h3⟩:=key j hj;obtain ⟨x,hx⟩:=hel n ab (ao+j*Tryz.prog.cellsOf e) cs y h1 (fun i v hi=>by
     have hlt:=(gL_ hi).1;have:=h2 i om;rw[hadd0] at this;rw[Nat.add_assoc,this];exact hi) h3
    exact ⟨x,fun _=>hx⟩
   ·exact ⟨d,fun h=>absurd h hj⟩
  obtain ⟨f,hf⟩:=Classical.axiomOfChoice key2;refine ⟨(List.range len).map f,some ⟨ab,ao,none⟩,_,by simp,by simpa using hl,hm,(fun q=>by cases q),fun _=>⟨ab,ao,rfl,hblk,fun j x hj=>?_⟩⟩;have hjl:j<len:=by have:=(gL_ hj).1;simpa using this
  have:f j=x:=by simpa [hjl] using hj
  rw[<- this];exact hf j hjl
 ·obtain rfl:len=0:=om
  exact ⟨[],some a,_,rfl,zl,hm,(fun q=>by cases q),fun h=>absurd h (Nat.lt_irrefl 0)⟩
theorem slice_cells (ht:Tryz.prog.underlying t=some (.slice e)) (hv:Value.okWide Tryz.prog w .any base t va):va.cells.toList=[va]:=by
 simp only[Value.okWide,Cell.okWide,ht] at hv;cases va<;>first|rfl|(simp[Cell.ok,ht] at hv)
theorem agg_cells (ht:Tryz.prog.underlying t=some (.struct fs)) (hv:Value.okWide Tryz.prog w .any base t va):∃cs,va= .agg cs/\cs.size=Tryz.prog.cellsOf t:=by
 simp only[Value.okWide,ht] at hv;obtain ⟨cs,rfl,h1,-⟩:=hv;exact ⟨cs,rfl,h1⟩
end
open Go.ChangeShapes Go.WideShapes Go.ChangeAt Go.RowKit Go.Deep
section
variable {H:Type} {enc:TypeId×Value->H} {w:World}
theorem CellsAt.from {k:Nat} (h:CellsAt w b o cs):CellsAt w b (o+k) (cs.drop k):=fun i v hi=>by
 rw[Nat.add_assoc];exact h (k+i) v (by rwa [List.getElem?_drop] at hi)
theorem sl_of_trod {At:World->Nat->Nat->α->Prop} {sz:Nat} {y:DataW H×List MemPlace} (d:α) (hc:CellsAt w b o [c0]) (ht:Tryz.prog.underlying t=some (.slice e)) (hce:Tryz.prog.cellsOf e=sz) (hc0:0<sz)
 (hel:∀(m b o:Nat) (cs:List Value) (y:DataW H×List MemPlace),cs.length=sz->CellsAt w b o cs->DataW.trod enc Tryz.prog w 0 (fun _=>true) true m e cs=some y->∃x,At w b o x)
 (h:DataW.trod enc Tryz.prog w 0 (fun _=>true) true m t [c0]=some y):∃l,SlAt (RowAt sz At) w b o l:=by
 obtain ⟨l,hl⟩:=open_rowAt d ht hce hc0 hel h;obtain ⟨pa,cap,rfl,-⟩:=hl.shape;exact ⟨l,_,_,_,hc 0 _ rfl,hl⟩
theorem u_of_trod {y:DataW H×List MemPlace} (hl:cs.length=1) (hc:CellsAt w b o cs) (h:DataW.trod enc Tryz.prog w 0 (fun _=>true) true m 5 cs=some y):∃n,UAt w b o n:=by
 obtain ⟨k,rfl,-,-⟩:=DataW.trod_int Tryz.underlying5 h;exact ⟨k,hc 0 _ rfl⟩
theorem bytes_of_trod {y:DataW H×List MemPlace} (hl:cs.length=1) (hc:CellsAt w b o cs) (h:DataW.trod enc Tryz.prog w 0 (fun _=>true) true m 35 cs=some y):∃n,SlAt URow w b o n:=by
 match cs,hl with
 |[c0],_=>exact sl_of_trod 0 hc Tryz.underlying35 (by kernel_rfl:_=1) dq (fun m b o cs y h1 h2 h3=>u_of_trod h1 h2 h3) h
end
open Go.ChangeShapes Go.WideShapes Go.ChangeAt Go.RowKit Go.Deep
section
variable {H:Type} {enc:TypeId×Value->H} {w:World}
theorem ed2_of_trod {y:DataW H×List MemPlace} (h:DataW.trod enc Tryz.prog w 0 (fun _=>true) true m 54 [c0,c1]=some y):∃e:Ed,c0= .int .i64 e.sw/\c1= .int .i64 e.port:=by
 obtain ⟨n0,y0,h0⟩:=trod_field Tryz.underlying54 h 0 _ rfl 3 0 1 rfl rfl kq;obtain ⟨n1,y1,h1⟩:=trod_field Tryz.underlying54 h 1 _ rfl 3 1 1 rfl rfl kq;obtain ⟨k0,e0,-,-⟩:=DataW.trod_int Tryz.underlying3 h0;obtain ⟨k1,e1,-,-⟩:=DataW.trod_int Tryz.underlying3 h1;simp only[List.take,List.drop] at e0 e1;simp only[List.cons.injEq,and_true] at e0 e1;exact ⟨⟨k0,k1⟩,e0,e1⟩
theorem ed_of_trod {y:DataW H×List MemPlace} (hl:cs.length=2) (hc:CellsAt w b o cs) (h:DataW.trod enc Tryz.prog w 0 (fun _=>true) true m 54 cs=some y):∃n,EAt2 w b o n:=by
 match cs,hl with
 |[c0,c1],_=>
  obtain ⟨e,rfl,rfl⟩:=ed2_of_trod h;exact ⟨e,hc 0 _ rfl,hc 1 _ rfl⟩
theorem hop_of_trod {y:DataW H×List MemPlace} (hl:cs.length=3) (hc:CellsAt w b o cs) (h:DataW.trod enc Tryz.prog w 0 (fun _=>true) true m 65 cs=some y):∃n,HpAt w b o n:=by
 match cs,hl with
 |[c0,c1,c2],_=>
  obtain ⟨n0,y0,h0⟩:=trod_field Tryz.underlying65 h 0 _ rfl 54 0 2 rfl rfl kq;obtain ⟨n1,y1,h1⟩:=trod_field Tryz.underlying65 h 1 _ rfl 35 2 1 rfl rfl kq;simp only[List.take,List.drop] at h0 h1;obtain ⟨e,rfl,rfl⟩:=ed2_of_trod h0;obtain ⟨l,hl⟩:=bytes_of_trod rfl (hc.from (k:=2)) h1;exact ⟨⟨e,l⟩,hc 0 _ rfl,hc 1 _ rfl,hl⟩
theorem open_ends {d:DataW H} (hv:Value.okWide Tryz.prog w .any 0 67 va) (h:DataW.Trod enc Tryz.prog w 0 (fun _=>true) true 67 va d p):∃l,EdRow w va l:=by
 obtain ⟨fuel,h⟩:=h;rw[slice_cells Tryz.underlying67 hv] at h;exact open_rowAt (⟨0,0⟩:Ed) Tryz.underlying67 (by kernel_rfl:_=2) dq (fun m b o cs y h1 h2 h3=>ed_of_trod h1 h2 h3) h
theorem trc_of_trod {c2 c3 c4 c5:Value} {y:DataW H×List MemPlace} (h:DataW.trod enc Tryz.prog w 0 (fun _=>true) true m 59 [c0,c1,c2,c3,c4,c5]=some y):∃(s:TrS) (t:Trc), .agg #[c0,c1,c2,c3,c4,c5]=trV s t/\TrOk w s t:=by
 obtain ⟨n0,y0,h0⟩:=trod_field Tryz.underlying59 h 0 _ rfl 57 0 1 rfl rfl kq;obtain ⟨n1,y1,h1⟩:=trod_field Tryz.underlying59 h 1 _ rfl 5 1 1 rfl rfl kq;obtain ⟨n2,y2,h2⟩:=trod_field Tryz.underlying59 h 2 _ rfl 54 2 2 rfl rfl kq;obtain ⟨n3,y3,h3⟩:=trod_field Tryz.underlying59 h 3 _ rfl 35 4 1 rfl rfl kq;obtain ⟨n4,y4,h4⟩:=trod_field Tryz.underlying59 h 4 _ rfl 4 5 1 rfl rfl kq;obtain ⟨k1,e1,-,-⟩:=DataW.trod_int Tryz.underlying5 h1;obtain ⟨k4,e4,-⟩:=DataW.trod_bool Tryz.underlying4 h4;simp only[List.take,List.drop] at h0 e1 h2 h3 e4;simp only[List.cons.injEq,and_true] at e1 e4;subst e1 e4;obtain ⟨e,rfl,rfl⟩:=ed2_of_trod h2;obtain ⟨l0,q0⟩:=open_rowAt (⟨⟨0,0⟩,[]⟩:Hp) Tryz.underlying57 (by kernel_rfl:_=3) dq (fun m b o cs y h1 h2 h3=>hop_of_trod h1 h2 h3) h0;obtain ⟨l3,q3⟩:=open_rowAt (0:Int) Tryz.underlying35 (by kernel_rfl:_=1) dq (fun m b o cs y h1 h2 h3=>u_of_trod h1 h2 h3) h3;obtain ⟨p0,cp0,rfl,-⟩:=q0.shape;obtain ⟨p3,cp3,rfl,-⟩:=q3.shape;exact ⟨⟨p0,_,cp0,p3,_,cp3⟩,⟨l0,k1,e,l3,k4⟩,rfl,q0,q3⟩
theorem open_trace {d:DataW H} (hv:Value.okWide Tryz.prog w .any 0 59 va) (h:DataW.Trod enc Tryz.prog w 0 (fun _=>true) true 59 va d p):∃(s:TrS) (t:Trc),va=trV s t/\TrOk w s t:=by
 obtain ⟨fuel,h⟩:=h;obtain ⟨cs,rfl,hs⟩:=agg_cells Tryz.underlying59 hv;have e:Tryz.prog.cellsOf 59=6:=by kernel_rfl
 rw[e] at hs;obtain ⟨cl⟩:=cs
 match cl,hs with
 |[c0,c1,c2,c3,c4,c5],_=>exact trc_of_trod h
end
end Go.Proofs.YtikilcbpogfgkaaGreat
