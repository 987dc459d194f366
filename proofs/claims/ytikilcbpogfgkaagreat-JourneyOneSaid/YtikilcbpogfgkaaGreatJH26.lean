/-
  What holds while a journey goes on.
-/
import Derived.Test.YtikilcbpogfgkaaGreatJH25
namespace Go.Proofs.YtikilcbpogfgkaaGreat
open Go.RowKit Stab
variable {W w w':World} {g b k T A n:Nat} {e at_:Ed} {t:Trc} {hv bv v:Value} {how:Int} {acc:Bool} {xs:List Int} {s:TrS}
theorem elemHp:ElemOk 57 65 (.agg #[.int .i64 0, .int .i64 0, .slice none 0 0]) 3 40:=⟨Tryz.underlying57,by kernel_rfl,rfl,by decide⟩
abbrev EsRow:=RowAt 1 (SlAt ERow)
def EBx (W:World) (g:Nat) (e:Ed):Prop:=W.heap[g]?=some (.cells #[.int .i64 e.sw, .int .i64 e.port] 54 (0,0))
theorem EBx.cells (h:EBx W g e):W.cell? ⟨g,0,none⟩=some (.int .i64 e.sw)/\W.cell? ⟨g,1,none⟩=some (.int .i64 e.port):=by
 unfold EBx at h;simp[World.cell?,h]
theorem EBx.free (h:EBx W g e) (i:Nat):W.frozen? ⟨g,i,none⟩=false:=by
 unfold EBx at h;simp[World.frozen?,h]
def NBx (W:World) (g:Nat) (t:NtS):Prop:=W.heap[g]?=some (.cells #[.slice t.sp t.sn t.sc, .slice t.pp t.pn t.pc, .slice t.lp t.ln t.lc] 52 (0,0))
theorem NBx.cells {t:NtS} (h:NBx W g t):W.cell? ⟨g,0,none⟩=some (.slice t.sp t.sn t.sc)/\W.cell? ⟨g,1,none⟩=some (.slice t.pp t.pn t.pc)/\W.cell? ⟨g,2,none⟩=some (.slice t.lp t.ln t.lc):=by
 unfold NBx at h;simp[World.cell?,h]
theorem TBx.free (h:TBx W g hv bv how at_ acc) (i:Nat):W.frozen? ⟨g,i,none⟩=false:=by
 unfold TBx at h;simp[World.frozen?,h]
theorem g_sixW {G:Gn} (h:W.heap[k]?=some G0\/GDone b G W k):∃d0 d1 d2 d3 d4 d5,Gx W k [d0,d1,d2,d3,d4,d5]:=by
 rcases h with h|⟨bv,h,-⟩
 ·exact ⟨_,_,_,_,_,_,h⟩
 ·exact ⟨_,_,_,_,_,_,h⟩
structure ER (b:Nat) (e:Ed) (W W':World):Prop where
 low:Below b W W'
 ko:∀k:Nat,b<=k->(EBx W k ⟨0,0⟩\/EBx W k e)->(EBx W' k ⟨0,0⟩\/EBx W' k e)
 k1:∀k:Nat,b<=k->EBx W k e->EBx W' k e
 row:∀v n xs,W.ownsRow b 5 1 v n xs->W'.ownsRow b 5 1 v n xs
section
variable {b:Nat} {e:Ed} {W W':World}
theorem ER.refl (b:Nat) (e:Ed) (W:World):ER b e W W:=⟨Below.refl _ _,fun _ _=>id,fun _ _=>id,fun _ _ _=>id⟩
theorem EBx.below (h:EBx W k e) (hb:Bl W W'):EBx W' k e:=(hb.block k (lt_some h)).trans h
theorem ER.of_below (hb:b<=W.heap.size) (h:Bl W W'):ER b e W W':=
 ⟨h.mono hb,fun _ _ q=>q.imp (fun q=>q.below h) (fun q=>q.below h),fun _ _ q=>q.below h,fun _ _ _ q=>own_far q fun z hz=>h.block z (own_size q hz).2⟩
theorem ER.store (hk:b<=k) (h:EBx W k ⟨0,0⟩\/EBx W k e):ER b e W ((W.setCell ⟨k,0,none⟩ (.int .i64 e.sw)).setCell ⟨k,1,none⟩ (.int .i64 e.port))/\EBx ((W.setCell ⟨k,0,none⟩ (.int .i64 e.sw)).setCell ⟨k,1,none⟩ (.int .i64 e.port)) k e:=by
 have hp:EBx ((W.setCell ⟨k,0,none⟩ (.int .i64 e.sw)).setCell ⟨k,1,none⟩ (.int .i64 e.port)) k e:=by
  have h2:∃a c,W.heap[k]?=some (.cells #[a,c] 54 (0,0)):=by rcases h with h|h<;>exact ⟨_,_,h⟩
  obtain ⟨a,c,h2⟩:=h2;exact heap_setCell_same (W.setCell ⟨k,0,none⟩ (.int .i64 e.sw)) k 1 _ _ _ (heap_setCell_same W k 0 _ _ _ h2)
 have ho:∀j,j≠k->((W.setCell ⟨k,0,none⟩ (.int .i64 e.sw)).setCell ⟨k,1,none⟩ (.int .i64 e.port)).heap[j]?=W.heap[j]?:=fun j hj=>(setCell_heap hj).trans (setCell_heap hj)
 have hl:Below b W ((W.setCell ⟨k,0,none⟩ (.int .i64 e.sw)).setCell ⟨k,1,none⟩ (.int .i64 e.port)):=(br.setCell hk _).setCell hk _;generalize (W.setCell ⟨k,0,none⟩ (.int .i64 e.sw)).setCell ⟨k,1,none⟩ (.int .i64 e.port)=W' at*;refine ⟨⟨hl,fun j _ q=>?_,fun j _ q=>?_,fun v n xs q=>own_far q fun z hz=>ho z ?_⟩,hp⟩
 ·by_cases hj:j=k
  ·subst hj;exact .inr hp
  ·exact q.imp (fun q=>(ho j hj).trans q) (fun q=>(ho j hj).trans q)
 ·by_cases hj:j=k
  ·subst hj;exact hp
  ·exact (ho j hj).trans q
 ·rintro rfl;rcases h with h|h
  ·exact own_ty q h dq hz
  ·exact own_ty q h dq hz
end
def hpC (q:Hp×Value):List Value:=[.int .i64 q.1.e.sw, .int .i64 q.1.e.port,q.2]
structure JSt (B:Nat) (w:World) (T A:Nat) (hv nv:Value) (hq:List (Hp×Value)) (acc:Bool) (e:Ed) (xs:List Int):Prop where
 t:TBx w T hv (.slice none 0 0) 2 ⟨0,0⟩ acc
 a:EBx w A e
 own:w.ownsRow B 65 3 hv hq.length (hq.flatMap hpC)
 rows:∀q∈hq,By B w q.2 q.1.b
 now:By B w nv xs
 lo:B<=T/\B<=A
theorem By.notT {B:Nat} (h:By B w v xs) (ht:TBx w T hv bv how e acc):∀z,v.ownBlock=some z->z≠T:=fun z hz q=>own_ty h ht dq (by rw[hz,q])
theorem By.notE {B:Nat} (h:By B w v xs) (ht:EBx w A e):∀z,v.ownBlock=some z->z≠A:=fun z hz q=>own_ty h ht dq (by rw[hz,q])
theorem own_notT {B:Nat} {xs:List Value} (h:w.ownsRow B 65 3 v n xs) (ht:TBx w T hv bv how e acc):∀z,v.ownBlock=some z->z≠T:=fun z hz q=>own_ty h ht dq (by rw[hz,q])
theorem own_notE {B:Nat} {xs:List Value} (h:w.ownsRow B 65 3 v n xs) (ht:EBx w A e):∀z,v.ownBlock=some z->z≠A:=fun z hz q=>own_ty h ht dq (by rw[hz,q])
theorem By.notH {B:Nat} {ys:List Value} (h:By B w v xs) (h2:w.ownsRow B 65 3 hv n ys):∀z,v.ownBlock=some z->hv.ownBlock≠some z:=fun z hz=>by
 obtain ⟨-,⟨q1,-⟩|⟨g,cap,cur,q1,-,q3,-⟩⟩:=h
 ·rw[q1] at hz;cases hz
 ·rw[q1] at hz;cases hz;exact own_ty h2 q3 dq
section
variable {B:Nat} {w w':World} {T A:Nat} {hv nv:Value} {hq:List (Hp×Value)} {acc:Bool} {e:Ed} {xs:List Int}
theorem JSt.ta (h:JSt B w T A hv nv hq acc e xs):T≠A:=fun q=>by
 have h1:=h.t;have h2:=h.a;unfold TBx at h1;unfold EBx at h2;rw[q,h2] at h1;simp at h1
theorem JSt.below (h:JSt B w T A hv nv hq acc e xs) (hb:Bl w w'):JSt B w' T A hv nv hq acc e xs:=
 ⟨h.t.below hb,h.a.below hb,own_far h.own fun z hz=>hb.block z (own_size h.own hz).2,fun q hq=>(h.rows q hq).below hb,h.now.below hb,h.lo⟩
theorem JSt.tlt (h:JSt B w T A hv nv hq acc e xs):T<w.heap.size:=lt_some h.t
theorem JSt.alt (h:JSt B w T A hv nv hq acc e xs):A<w.heap.size:=lt_some h.a
theorem JSt.acq (h:JSt B w T A hv nv hq acc e xs) (a:Bool):JSt B (w.setCell ⟨T,5,none⟩ (.bool a)) T A hv nv hq a e xs:=
 ⟨heap_setCell_same w T 5 _ _ _ h.t,(setCell_heap (Ne.symm h.ta)).trans h.a,own_far h.own fun z hz=>setCell_heap (own_notT h.own h.t z hz),fun q hq=>own_far (h.rows q hq) fun z hz=>setCell_heap ((h.rows q hq).notT h.t z hz),own_far h.now fun z hz=>setCell_heap (h.now.notT h.t z hz),h.lo⟩
theorem JSt.move {e2:Ed} {nv2:Value} {ys:List Int} (h:JSt B w T A hv nv hq acc e xs) (hn:By B w nv2 ys):JSt B ((w.setCell ⟨A,0,none⟩ (.int .i64 e2.sw)).setCell ⟨A,1,none⟩ (.int .i64 e2.port)).drew T A hv nv2 hq acc e2 ys:=by
 have k:∀z,z≠A->((w.setCell ⟨A,0,none⟩ (.int .i64 e2.sw)).setCell ⟨A,1,none⟩ (.int .i64 e2.port)).heap[z]?=w.heap[z]?:=fun z hz=>(setCell_heap hz).trans (setCell_heap hz)
 have h1:JSt B ((w.setCell ⟨A,0,none⟩ (.int .i64 e2.sw)).setCell ⟨A,1,none⟩ (.int .i64 e2.port)) T A hv nv2 hq acc e2 ys:=
  ⟨(k _ h.ta).trans h.t,heap_setCell_same (w.setCell ⟨A,0,none⟩ (.int .i64 e2.sw)) A 1 _ _ _ (heap_setCell_same w A 0 _ _ _ h.a),
   own_far h.own fun z hz=>k z (own_notE h.own h.a z hz),fun q hq=>own_far (h.rows q hq) fun z hz=>k z ((h.rows q hq).notE h.a z hz),own_far hn fun z hz=>k z (hn.notE h.a z hz),h.lo⟩
 exact h1.below (Below.drew br)
theorem JSt.push (h:JSt B w T A hv nv hq acc e xs) {o:Obj} {w3:World} {y:Value} (_hB:B<=w.heap.size)
 (ho:w3.ownsRow B 65 3 y (hq.length+1) (hq.flatMap hpC++[.int .i64 e.sw, .int .i64 e.port,nv])) (hg:GrwG (w.alloc o) w3 hv y):JSt B (w3.setCell ⟨T,0,none⟩ y) T A y nv (hq++[(⟨e,xs⟩,nv)]) acc e xs:=by
 have hk:∀z,z<w.heap.size->hv.ownBlock≠some z->w3.heap[z]?=w.heap[z]?:=fun z h1 h2=>(hg.grown.block z (by simp;omega) (fun e=>h2 e.symm)).trans (Below.heap_alloc _ _ _ h1)
 have ht3:w3.heap[T]?=w.heap[T]?:=hk T h.tlt fun q=>own_notT h.own h.t T q rfl
 have ha3:w3.heap[A]?=w.heap[A]?:=hk A h.alt fun q=>own_notE h.own h.a A q rfl
 have hby:∀v xs,By B w v xs->By B (w3.setCell ⟨T,0,none⟩ y) v xs:=fun v xs hv=>own_far hv fun z hz=>(setCell_heap (hv.notT h.t z hz)).trans (hk z (own_size hv hz).2 (hv.notH h.own z hz))
 refine ⟨heap_setCell_same w3 T 0 _ _ _ (ht3.trans h.t),(setCell_heap (Ne.symm h.ta)).trans (ha3.trans h.a),?_,fun q hq=>?_,hby _ _ h.now,h.lo⟩
 ·rw[List.length_append,List.length_singleton,List.flatMap_append,List.flatMap_cons,List.flatMap_nil,List.append_nil];exact own_far ho fun z hz=>setCell_heap (own_notT ho (ht3.trans h.t:TBx w3 T _ _ _ _ _) z hz)
 ·rcases List.mem_append.1 hq with q1|q1
  ·exact hby _ _ (h.rows q q1)
  ·rw[List.mem_singleton] at q1;subst q1;exact hby _ _ h.now
end
structure TrO (B:Nat) (w:World) (s:TrS) (t:Trc):Prop where
 h:∃hq:List (Hp×Value),hq.map Prod.fst=t.hops/\w.ownsRow B 65 3 (.slice s.hp s.hn s.hc) hq.length (hq.flatMap hpC)/\∀q∈hq,By B w q.2 q.1.b
 b:By B w (.slice s.bp s.bn s.bc) t.b
theorem TrO.ok {B:Nat} (h:TrO B w s t):TrOk w s t:=by
 obtain ⟨⟨hq,e,ho,hr⟩,hb⟩:=h;refine ⟨?_,hb.row⟩;rw[<- e];refine rowAt_of_owns (ls:=hq.map hpC) (by rw[List.length_map]) (by rw[List.length_map,List.length_map]) (by rw[<- List.flatMap_def];exact ho) (fun c hc=>?_) fun j l c hl hc b o hb hcs=>?_
 ·obtain ⟨q,-,rfl⟩:=List.mem_map.1 hc;rfl
 ·rw[List.getElem?_map] at hl hc;cases hu:hq[j]? with
  |none=>rw[hu] at hl;cases hl
  |some q=>
   rw[hu] at hl hc;cases hl;cases hc;have hq1:=(hr q (gM_ hu)).row;obtain ⟨p,cp,he,-⟩:=hq1.shape;refine ⟨hcs 0 _ rfl,hcs 1 _ rfl,p,_,cp,?_,he ▸ hq1⟩;rw[<- he];exact hcs 2 _ rfl
theorem TrO.far {B:Nat} (h:TrO B w s t) (hk:∀z c,B<=z->(w.heap[z]?=some (.cells c 65 (0,0))\/w.heap[z]?=some (.cells c 5 (0,0)))->w'.heap[z]?=w.heap[z]?):TrO B w' s t:=by
 have hb:∀v xs,By B w v xs->By B w' v xs:=fun v xs q=>own_far q fun z hz=>by
  have q2:=q;obtain ⟨-,⟨q1,-⟩|⟨g,cap,cur,q1,q0,q3,-⟩⟩:=q2
  ·rw[q1] at hz;cases hz
  ·rw[q1] at hz;cases hz;exact hk _ _ q0 (.inr q3)
 obtain ⟨⟨hq,e,ho,hr⟩,hbb⟩:=h;refine ⟨⟨hq,e,own_far ho fun z hz=>?_,fun q m=>hb _ _ (hr q m)⟩,hb _ _ hbb⟩;have q2:=ho;obtain ⟨-,⟨q1,-⟩|⟨g,cap,cur,q1,q0,q3,-⟩⟩:=q2
 ·rw[q1] at hz;cases hz
 ·rw[q1] at hz;cases hz;exact hk _ _ q0 (.inl q3)
theorem TrO.lower {B:Nat} (h:TrO B w s t) (hb:b<=B):TrO b w s t:=by
 obtain ⟨⟨hq,e,ho,hr⟩,hbb⟩:=h;exact ⟨⟨hq,e,own_base ho hb,fun q m=>own_base (hr q m) hb⟩,own_base hbb hb⟩
theorem JSt.ends {B:Nat} {p:Option Addr} {c:Nat} {nv:Value} {hq:List (Hp×Value)} {ac2:Bool} {b:List Int} {q:Option Addr} {m d:Nat} (h:JSt B w T A (.slice p n c) nv hq acc e xs) (hb:By B w (.slice q m d) b) (hk:∀z,B<=z->z≠T->w'.heap[z]?=w.heap[z]?):TrO B w' ⟨p,n,c,q,m,d⟩ ⟨hq.map Prod.fst,how,at_,b,ac2⟩:=
 ⟨⟨hq,rfl,own_far h.own fun z hz=>hk z (own_size h.own hz).1 (own_notT h.own h.t z hz),fun x hx=>own_far (h.rows x hx) fun z hz=>hk z (own_size (h.rows x hx) hz).1 ((h.rows x hx).notT h.t z hz)⟩,own_far hb fun z hz=>hk z (own_size hb hz).1 (hb.notT h.t z hz)⟩
end Go.Proofs.YtikilcbpogfgkaaGreat
