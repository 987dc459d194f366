/-
  Regions that draw their order, of values and calls that leave what was; over a frame that is not written out.
-/
import Derived.Test.YtfalhemeiengcaaDoorBox
namespace Go.Proofs.YtfalhemeiengcaaDoor
open Go.RowKit Go.Maps

def vaR (WB : World) (kd : List (List Nat × Tw)) : Rw where
  n0 := WB.heap.size
  dep := fun _ => False
  kd := kd
  G := fun _ _ w => Below WB.heap.size WB w

structure VT (P : Program) (ops : Array Oper) (n N : Nat) (ds : List (Option Nat)) (WB : World) (kd : List (List Nat × Tw)) (T : List Value) (L : Array Bool) (l : List Value) (w : World) (i : Nat) : Prop where
  tl : T.length = N
  fr : KdFree kd
  len : l.length = n
  size : L.size = n
  lt : i < n
  non : did L i = false
  rw : RW (vaR WB kd) L l w
  dep : ∀ o, ops[i]? = some o → ∀ e ∈ o.after, Region.binds .any e = true → did L e.on = true

section
variable {P : Program} {ops : Array Oper} {n N : Nat} {ds : List (Option Nat)} {WB : World} {kd : List (List Nat × Tw)} {T l : List Value} {L : Array Bool} {w w' : World} {i : Nat}
variable {Q : Exit → Act → World → Prop} {o : Oper} {v : Value} {d : Nat}
theorem VT.new (h : VT P ops n N ds WB kd T L l w i) {s j : Nat} (hs : slotOf ds s = some j) (ht : s < N) : (frm2 ds T l).eval (.tmp s) = nth l j := frm2_new (by rw [h.tl]; exact ht) hs
theorem VT.old (h : VT P ops n N ds WB kd T L l w i) {s : Nat} (hs : slotOf ds s = none) (ht : s < N) : (frm2 ds T l).eval (.tmp s) = nth T s := frm2_old (by rw [h.tl]; exact ht) hs
theorem VT.cell (h : VT P ops n N ds WB kd T L l w i) {p : Addr} {u : Value} (hc : WB.cell? p = some u) : w.cell? p = some u :=
  ((show Below WB.heap.size WB w from h.rw.glob).cell (cell_there hc).1).trans hc
theorem VT.next (h : VT P ops n N ds WB kd T L l w i) (hk : kd[i]? = some (isJ [] v)) (hb : Below w.heap.size w w') : SJ (vaR WB kd) n ds T (L.setIfInBounds i true) (frm2 ds T (l.set i v)) w' :=
  ⟨_, by simp [h.len], by simp [h.size], rfl, h.rw.freeK (js := []) (P := (isJ [] v).2) i v h.fr h.non (by rw [h.size]; exact h.lt) (by rw [h.len]; exact h.lt) hk (fun j hj => by cases hj) hb.size (fun hg => Below.trans hg (hb.mono (Below.size hg))) rfl⟩
theorem VT.same (h : VT P ops n N ds WB kd T L l w i) (ho : ops[i]? = some o) (hd : o.dst = some d) (hs : slotOf ds d = some i) (hg : Region.wanted o (yielded ops (frm2 ds T l).tmps) = true) (hk : kd[i]? = some (isJ [] v))
    (hex : (execOp (frm2 ds T l).eval o).run P w = .ok (.value v) w) : wpOp P ops Q i (SJ (vaR WB kd) n ds T (L.setIfInBounds i true)) (frm2 ds T l) w :=
  wpOp_step ho fun K hK => by
    rw [if_pos hg]
    unfold Oper.wp
    rw [hex, Oper.upon_value, hd, frm2_put v hs (by rw [h.len]; exact h.lt)]
    exact hK _ _ (h.next hk (Below.refl _ _))
theorem VT.call {f : FuncId} {args : Array Value} (h : VT P ops n N ds WB kd T L l w i) (ho : ops[i]? = some o) (hd : o.dst = some d) (hs : slotOf ds d = some i) (hg : Region.wanted o (yielded ops (frm2 ds T l).tmps) = true) (hk : kd[i]? = some (isJ [] v))
    (hex : (execOp (frm2 ds T l).eval o).run P w = .ok (.enter f args) w) (hc : Calls P f args w fun e w' => e = .returned v ∧ Below w.heap.size w w') : wpOp P ops Q i (SJ (vaR WB kd) n ds T (L.setIfInBounds i true)) (frm2 ds T l) w :=
  wpOp_step ho fun K hK => by
    rw [if_pos hg]
    unfold Oper.wp
    rw [hex, Oper.upon_enter]
    refine hc.mono ?_
    rintro e w' ⟨rfl, hb⟩
    show K ((frm2 ds T l).put o.dst v) w'
    rw [hd, frm2_put v hs (by rw [h.len]; exact h.lt)]
    exact hK _ _ (h.next hk hb)
theorem ex_pickT {ev : Operand → Value} {c x y : Operand} (h : o.op = .pick c x y) (hc : ev c = .bool true) (hv : ev x = v) : (execOp ev o).run P w = .ok (.value v) w := by
  unfold execOp; rw [h]; simp [go_sem, hc, hv]
end

end Go.Proofs.YtfalhemeiengcaaDoor
