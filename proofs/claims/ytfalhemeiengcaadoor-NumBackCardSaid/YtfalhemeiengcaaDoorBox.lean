/-
  Regions that draw their order around one new box: values, calls that leave what was, the box's making, the store into it; over a frame that is not written out.
-/
import Derived.Test.YtfalhemeiengcaaDoorAb2
namespace Go.Proofs.YtfalhemeiengcaaDoor
open Go.RowKit Go.Maps

def isJ (js : List Nat) (v : Value) : List Nat × Tw := (js, fun _ _ _ x => x = v)
def anyJ (js : List Nat) : List Nat × Tw := (js, fun _ _ _ _ => True)
/-- What is told hangs on no world. -/
def KdFree (kd : List (List Nat × Tw)) : Prop := ∀ (i : Nat) (js : List Nat) (P : Tw), kd[i]? = some (js, P) → ∀ (B : Nat → Prop) (w w' : World) (ls : List Value) (v : Value), P B w ls v → P B w' ls v

section
variable {S : Rw} {w w' : World} {L : Array Bool} {l : List Value}
theorem RW.freeK (i : Nat) (v : Value) {js : List Nat} {P : Tw} (h : RW S L l w) (hS : KdFree S.kd) (hn : did L i = false) (hL : i < L.size) (hl : i < l.length) (hk : S.kd[i]? = some (js, P)) (hjs : ∀ j ∈ js, did L j = true) (hsz : w.heap.size ≤ w'.heap.size)
    (hG : S.G L l w → S.G (L.setIfInBounds i true) (l.set i v) w') (hnew : P (NewB w w') w' (js.map (nth l)) v) : RW S (L.setIfInBounds i true) (l.set i v) w' := by
  obtain ⟨B, h⟩ := h
  exact h.turn i v hn hL hl hk hjs hsz (fun j js' P' _ hk' hp => hS j js' P' hk' _ _ _ _ _ hp) (hG h.glob) hnew
theorem RW.gotK (h : RW S L l w) (i : Nat) {js : List Nat} {v : Value} (hd : did L i = true) (hk : S.kd[i]? = some (isJ js v)) : nth l i = v := by
  obtain ⟨B, h⟩ := h
  exact (h.ok i _ _ hd hk).2
end

/-- A box: operation A makes it (cells Z), operation U stores V into it. -/
def bxR (WB : World) (kd : List (List Nat × Tw)) (A U : Nat) (Z V : Array Value) (ty : TypeId) : Rw where
  n0 := WB.heap.size
  dep := fun _ => False
  kd := kd
  G := fun L l w => Below WB.heap.size WB w ∧ (did L U = true → did L A = true) ∧
    (did L A = true → ∃ g, nth l A = .pointer (some ⟨g, 0, none⟩) ∧ WB.heap.size ≤ g ∧ w.heap[g]? = some (.cells (if did L U then V else Z) ty (0, 0)))

/-- What a step stands on. -/
structure BT (P : Program) (ops : Array Oper) (n N : Nat) (ds : List (Option Nat)) (WB : World) (kd : List (List Nat × Tw)) (A U : Nat) (Z V : Array Value) (ty : TypeId) (T : List Value) (L : Array Bool) (l : List Value) (w : World) (i : Nat) : Prop where
  tl : T.length = N
  fr : KdFree kd
  ne : A ≠ U
  len : l.length = n
  size : L.size = n
  lt : i < n
  non : did L i = false
  rw : RW (bxR WB kd A U Z V ty) L l w
  dep : ∀ o, ops[i]? = some o → ∀ e ∈ o.after, Region.binds .any e = true → did L e.on = true

section
variable {P : Program} {ops : Array Oper} {n N : Nat} {ds : List (Option Nat)} {WB : World} {kd : List (List Nat × Tw)} {A U : Nat} {Z V : Array Value} {ty : TypeId} {T l : List Value} {L : Array Bool} {w w' : World} {i : Nat}
variable {Q : Exit → Act → World → Prop} {o : Oper} {v : Value} {d : Nat}
theorem BT.new (h : BT P ops n N ds WB kd A U Z V ty T L l w i) {s j : Nat} (hs : slotOf ds s = some j) (ht : s < N) : (frm2 ds T l).eval (.tmp s) = nth l j := frm2_new (by rw [h.tl]; exact ht) hs
theorem BT.old (h : BT P ops n N ds WB kd A U Z V ty T L l w i) {s : Nat} (hs : slotOf ds s = none) (ht : s < N) : (frm2 ds T l).eval (.tmp s) = nth T s := frm2_old (by rw [h.tl]; exact ht) hs
theorem BT.below (h : BT P ops n N ds WB kd A U Z V ty T L l w i) : Below WB.heap.size WB w := h.rw.glob.1
theorem BT.cell (h : BT P ops n N ds WB kd A U Z V ty T L l w i) {p : Addr} {u : Value} (hc : WB.cell? p = some u) : w.cell? p = some u := (h.below.cell (cell_there hc).1).trans hc

theorem BT.next (h : BT P ops n N ds WB kd A U Z V ty T L l w i) {js : List Nat} {p : Tw} (hk : kd[i]? = some (js, p)) (hjs : ∀ j ∈ js, did L j = true) (hsz : w.heap.size ≤ w'.heap.size)
    (hG : (bxR WB kd A U Z V ty).G L l w → (bxR WB kd A U Z V ty).G (L.setIfInBounds i true) (l.set i v) w') (hp : p (NewB w w') w' (js.map (nth l)) v) :
    SJ (bxR WB kd A U Z V ty) n ds T (L.setIfInBounds i true) (frm2 ds T (l.set i v)) w' :=
  ⟨_, by simp [h.len], by simp [h.size], rfl, h.rw.freeK i v h.fr h.non (by rw [h.size]; exact h.lt) (by rw [h.len]; exact h.lt) hk hjs hsz hG hp⟩

/-- Whatever leaves the old blocks. -/
theorem BT.quiet (h : BT P ops n N ds WB kd A U Z V ty T L l w i) {js : List Nat} (hk : kd[i]? = some (isJ js v)) (hjs : ∀ j ∈ js, did L j = true) (hA : i ≠ A) (hU : i ≠ U) (hb : Below w.heap.size w w') :
    SJ (bxR WB kd A U Z V ty) n ds T (L.setIfInBounds i true) (frm2 ds T (l.set i v)) w' :=
  h.next (p := (isJ js v).2) hk hjs hb.size (fun ⟨g1, g2, g3⟩ => by
    refine ⟨g1.trans (hb.mono g1.size), ?_, ?_⟩
    · rw [did_other (fun e => hA e.symm), did_other (fun e => hU e.symm)]; exact g2
    · rw [did_other (fun e => hA e.symm), did_other (fun e => hU e.symm), nth_other hA]
      intro hd
      obtain ⟨g, e1, e2, e3⟩ := g3 hd
      exact ⟨g, e1, e2, (hb.block g (lt_of_block e3)).trans e3⟩) rfl

theorem BT.value (h : BT P ops n N ds WB kd A U Z V ty T L l w i) (ho : ops[i]? = some o) (hd : o.dst = some d) (hs : slotOf ds d = some i) (hg : Region.wanted o (yielded ops (frm2 ds T l).tmps) = true)
    (hex : (execOp (frm2 ds T l).eval o).run P w = .ok (.value v) w') (hn : SJ (bxR WB kd A U Z V ty) n ds T (L.setIfInBounds i true) (frm2 ds T (l.set i v)) w') : wpOp P ops Q i (SJ (bxR WB kd A U Z V ty) n ds T (L.setIfInBounds i true)) (frm2 ds T l) w :=
  wpOp_step ho fun K hK => by
    rw [if_pos hg]
    unfold Oper.wp
    rw [hex, Oper.upon_value, hd, frm2_put v hs (by rw [h.len]; exact h.lt)]
    exact hK _ _ hn
/-- A value, in the same world. -/
theorem BT.same (h : BT P ops n N ds WB kd A U Z V ty T L l w i) (ho : ops[i]? = some o) (hd : o.dst = some d) (hs : slotOf ds d = some i) (hg : Region.wanted o (yielded ops (frm2 ds T l).tmps) = true) (hk : kd[i]? = some (isJ [] v)) (hA : i ≠ A) (hU : i ≠ U)
    (hex : (execOp (frm2 ds T l).eval o).run P w = .ok (.value v) w) : wpOp P ops Q i (SJ (bxR WB kd A U Z V ty) n ds T (L.setIfInBounds i true)) (frm2 ds T l) w :=
  h.value ho hd hs hg hex (h.quiet hk (fun j hj => by cases hj) hA hU (Below.refl _ _))
/-- A call that leaves what was. -/
theorem BT.call {f : FuncId} {args : Array Value} (h : BT P ops n N ds WB kd A U Z V ty T L l w i) (ho : ops[i]? = some o) (hd : o.dst = some d) (hs : slotOf ds d = some i) (hg : Region.wanted o (yielded ops (frm2 ds T l).tmps) = true) (hk : kd[i]? = some (isJ [] v)) (hA : i ≠ A) (hU : i ≠ U)
    (hex : (execOp (frm2 ds T l).eval o).run P w = .ok (.enter f args) w) (hc : Calls P f args w fun e w' => e = .returned v ∧ Below w.heap.size w w') : wpOp P ops Q i (SJ (bxR WB kd A U Z V ty) n ds T (L.setIfInBounds i true)) (frm2 ds T l) w :=
  wpOp_step ho fun K hK => by
    rw [if_pos hg]
    unfold Oper.wp
    rw [hex, Oper.upon_enter]
    refine hc.mono ?_
    rintro e w' ⟨rfl, hb⟩
    show K ((frm2 ds T l).put o.dst v) w'
    rw [hd, frm2_put v hs (by rw [h.len]; exact h.lt)]
    exact hK _ _ (h.quiet hk (fun j hj => by cases hj) hA hU hb)
/-- The box is made. -/
theorem BT.make (h : BT P ops n N ds WB kd A U Z V ty T L l w A) (ho : ops[A]? = some o) (hd : o.dst = some d) (hs : slotOf ds d = some A) (hg : Region.wanted o (yielded ops (frm2 ds T l).tmps) = true) (hk : kd[A]? = some (anyJ []))
    (hex : (execOp (frm2 ds T l).eval o).run P w = .ok (.value (.pointer (some ⟨w.heap.size, 0, none⟩))) (w.alloc (.cells Z ty))) : wpOp P ops Q A (SJ (bxR WB kd A U Z V ty) n ds T (L.setIfInBounds A true)) (frm2 ds T l) w :=
  h.value ho hd hs hg hex (h.next (p := (anyJ []).2) hk (fun j hj => by cases hj) (by simp) (fun ⟨g1, g2, _⟩ => by
    have hU : did L U = false := by
      cases q : did L U
      · rfl
      · have := g2 q; rw [h.non] at this; cases this
    have hb : Below WB.heap.size WB (w.alloc (.cells Z ty)) := g1.alloc g1.size _
    refine ⟨hb, fun hd => ?_, fun _ => ⟨w.heap.size, ?_, g1.size, ?_⟩⟩
    · rw [did_other (fun e => h.ne e.symm), hU] at hd; cases hd
    · rw [nth_same (by rw [h.len]; exact h.lt)]
    · rw [did_other (fun e => h.ne e.symm), hU]; exact heap_new w _) trivial)
/-- The store into it. -/
theorem BT.store (h : BT P ops n N ds WB kd A U Z V ty T L l w U) (ho : ops[U]? = some o) (hd : o.dst = none) (hs : ∀ s, slotOf ds s ≠ some U) (hg : Region.wanted o (yielded ops (frm2 ds T l).tmps) = true) (hk : kd[U]? = some (anyJ [])) (hA : did L A = true)
    (hex : ∀ g, nth l A = .pointer (some ⟨g, 0, none⟩) → w.heap[g]? = some (.cells Z ty (0, 0)) → ∃ w', (execOp (frm2 ds T l).eval o).run P w = .ok .skip w' ∧ (∀ k, k ≠ g → w'.heap[k]? = w.heap[k]?) ∧ w'.heap[g]? = some (.cells V ty (0, 0)) ∧ Below g w w') : wpOp P ops Q U (SJ (bxR WB kd A U Z V ty) n ds T (L.setIfInBounds U true)) (frm2 ds T l) w := by
  obtain ⟨g1, g2, g3⟩ := h.rw.glob
  obtain ⟨g, e1, e2, e3⟩ := g3 hA
  rw [h.non] at e3
  obtain ⟨w', x1, x2, x3, x4⟩ := hex g e1 e3
  refine wpOp_step ho fun K hK => ?_
  rw [if_pos hg]
  unfold Oper.wp
  rw [x1, Oper.upon_skip, hd]
  have hput : (frm2 ds T l).put none undef = frm2 ds T (l.set U undef) := by
    refine congrArg (fun x => (⟨x, []⟩ : Act)) ?_
    refine congrArg List.toArray (List.map_congr_left fun s _ => ?_)
    unfold pickF
    split
    · rename_i j hj
      exact (nth_other (fun e => hs s (by rw [hj, e]))).symm
    · rfl
  rw [hput]
  refine hK _ _ (h.next (p := (anyJ []).2) hk (fun j hj => by cases hj) x4.size (fun _ => ⟨g1.trans (x4.mono e2), fun _ => ?_, fun _ => ⟨g, ?_, e2, ?_⟩⟩) trivial)
  · rw [did_other h.ne]; exact hA
  · rw [nth_other (fun e => h.ne e.symm)]; exact e1
  · rw [did_same (by rw [h.size]; exact h.lt)]; exact x3
end

end Go.Proofs.YtfalhemeiengcaaDoor
