/-
  Regions that draw their order over a frame that is not written out: the slots that the region writes are a list's.
-/
import Derived.Test.YtfalhemeiengcaaDoorRegW
namespace Go.Proofs.YtfalhemeiengcaaDoor
open Go.RowKit Go.Maps

/-- An act whose slots from lo on are l's, the others T's. -/
def frm (lo : Nat) (T l : List Value) : Act := ⟨(T.take lo ++ l ++ T.drop (lo + l.length)).toArray, []⟩

section
variable {lo : Nat} {T l : List Value}
theorem frm_put {i : Nat} (v : Value) (h : i < l.length) (hT : lo ≤ T.length) : (frm lo T l).put (some (lo + i)) v = frm lo T (l.set i v) := by
  unfold frm Act.put
  simp only [List.setIfInBounds_toArray, List.length_set]
  rw [List.append_assoc, List.set_append_right _ _ (by rw [List.length_take]; omega), List.length_take, Nat.min_eq_left hT, Nat.add_sub_cancel_left, List.set_append_left _ _ h, List.append_assoc]
theorem frm_at {s : Nat} : (frm lo T l).tmps[s]? = (T.take lo ++ l ++ T.drop (lo + l.length))[s]? := by
  unfold frm; simp
theorem frm_slot {i : Nat} (h : i < l.length) (hT : lo ≤ T.length) : (frm lo T l).tmps[lo + i]? = some (nth l i) := by
  rw [frm_at, List.append_assoc, List.getElem?_append_right (by rw [List.length_take]; omega), List.length_take, Nat.min_eq_left hT, Nat.add_sub_cancel_left, List.getElem?_append_left h, List.getElem?_eq_getElem h]
  unfold nth
  rw [List.getD_eq_getElem?_getD, List.getElem?_eq_getElem h]; rfl
theorem frm_new {i : Nat} (h : i < l.length) (hT : lo ≤ T.length) : (frm lo T l).eval (.tmp (lo + i)) = nth l i := by
  show (frm lo T l).tmps.getD (lo + i) undef = _
  rw [Array.getD_eq_getD_getElem?, frm_slot h hT]; rfl
theorem frm_old {s : Nat} (h : s < lo) (hT : lo ≤ T.length) : (frm lo T l).eval (.tmp s) = nth T s := by
  show (frm lo T l).tmps.getD s undef = _
  rw [Array.getD_eq_getD_getElem?, frm_at, List.append_assoc, List.getElem?_append_left (by rw [List.length_take]; omega), List.getElem?_take, if_pos h]
  unfold nth
  rw [List.getD_eq_getElem?_getD]
end

theorem list_nth : ∀ {n : Nat} {l : List Value}, l.length = n → (List.range n).map (nth l) = l := by
  intro n l h
  refine List.ext_getElem (by simp [h]) fun i h1 h2 => ?_
  simp only [List.getElem_map, List.getElem_range]
  unfold nth
  rw [List.getD_eq_getElem?_getD, List.getElem?_eq_getElem h2]; rfl

/-- What holds of such a region. -/
def SI (S : Rw) (n lo : Nat) (T : List Value) (L : Array Bool) (a : Act) (w : World) : Prop := ∃ l : List Value, l.length = n ∧ L.size = n ∧ a = frm lo T l ∧ RW S L l w
/-- The region's own condition stays whatever is done. -/
def GStays (S : Rw) : Prop := ∀ (i : Nat) (v : Value) (L : Array Bool) (l : List Value) (w w' : World), Below w.heap.size w w' → S.G L l w → S.G (L.setIfInBounds i true) (l.set i v) w'

section
variable {P : Program} {S : Rw} {n lo : Nat} {T l : List Value} {L : Array Bool} {ops : Array Oper} {i : Nat} {o : Oper} {w : World} {Q : Exit → Act → World → Prop}

theorem wanted_un {t : Array Value} (h : o.guard = none) : Region.wanted o (yielded ops t) = true := by unfold Region.wanted; rw [h]
theorem wanted_go {j : Nat} {b : Bool} {oj : Oper} (hg : o.guard = some (j, b)) (hj : ops[j]? = some oj) (hd : oj.dst = some (lo + j)) (h : j < l.length) (hT : lo ≤ T.length) (hv : nth l j = .bool b) : Region.wanted o (yielded ops (frm lo T l).tmps) = true := by
  unfold Region.wanted yielded
  rw [hg]
  simp only [hj, hd, Option.bind_some, frm_slot h hT, hv]
  cases b <;> rfl

/-- What a step stands on. -/
structure At (S : Rw) (n lo : Nat) (T : List Value) (L : Array Bool) (l : List Value) (w : World) (i : Nat) : Prop where
  len : l.length = n
  size : L.size = n
  lt : i < n
  old : lo ≤ T.length
  fine : S.Fine
  stays : GStays S
  non : did L i = false
  rw : RW S L l w

theorem At.ev {j : Nat} (h : At S n lo T L l w i) (hj : j < n) : (frm lo T l).eval (.tmp (lo + j)) = nth l j := frm_new (by rw [h.len]; exact hj) h.old
theorem At.ev0 {s : Nat} (h : At S n lo T L l w i) (hs : s < lo) : (frm lo T l).eval (.tmp s) = nth T s := frm_old hs h.old

theorem step_new {w' : World} {v : Value} {js : List Nat} {p : Tw} (h : At S n lo T L l w i) (ho : ops[i]? = some o) (hd : o.dst = some (lo + i)) (hg : Region.wanted o (yielded ops (frm lo T l).tmps) = true)
    (hk : S.kd[i]? = some (js, p)) (hjs : ∀ j ∈ js, did L j = true) (hb : Below w.heap.size w w') (hp : p (NewB w w') w' (js.map (nth l)) v)
    (hex : (execOp (frm lo T l).eval o).run P w = .ok (.value v) w') : wpOp P ops Q i (SI S n lo T (L.setIfInBounds i true)) (frm lo T l) w :=
  wpOp_step ho fun K hK => by
    rw [if_pos hg]
    unfold Oper.wp
    rw [hex, Oper.upon_value, hd, frm_put v (by rw [h.len]; exact h.lt) h.old]
    exact hK _ _ ⟨_, by simp [h.len], by simp [h.size], rfl, h.rw.quiet i v h.fine h.non (by rw [h.size]; exact h.lt) (by rw [h.len]; exact h.lt) hk hjs hb (h.stays i v L l w w' hb) hp⟩

theorem step_val {v : Value} (h : At S n lo T L l w i) (ho : ops[i]? = some o) (hd : o.dst = some (lo + i)) (hg : Region.wanted o (yielded ops (frm lo T l).tmps) = true)
    (hk : S.kd[i]? = some (isV v)) (hex : (execOp (frm lo T l).eval o).run P w = .ok (.value v) w) : wpOp P ops Q i (SI S n lo T (L.setIfInBounds i true)) (frm lo T l) w :=
  step_new (p := (isV v).2) h ho hd hg hk (fun j hj => by cases hj) (Below.refl _ _) rfl hex

theorem step_call {v : Value} {f : FuncId} {args : Array Value} (h : At S n lo T L l w i) (ho : ops[i]? = some o) (hd : o.dst = some (lo + i)) (hg : Region.wanted o (yielded ops (frm lo T l).tmps) = true)
    (hk : S.kd[i]? = some (isV v)) (hex : (execOp (frm lo T l).eval o).run P w = .ok (.enter f args) w) (hc : Calls P f args w fun e w' => e = .returned v ∧ Below w.heap.size w w') : wpOp P ops Q i (SI S n lo T (L.setIfInBounds i true)) (frm lo T l) w :=
  wpOp_step ho fun K hK => by
    rw [if_pos hg]
    unfold Oper.wp
    rw [hex, Oper.upon_enter]
    refine hc.mono ?_
    rintro e w' ⟨rfl, hb⟩
    show K ((frm lo T l).put o.dst v) w'
    rw [hd, frm_put v (by rw [h.len]; exact h.lt) h.old]
    exact hK _ _ ⟨_, by simp [h.len], by simp [h.size], rfl, h.rw.quiet (js := []) (P := (isV v).2) i v h.fine h.non (by rw [h.size]; exact h.lt) (by rw [h.len]; exact h.lt) hk (fun j hj => by cases hj) hb (h.stays i v L l w w' hb) rfl⟩

-- what single operations yield
variable {ev : Operand → Value} {v : Value}
theorem ex_move {x : Operand} (h : o.op = .move x) (hv : ev x = v) : (execOp ev o).run P w = .ok (.value v) w := by
  unfold execOp; rw [h, ← hv]; rfl
theorem ex_pick {c x y : Operand} (h : o.op = .pick c x y) (hc : ev c = .bool false) (hv : ev y = v) : (execOp ev o).run P w = .ok (.value v) w := by
  unfold execOp; rw [h]; simp [go_sem, hc, hv]
theorem ex_call {c : Call} {x : Operand} {f : FuncId} {cap args all : Array Value} (h : o.op = .call c) (hc : c.callee = .value x) (hx : ev x = .func (.func f) #[] cap) (ha : c.args.map ev = args) (hall : args ++ cap = all) (hf : ∀ av W, (callFunc f av).run P W = .ok (.enter f av) W) : (execOp ev o).run P w = .ok (.enter f all) w := by
  subst hall; unfold execOp resolve; rw [h]; simp [go_sem, hc, hx, ha, hf]
end

/-- An operation hangs on another one. -/
theorem dep_of {i a : Nat} {L : Array Bool} {ops : Array Oper} (hb : (ops[i]?.map fun o => o.after.any fun e => decide (e.on = a) && Region.binds .any e) = some true) (hdep : ∀ o, ops[i]? = some o → ∀ e ∈ o.after, Region.binds .any e = true → did L e.on = true) : did L a = true := by
  cases h : ops[i]? with
  | none => rw [h] at hb; cases hb
  | some o =>
    rw [h] at hb
    simp only [Option.map_some, Option.some.injEq, Array.any_eq_true'] at hb
    obtain ⟨e, he, h2⟩ := hb
    simp only [Bool.and_eq_true, decide_eq_true_eq] at h2
    rw [← h2.1]
    exact hdep o h e he h2.2

end Go.Proofs.YtfalhemeiengcaaDoor
