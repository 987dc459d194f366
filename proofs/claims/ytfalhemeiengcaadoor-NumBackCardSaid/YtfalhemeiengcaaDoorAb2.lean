/-
  Regions that draw their order over a frame that is not written out, wherever the slots lie that the region writes; operations without a slot; a condition that turns on what has been done.
-/
import Derived.Test.YtfalhemeiengcaaDoorAb
namespace Go.Proofs.YtfalhemeiengcaaDoor
open Go.RowKit Go.Maps

/-- Which operation writes a slot. -/
def slotOf : List (Option Nat) → Nat → Option Nat
  | [], _ => none
  | d :: ds, s => if d = some s then some 0 else (slotOf ds s).map (· + 1)
def pickF (ds : List (Option Nat)) (T l : List Value) (s : Nat) : Value := match slotOf ds s with | some i => nth l i | none => nth T s
/-- An act whose slots are l's where the region writes, else T's. -/
def frm2 (ds : List (Option Nat)) (T l : List Value) : Act := ⟨((List.range T.length).map (pickF ds T l)).toArray, []⟩

theorem slotOf_spec : ∀ {ds : List (Option Nat)} {s i : Nat}, slotOf ds s = some i → ds[i]? = some (some s)
  | [], _, _, h => by cases h
  | d :: ds, s, i, h => by
    unfold slotOf at h
    split at h
    · rename_i e; cases h; rw [e]; rfl
    · cases q : slotOf ds s with
      | none => rw [q] at h; cases h
      | some j => rw [q] at h; cases h; exact slotOf_spec (ds := ds) q

section
variable {ds : List (Option Nat)} {T l : List Value}
theorem frm2_at {s : Nat} (h : s < T.length) : (frm2 ds T l).tmps[s]? = some (pickF ds T l s) := by
  unfold frm2; simp [h]
theorem frm2_eval {s : Nat} (h : s < T.length) : (frm2 ds T l).eval (.tmp s) = pickF ds T l s := by
  show (frm2 ds T l).tmps.getD s undef = _
  rw [Array.getD_eq_getD_getElem?, frm2_at h]; rfl
theorem frm2_new {s i : Nat} (h : s < T.length) (hs : slotOf ds s = some i) : (frm2 ds T l).eval (.tmp s) = nth l i := by
  rw [frm2_eval h]; unfold pickF; rw [hs]
theorem frm2_old {s : Nat} (h : s < T.length) (hs : slotOf ds s = none) : (frm2 ds T l).eval (.tmp s) = nth T s := by
  rw [frm2_eval h]; unfold pickF; rw [hs]
theorem frm2_put {d i : Nat} (v : Value) (hs : slotOf ds d = some i) (h : i < l.length) : (frm2 ds T l).put (some d) v = frm2 ds T (l.set i v) := by
  unfold frm2 Act.put
  simp only [Act.mk.injEq, and_true]
  apply Array.ext
  · simp
  · intro j h1 h2
    simp only [Array.size_setIfInBounds, List.size_toArray, List.length_map, List.length_range] at h1
    rw [Array.getElem_setIfInBounds (by simpa using h1)]
    simp only [List.getElem_toArray, List.getElem_map, List.getElem_range]
    by_cases e : d = j
    · subst e
      rw [if_pos rfl]
      unfold pickF; rw [hs]
      exact (nth_same h).symm
    · rw [if_neg e]
      unfold pickF
      cases q : slotOf ds j with
      | none => rfl
      | some k =>
        have hne : i ≠ k := fun q2 => by
          have h1 := slotOf_spec hs
          have h2 := slotOf_spec q
          rw [q2, h2] at h1
          cases h1
          exact e rfl
        exact (nth_other hne).symm
end

def SJ (S : Rw) (n : Nat) (ds : List (Option Nat)) (T : List Value) (L : Array Bool) (a : Act) (w : World) : Prop := ∃ l : List Value, l.length = n ∧ L.size = n ∧ a = frm2 ds T l ∧ RW S L l w

section
variable {P : Program} {S : Rw} {n : Nat} {ds : List (Option Nat)} {T l : List Value} {L : Array Bool} {ops : Array Oper} {i : Nat} {o : Oper} {w w' : World} {Q : Exit → Act → World → Prop} {v : Value}

theorem wanted2_go {j d : Nat} {b : Bool} {oj : Oper} (hg : o.guard = some (j, b)) (hj : ops[j]? = some oj) (hd : oj.dst = some d) (hs : slotOf ds d = some j) (h : d < T.length) (hv : nth l j = .bool b) : Region.wanted o (yielded ops (frm2 ds T l).tmps) = true := by
  have e : pickF ds T l d = .bool b := by unfold pickF; rw [hs]; exact hv
  unfold Region.wanted yielded
  rw [hg]
  simp only [hj, hd, Option.bind_some, frm2_at h, e]
  cases b <;> rfl

/-- What a step stands on. -/
structure At2 (S : Rw) (n : Nat) (L : Array Bool) (l : List Value) (w : World) (i : Nat) : Prop where
  len : l.length = n
  size : L.size = n
  lt : i < n
  fine : S.Fine
  non : did L i = false
  rw : RW S L l w

/-- What the others tell when i is done: the state behind it. -/
theorem At2.next {js : List Nat} {p : Tw} (h : At2 S n L l w i) (hk : S.kd[i]? = some (js, p)) (hjs : ∀ j ∈ js, did L j = true) (hb : Below w.heap.size w w') (hG : S.G L l w → S.G (L.setIfInBounds i true) (l.set i v) w') (hp : p (NewB w w') w' (js.map (nth l)) v) (ds : List (Option Nat)) (T : List Value) :
    SJ S n ds T (L.setIfInBounds i true) (frm2 ds T (l.set i v)) w' :=
  ⟨_, by simp [h.len], by simp [h.size], rfl, h.rw.quiet i v h.fine h.non (by rw [h.size]; exact h.lt) (by rw [h.len]; exact h.lt) hk hjs hb hG hp⟩

/-- An operation that yields a value. -/
theorem op_value {d : Nat} (h : At2 S n L l w i) (ho : ops[i]? = some o) (hd : o.dst = some d) (hs : slotOf ds d = some i) (hg : Region.wanted o (yielded ops (frm2 ds T l).tmps) = true)
    (hex : (execOp (frm2 ds T l).eval o).run P w = .ok (.value v) w') (hn : SJ S n ds T (L.setIfInBounds i true) (frm2 ds T (l.set i v)) w') : wpOp P ops Q i (SJ S n ds T (L.setIfInBounds i true)) (frm2 ds T l) w :=
  wpOp_step ho fun K hK => by
    rw [if_pos hg]
    unfold Oper.wp
    rw [hex, Oper.upon_value, hd, frm2_put v hs (by rw [h.len]; exact h.lt)]
    exact hK _ _ hn
theorem op_skip (ho : ops[i]? = some o) (hd : o.dst = none) (hg : Region.wanted o (yielded ops (frm2 ds T l).tmps) = true)
    (hex : (execOp (frm2 ds T l).eval o).run P w = .ok .skip w') (hn : SJ S n ds T (L.setIfInBounds i true) (frm2 ds T l) w') : wpOp P ops Q i (SJ S n ds T (L.setIfInBounds i true)) (frm2 ds T l) w :=
  wpOp_step ho fun K hK => by
    rw [if_pos hg]
    unfold Oper.wp
    rw [hex, Oper.upon_skip, hd]
    exact hK _ _ hn
theorem op_call {d : Nat} {f : FuncId} {args : Array Value} {R : Value → World → Prop} (h : At2 S n L l w i) (ho : ops[i]? = some o) (hd : o.dst = some d) (hs : slotOf ds d = some i) (hg : Region.wanted o (yielded ops (frm2 ds T l).tmps) = true)
    (hex : (execOp (frm2 ds T l).eval o).run P w = .ok (.enter f args) w) (hc : Calls P f args w fun e w' => ∃ v, e = .returned v ∧ R v w') (hn : ∀ v w', R v w' → SJ S n ds T (L.setIfInBounds i true) (frm2 ds T (l.set i v)) w') : wpOp P ops Q i (SJ S n ds T (L.setIfInBounds i true)) (frm2 ds T l) w :=
  wpOp_step ho fun K hK => by
    rw [if_pos hg]
    unfold Oper.wp
    rw [hex, Oper.upon_enter]
    refine hc.mono ?_
    rintro e w' ⟨v, rfl, hr⟩
    show K ((frm2 ds T l).put o.dst v) w'
    rw [hd, frm2_put v hs (by rw [h.len]; exact h.lt)]
    exact hK _ _ (hn v w' hr)
end

end Go.Proofs.YtfalhemeiengcaaDoor
