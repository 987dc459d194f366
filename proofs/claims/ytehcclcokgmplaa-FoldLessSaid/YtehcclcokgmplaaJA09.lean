/-
  Lemmas, joined: Ab, Ab2.
-/
import Derived.Test.YtehcclcokgmplaaJA08
/-
  Regions that draw their order over a frame that is not written out: the slots that the region writes are a list's.
-/
namespace Go.Proofs.Ytehcclcokgmplaa
open Go.RowKit Go.Maps

section
variable {lo : Nat} {T l : List Value}
end

theorem list_nth : ∀ {n : Nat} {l : List Value}, l.length = n → (List.range n).map (nth l) = l := by
  intro n l h
  refine List.ext_getElem (by simp [h]) fun i h1 h2 => ?_
  simp only [List.getElem_map, List.getElem_range]
  unfold nth
  rw [List.getD_eq_getElem?_getD, List.getElem?_eq_getElem h2]; rfl

/-- The region's own condition stays whatever is done. -/
def GStays (S : Rw) : Prop := ∀ (i : Nat) (v : Value) (L : Array Bool) (l : List Value) (w w' : World), Below w.heap.size w w' → S.G L l w → S.G (L.setIfInBounds i true) (l.set i v) w'

section
variable {P : Program} {S : Rw} {n lo : Nat} {T l : List Value} {L : Array Bool} {ops : Array Oper} {i : Nat} {o : Oper} {w : World} {Q : Exit → Act → World → Prop}

theorem wanted_un {t : Array Value} (h : o.guard = none) : Region.wanted o (yielded ops t) = true := by unfold Region.wanted; rw [h]
/-- What a step stands on. -/
structure At (S : Rw) (n lo : Nat) (T : List Value) (L : Array Bool) (l : List Value) (w : World) (i : Nat) : Prop where
  len : l.length = n
  size : L.size = n
  lt : i < n
  old : lo ≤ T.length
  fine : S.Fine
  stays : GStays S
  non : did L i = false
  rw : RW S L l w

-- what single operations yield
variable {ev : Operand → Value} {v : Value}
theorem ex_move {x : Operand} (h : o.op = .move x) (hv : ev x = v) : (execOp ev o).run P w = .ok (.value v) w := by
  unfold execOp; rw [h, ← hv]; rfl
theorem ex_call {c : Call} {x : Operand} {f : FuncId} {cap args all : Array Value} (h : o.op = .call c) (hc : c.callee = .value x) (hx : ev x = .func (.func f) #[] cap) (ha : c.args.map ev = args) (hall : args ++ cap = all) (hf : ∀ av W, (callFunc f av).run P W = .ok (.enter f av) W) : (execOp ev o).run P w = .ok (.enter f all) w := by
  subst hall; unfold execOp resolve; rw [h]; simp [go_sem, hc, hx, ha, hf]
end

/-- An operation hangs on another one. -/
theorem dep_of {i a : Nat} {L : Array Bool} {ops : Array Oper} (hb : (ops[i]?.map fun o => o.after.any fun e => decide (e.on = a) && Region.binds .any e) = some true) (hdep : ∀ o, ops[i]? = some o → ∀ e ∈ o.after, Region.binds .any e = true → did L e.on = true) : did L a = true := by
  cases h : ops[i]? with
  | none => rw [h] at hb; cases hb
  | some o =>
    rw [h] at hb
    simp only [Option.map_some, Option.some.injEq, Array.any_eq_true'] at hb
    obtain ⟨e, he, h2⟩ := hb
    simp only [Bool.and_eq_true, decide_eq_true_eq] at h2
    rw [← h2.1]
    exact hdep o h e he h2.2

end Go.Proofs.Ytehcclcokgmplaa

/-
  Regions that draw their order over a frame that is not written out, wherever the slots lie that the region writes; operations without a slot; a condition that turns on what has been done.
-/
namespace Go.Proofs.Ytehcclcokgmplaa
open Go.RowKit Go.Maps

/-- Which operation writes a slot. -/
def slotOf : List (Option Nat) → Nat → Option Nat
  | [], _ => none
  | d :: ds, s => if d = some s then some 0 else (slotOf ds s).map (· + 1)
def pickF (ds : List (Option Nat)) (T l : List Value) (s : Nat) : Value := match slotOf ds s with | some i => nth l i | none => nth T s
/-- An act whose slots are l's where the region writes, else T's. -/
def frm2 (ds : List (Option Nat)) (T l : List Value) : Act := ⟨((List.range T.length).map (pickF ds T l)).toArray, []⟩

theorem slotOf_spec : ∀ {ds : List (Option Nat)} {s i : Nat}, slotOf ds s = some i → ds[i]? = some (some s)
  | [], _, _, h => by cases h
  | d :: ds, s, i, h => by
    unfold slotOf at h
    split at h
    · rename_i e; cases h; rw [e]; rfl
    · cases q : slotOf ds s with
      | none => rw [q] at h; cases h
      | some j => rw [q] at h; cases h; exact slotOf_spec (ds := ds) q

section
variable {ds : List (Option Nat)} {T l : List Value}
theorem frm2_at {s : Nat} (h : s < T.length) : (frm2 ds T l).tmps[s]? = some (pickF ds T l s) := by
  unfold frm2; simp [h]
theorem frm2_eval {s : Nat} (h : s < T.length) : (frm2 ds T l).eval (.tmp s) = pickF ds T l s := by
  show (frm2 ds T l).tmps.getD s undef = _
  rw [Array.getD_eq_getD_getElem?, frm2_at h]; rfl
theorem frm2_new {s i : Nat} (h : s < T.length) (hs : slotOf ds s = some i) : (frm2 ds T l).eval (.tmp s) = nth l i := by
  rw [frm2_eval h]; unfold pickF; rw [hs]
theorem frm2_old {s : Nat} (h : s < T.length) (hs : slotOf ds s = none) : (frm2 ds T l).eval (.tmp s) = nth T s := by
  rw [frm2_eval h]; unfold pickF; rw [hs]
theorem frm2_put {d i : Nat} (v : Value) (hs : slotOf ds d = some i) (h : i < l.length) : (frm2 ds T l).put (some d) v = frm2 ds T (l.set i v) := by
  unfold frm2 Act.put
  simp only [Act.mk.injEq, and_true]
  apply Array.ext
  · simp
  · intro j h1 h2
    simp only [Array.size_setIfInBounds, List.size_toArray, List.length_map, List.length_range] at h1
    rw [Array.getElem_setIfInBounds (by simpa using h1)]
    simp only [List.getElem_toArray, List.getElem_map, List.getElem_range]
    by_cases e : d = j
    · subst e
      rw [if_pos rfl]
      unfold pickF; rw [hs]
      exact (nth_same h).symm
    · rw [if_neg e]
      unfold pickF
      cases q : slotOf ds j with
      | none => rfl
      | some k =>
        have hne : i ≠ k := fun q2 => by
          have h1 := slotOf_spec hs
          have h2 := slotOf_spec q
          rw [q2, h2] at h1
          cases h1
          exact e rfl
        exact (nth_other hne).symm
end

def SJ (S : Rw) (n : Nat) (ds : List (Option Nat)) (T : List Value) (L : Array Bool) (a : Act) (w : World) : Prop := ∃ l : List Value, l.length = n ∧ L.size = n ∧ a = frm2 ds T l ∧ RW S L l w

section
variable {P : Program} {S : Rw} {n : Nat} {ds : List (Option Nat)} {T l : List Value} {L : Array Bool} {ops : Array Oper} {i : Nat} {o : Oper} {w w' : World} {Q : Exit → Act → World → Prop} {v : Value}

end

end Go.Proofs.Ytehcclcokgmplaa
