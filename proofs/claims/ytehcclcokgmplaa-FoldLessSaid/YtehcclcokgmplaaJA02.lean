/-
  Lemmas, joined: MayP, CycP, Num, Heap, Inv, RowP, RefBits, Two, RefCut.
-/
import Derived.Test.YtehcclcokgmplaaJA01
import Derived.Deep.QuietTactic
import Derived.BigQuiet
import Derived.StillTailTactics
import Derived.RegionTactic
import Derived.BigRegion
import Derived.Laws.Rows
import Derived.Laws.Tables
import Derived.Outline
/-
  Layer 10's document as plain functions: which programs may be.
-/
namespace Go.Proofs.Ytehcclcokgmplaa

theorem some_getD {α : Type} {l : List α} {j : Nat} (d : α) (h : j < l.length) : l[j]? = some (l.getD j d) := by rw [List.getD_eq_getElem?_getD, List.getElem?_eq_getElem h]; rfl

def okP (w : Int) : Bool := decide (0 < w) && decide (w < 129)
def ofP (l : List Int) (i : Int) : Int := if i < 0 ∨ (l.length : Int) ≤ i then 0 else l.getD i.toNat 0
def fitsP (v : Nat) (w : Int) : Bool := decide (v % 2 ^ sh w = v)

/-- The width of a node that takes nothing. -/
def plain0P (p : Prg) (act : Int) (n : Nod) : Int :=
  if n.op = 1 then (if n.a = 0 ∧ n.b = 0 ∧ okP n.w = true ∧ fitsP n.v n.w = true then n.w else 0)
  else if n.v ≠ 0 ∨ (n.op ≠ 2 ∧ n.b ≠ 0) then 0
  else if n.op = 2 then (if 0 ≤ n.a ∧ n.a < (p.heads.length : Int) then ofP (p.heads.getD n.a.toNat []) n.b else 0)
  else if n.op = 3 then ofP p.metas n.a
  else if n.op = 4 then (if 0 ≤ act ∧ act < (p.acts.length : Int) then ofP (p.acts.getD act.toNat ⟨[], []⟩).params n.a else 0)
  else if n.op = 5 then (if n.a = 0 then 9 else 0)
  else if n.op = 6 then (if 0 ≤ n.a ∧ n.a < (p.heads.length : Int) then 1 else 0)
  else 0
/-- The width of a node that takes one value. -/
def single0P (n : Nod) (w : Int) : Int :=
  if n.op = 7 ∨ n.op = 8 then (if n.a = 0 ∧ n.b = 0 then w else 0)
  else if n.op = 13 ∨ n.op = 14 then (if n.b = 0 ∧ 0 ≤ n.a ∧ n.a ≤ 127 then w else 0)
  else if n.op = 9 then (if 0 ≤ n.b ∧ n.b ≤ n.a ∧ n.a < w then n.a - n.b + 1 else 0)
  else 0
def pair0P (n : Nod) (a b : Int) : Int :=
  if n.a ≠ 0 ∨ n.b ≠ 0 then 0
  else if n.op = 10 then a + b
  else if a ≠ b then 0
  else if n.op = 18 ∨ n.op = 19 ∨ n.op = 20 then 1
  else if 11 ≤ n.op ∧ n.op ≤ 17 then a
  else 0
def isUn (op : Int) : Prop := op = 7 ∨ op = 8 ∨ op = 9 ∨ op = 13 ∨ op = 14
instance (op : Int) : Decidable (isUn op) := inferInstanceAs (Decidable (_ ∨ _))
/-- A node's step on the widths (the last one first). -/
def stepW (p : Prg) (act : Int) (st : List Int) (n : Nod) : Option (List Int) :=
  let put (w : Int) (r : List Int) : Option (List Int) := if w = n.w ∧ okP w = true then some (w :: r) else none
  if 1 ≤ n.op ∧ n.op ≤ 6 then put (plain0P p act n) st
  else if n.v ≠ 0 then none
  else if isUn n.op then (match st with | [] => none | t :: r => put (single0P n t) r)
  else (match st with | b :: a :: r => put (pair0P n a b) r | _ => none)
def foldW (p : Prg) (act : Int) : List Int → List Nod → Option (List Int)
  | st, [] => some st
  | st, n :: c => match stepW p act st n with | none => none | some st' => foldW p act st' c
/-- P10.3: a code's width. -/
def widthP (p : Prg) (act : Int) (c : List Nod) : Option Int :=
  if 65536 < c.length then none else match foldW p act [] c with | some [w] => some w | _ => none

end Go.Proofs.Ytehcclcokgmplaa



/-
  Contracts of package num (and of the reference's Of), over the seat's program: what each returns, as natural numbers' own operations.
-/
namespace Go.Proofs.Ytehcclcokgmplaa
open Go.RowKit

/-- A number is handed back; nothing that was has changed. -/
def RetNum (w : World) (n : Nat) (e : Ending) (w' : World) : Prop := e = .returned (numV n) ∧ Below w.heap.size w w'

set_option maxRecDepth 100000 in
set_option maxHeartbeats 400000 in
theorem or1_any (a b : Int) (w : World) :
    Calls Try.prog 82 #[.int .u64 a, .int .u64 b] w fun e w' => e = .returned (.int .u64 (bits BinOp.or IntKind.u64 a b)) ∧ w' = w := by
  go_enter Try.func82, Try.ntmps82
  go_wp2
  go_ret
  exact ⟨rfl, rfl⟩

set_option maxRecDepth 100000 in
set_option maxHeartbeats 400000 in
theorem both_or (a b c d : Int) (w : World) :
    Calls Try.prog 49 #[.agg #[.int .u64 a, .int .u64 b], .agg #[.int .u64 c, .int .u64 d], .func (Fn.func 82) #[] #[]] w fun e w' => e = .returned (.agg #[.int .u64 (bits BinOp.or IntKind.u64 a c), .int .u64 (bits BinOp.or IntKind.u64 b d)]) ∧ Below w.heap.size w w' := by
  go_enter Try.func49, Try.ntmps49
  go_wp2
  refine wp_region_still_tail 13 (by kernel_rfl) (by kernel_rfl) ?_
  simp only [List.take_succ_cons, List.take_zero, List.drop_succ_cons, List.drop_zero]
  change wpStill _ _ (World.drew _) _ _ _
  repeat (first | still_step | still_call (or1_any _ _ _))
  refine wpStill_nil ?_
  change wpList _ _ _ _ _ (World.drew _)
  go_wp2
  exact bodyPost_ret (v := .agg #[.int .u64 (bits BinOp.or IntKind.u64 a c), .int .u64 (bits BinOp.or IntKind.u64 b d)]) (by simp [results, Try.results49, go_sem]) rfl ⟨rfl, (by repeat (first | exact Below.refl _ _ | assumption | refine Below.drew ?_ | refine Below.alloc ?_ (by first | omega | (simp <;> omega)) _ | refine Below.setCell ?_ (by first | omega | (simp <;> omega)) _ | refine Below.trans ?_ (Below.mono (by assumption) (by first | omega | (simp <;> omega)))))⟩

set_option maxRecDepth 100000 in
set_option maxHeartbeats 400000 in
theorem or_any (a b c d : Int) (w : World) :
    Calls Try.prog 73 #[.agg #[.int .u64 a, .int .u64 b], .agg #[.int .u64 c, .int .u64 d]] w fun e w' => e = .returned (.agg #[.int .u64 (bits BinOp.or IntKind.u64 a c), .int .u64 (bits BinOp.or IntKind.u64 b d)]) ∧ Below w.heap.size w w' := by
  go_enter Try.func73, Try.ntmps73
  go_wp2_with (go_at_call 49; refine (both_or _ _ _ _ _).mono ?_; rintro e w1 ⟨rfl, hb⟩; obtain ⟨hc, hf⟩ := bcell hb; have hz := hb.size; simp at hz)
  exact bodyPost_ret (v := .agg #[.int .u64 (bits BinOp.or IntKind.u64 a c), .int .u64 (bits BinOp.or IntKind.u64 b d)]) (by simp [results, Try.results73, go_sem, hc]) rfl ⟨rfl, (by repeat (first | exact Below.refl _ _ | assumption | refine Below.drew ?_ | refine Below.alloc ?_ (by first | omega | (simp <;> omega)) _ | refine Below.setCell ?_ (by first | omega | (simp <;> omega)) _ | refine Below.trans ?_ (Below.mono (by assumption) (by first | omega | (simp <;> omega)))))⟩

theorem numOr_any (a b : Nat) (w : World) (ha : a < B * B) (hb : b < B * B) : Calls Try.prog 73 #[numV a, numV b] w (RetNum w (a ||| b)) :=
  (or_any _ _ _ _ w).mono fun e w' ⟨h1, h2⟩ => ⟨by rw [h1, or_num a b ha hb], h2⟩

set_option maxRecDepth 100000 in
set_option maxHeartbeats 400000 in
theorem and1_any (a b : Int) (w : World) :
    Calls Try.prog 50 #[.int .u64 a, .int .u64 b] w fun e w' => e = .returned (.int .u64 (bits BinOp.and IntKind.u64 a b)) ∧ w' = w := by
  go_enter Try.func50, Try.ntmps50
  go_wp2
  go_ret
  exact ⟨rfl, rfl⟩

set_option maxRecDepth 100000 in
set_option maxHeartbeats 400000 in
theorem both_and (a b c d : Int) (w : World) :
    Calls Try.prog 49 #[.agg #[.int .u64 a, .int .u64 b], .agg #[.int .u64 c, .int .u64 d], .func (Fn.func 50) #[] #[]] w fun e w' => e = .returned (.agg #[.int .u64 (bits BinOp.and IntKind.u64 a c), .int .u64 (bits BinOp.and IntKind.u64 b d)]) ∧ Below w.heap.size w w' := by
  go_enter Try.func49, Try.ntmps49
  go_wp2
  refine wp_region_still_tail 13 (by kernel_rfl) (by kernel_rfl) ?_
  simp only [List.take_succ_cons, List.take_zero, List.drop_succ_cons, List.drop_zero]
  change wpStill _ _ (World.drew _) _ _ _
  repeat (first | still_step | still_call (and1_any _ _ _))
  refine wpStill_nil ?_
  change wpList _ _ _ _ _ (World.drew _)
  go_wp2
  exact bodyPost_ret (v := .agg #[.int .u64 (bits BinOp.and IntKind.u64 a c), .int .u64 (bits BinOp.and IntKind.u64 b d)]) (by simp [results, Try.results49, go_sem]) rfl ⟨rfl, (by repeat (first | exact Below.refl _ _ | assumption | refine Below.drew ?_ | refine Below.alloc ?_ (by first | omega | (simp <;> omega)) _ | refine Below.setCell ?_ (by first | omega | (simp <;> omega)) _ | refine Below.trans ?_ (Below.mono (by assumption) (by first | omega | (simp <;> omega)))))⟩

set_option maxRecDepth 100000 in
set_option maxHeartbeats 400000 in
theorem and_any (a b c d : Int) (w : World) :
    Calls Try.prog 44 #[.agg #[.int .u64 a, .int .u64 b], .agg #[.int .u64 c, .int .u64 d]] w fun e w' => e = .returned (.agg #[.int .u64 (bits BinOp.and IntKind.u64 a c), .int .u64 (bits BinOp.and IntKind.u64 b d)]) ∧ Below w.heap.size w w' := by
  go_enter Try.func44, Try.ntmps44
  go_wp2_with (go_at_call 49; refine (both_and _ _ _ _ _).mono ?_; rintro e w1 ⟨rfl, hb⟩; obtain ⟨hc, hf⟩ := bcell hb; have hz := hb.size; simp at hz)
  exact bodyPost_ret (v := .agg #[.int .u64 (bits BinOp.and IntKind.u64 a c), .int .u64 (bits BinOp.and IntKind.u64 b d)]) (by simp [results, Try.results44, go_sem, hc]) rfl ⟨rfl, (by repeat (first | exact Below.refl _ _ | assumption | refine Below.drew ?_ | refine Below.alloc ?_ (by first | omega | (simp <;> omega)) _ | refine Below.setCell ?_ (by first | omega | (simp <;> omega)) _ | refine Below.trans ?_ (Below.mono (by assumption) (by first | omega | (simp <;> omega)))))⟩

theorem numAnd_any (a b : Nat) (w : World) (ha : a < B * B) (hb : b < B * B) : Calls Try.prog 44 #[numV a, numV b] w (RetNum w (a &&& b)) :=
  (and_any _ _ _ _ w).mono fun e w' ⟨h1, h2⟩ => ⟨by rw [h1, and_num a b ha hb], h2⟩

end Go.Proofs.Ytehcclcokgmplaa

/-
  Blocks: a new one; one that is written.
-/
namespace Go.Proofs.Ytehcclcokgmplaa
open Go.RowKit

theorem heap_new (w : World) (o : Obj) : (w.alloc o).heap[w.heap.size]? = some o := by
  show (w.heap.push o)[w.heap.size]? = _
  simp
theorem setCell_heap {w : World} {g i k : Nat} {v : Value} (h : k ≠ g) : (w.setCell ⟨g, i, none⟩ v).heap[k]? = w.heap[k]? := Below.heap_setCell w ⟨g, i, none⟩ v k h
theorem set_lo {w : World} {g : Nat} {a b : Value} {t : TypeId} (v : Value) (h : w.heap[g]? = some (.cells #[a, b] t (0, 0))) : (w.setCell ⟨g, 1, none⟩ v).heap[g]? = some (.cells #[a, v] t (0, 0)) :=
  heap_setCell_same w g 1 _ t v h
theorem set_hi {w : World} {g : Nat} {a b : Value} {t : TypeId} (v : Value) (h : w.heap[g]? = some (.cells #[a, b] t (0, 0))) : (w.setCell ⟨g, 0, none⟩ v).heap[g]? = some (.cells #[v, b] t (0, 0)) :=
  heap_setCell_same w g 0 _ t v h
theorem lt_of_block {w : World} {g : Nat} {o : Obj} (h : w.heap[g]? = some o) : g < w.heap.size := (Array.getElem?_eq_some_iff.1 h).1

end Go.Proofs.Ytehcclcokgmplaa

/-
  A region that draws its order, by an invariant over what has been done.
-/
namespace Go.Proofs.Ytehcclcokgmplaa
open Go.RowKit

/-- Has an operation been done? -/
def did (L : Array Bool) (i : Nat) : Bool := L.getD i false

theorem did_set {L : Array Bool} {i j : Nat} (hi : i < L.size) : did (L.setIfInBounds i true) j = (decide (j = i) || did L j) := by
  unfold did
  by_cases h : i = j
  · subst h
    simp [hi]
  · rw [getD_set_ne false h]
    have : decide (j = i) = false := by simp; omega
    rw [this, Bool.false_or]

theorem did_none (n i : Nat) : did (Array.replicate n false) i = false := by
  unfold did
  rw [Array.getD_eq_getD_getElem?, Array.getElem?_replicate]
  split <;> rfl
theorem filter_le {p q : Nat → Bool} (h : ∀ j, q j = true → p j = true) : ∀ l : List Nat, (l.filter q).length ≤ (l.filter p).length
  | [] => Nat.le_refl _
  | x :: l => by
    have ih := filter_le h l
    rw [List.filter_cons, List.filter_cons]
    cases hq : q x
    · simp only [Bool.false_eq_true, if_false]
      split
      · simp only [List.length_cons]; omega
      · exact ih
    · rw [h x hq]
      simp only [if_true, List.length_cons]
      omega
theorem filter_lt {p q : Nat → Bool} (h : ∀ j, q j = true → p j = true) {i : Nat} (hp : p i = true) (hq : q i = false) : ∀ l : List Nat, i ∈ l → (l.filter q).length < (l.filter p).length
  | [], hi => by cases hi
  | x :: l, hi => by
    rw [List.filter_cons, List.filter_cons]
    by_cases e : x = i
    · subst e
      have := filter_le h l
      rw [hp, hq]
      simp only [Bool.false_eq_true, if_false, if_true, List.length_cons]
      omega
    · have ih := filter_lt h hp hq l (by
        rcases List.mem_cons.1 hi with h1 | h1
        · exact absurd h1.symm e
        · exact h1)
      cases hq' : q x
      · simp only [Bool.false_eq_true, if_false]
        split
        · simp only [List.length_cons]; omega
        · exact ih
      · rw [h x hq']
        simp only [if_true, List.length_cons]
        omega

theorem wpAny_inv {P : Program} {md : Region.Mode} {ops : Array Oper} {Q : Exit → Act → World → Prop} (I : Array Bool → Act → World → Prop)
    (hstep : ∀ L a w i, L.size = ops.size → i < ops.size → did L i = false → (∀ o, ops[i]? = some o → ∀ e ∈ o.after, Region.binds md e = true → did L e.on = true) → I L a w → wpOp P ops Q i (I (L.setIfInBounds i true)) a w)
    (hend : ∀ L a w, L.size = ops.size → Region.ready md ops L = [] → I L a w → Q .normal a w) :
    ∀ (n : Nat) (L : Array Bool) (a : Act) (w : World), L.size = ops.size → (∀ i, i < ops.size → did L i = false → 0 < n) → (Region.ready md ops L).length ≤ ops.size → ((List.range ops.size).filter fun i => !did L i).length ≤ n → I L a w → wpAny P md ops Q n L a w := by
  intro n
  induction n with
  | zero =>
    intro L a w hL hn _ hlen hI
    have hr : Region.ready md ops L = [] := by
      rw [List.eq_nil_iff_forall_not_mem]
      intro i hi
      obtain ⟨h1, o, ho, -⟩ := mem_ready.1 hi
      have hlt : i < ops.size := (Array.getElem?_eq_some_iff.1 ho).1
      have : did L i = false := by unfold did; simpa [hL, hlt] using h1
      exact absurd (hn i hlt this) (by omega)
    exact ⟨hr, hend L a w hL hr hI⟩
  | succ n ih =>
    intro L a w hL hn hrl hlen hI
    refine ⟨fun hr => hend L a w hL hr hI, fun i hi => ?_⟩
    obtain ⟨h1, o, ho, hall⟩ := mem_ready.1 hi
    have hlt : i < ops.size := (Array.getElem?_eq_some_iff.1 ho).1
    have hd : did L i = false := by unfold did; simpa [hL, hlt] using h1
    refine wpOp_mono (fun a' w' hI' => ?_) (hstep L a w i hL hlt hd (fun o' ho' e he hb => by rw [ho] at ho'; cases ho'; exact hall e he hb) hI)
    have hset : ((List.range ops.size).filter fun j => !did (L.setIfInBounds i true) j).length < ((List.range ops.size).filter fun j => !did L j).length := by
      refine filter_lt (fun j hj => ?_) (i := i) (by simp [hd]) (by rw [did_set (by omega)]; simp) _ (List.mem_range.2 hlt)
      rw [did_set (by omega)] at hj
      cases h : did L j
      · rfl
      · rw [h] at hj; simp at hj
    refine ih _ a' w' (by simpa using hL) (fun j hj hdj => ?_) ?_ (by omega) hI'
    · rcases Nat.eq_zero_or_pos n with h0 | h0
      · exfalso
        have hm : j ∈ (List.range ops.size).filter fun j => !did (L.setIfInBounds i true) j := by
          rw [List.mem_filter, List.mem_range]
          exact ⟨hj, by simp [hdj]⟩
        have := List.length_pos_of_mem hm
        omega
      · exact h0
    · unfold Region.ready
      exact Nat.le_trans (List.length_filter_le _ _) (by simp)

end Go.Proofs.Ytehcclcokgmplaa








