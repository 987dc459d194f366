/-
  Lemmas, joined: Held, RowP, Num, RefBits, BitR, TabA.
-/
import Derived.Test.YtnknpgfconfgjaaJT01
import Derived.Laws.Rows
import Derived.Laws.Tables
import Derived.Deep.QuietTactic
import Derived.BigQuiet
import Derived.StillTailTactics
import Derived.RegionTactic
import Derived.BigRegion
import Derived.Deep.RegionHeld3
import Derived.Outline
/-
  What a region that draws its order keeps: cells that are read, cells that are written at its end.
-/
namespace Go.Proofs.Ytnknpgfconfgjaa
open Go.RowKit

theorem held_6_0 {w W w1 : World} {p0 p1 p2 p3 p4 p5 : Addr} {v0 v1 v2 v3 v4 v5 : Value} (hb : Below W.heap.size W w1) (h : Below w.heap.size w W ∧ W.cell? p0 = some v0 ∧ W.cell? p1 = some v1 ∧ W.cell? p2 = some v2 ∧ W.cell? p3 = some v3 ∧ W.cell? p4 = some v4 ∧ W.cell? p5 = some v5) :
    Below w.heap.size w w1 ∧ w1.cell? p0 = some v0 ∧ w1.cell? p1 = some v1 ∧ w1.cell? p2 = some v2 ∧ w1.cell? p3 = some v3 ∧ w1.cell? p4 = some v4 ∧ w1.cell? p5 = some v5 := by
  obtain ⟨q, q0, q1, q2, q3, q4, q5⟩ := h
  exact ⟨q.trans (hb.mono q.size), (hb.cell (cell_there q0).1).trans q0, (hb.cell (cell_there q1).1).trans q1, (hb.cell (cell_there q2).1).trans q2, (hb.cell (cell_there q3).1).trans q3, (hb.cell (cell_there q4).1).trans q4, (hb.cell (cell_there q5).1).trans q5⟩

theorem held_2_0 {w W w1 : World} {p0 p1 : Addr} {v0 v1 : Value} (hb : Below W.heap.size W w1) (h : Below w.heap.size w W ∧ W.cell? p0 = some v0 ∧ W.cell? p1 = some v1) :
    Below w.heap.size w w1 ∧ w1.cell? p0 = some v0 ∧ w1.cell? p1 = some v1 := by
  obtain ⟨q, q0, q1⟩ := h
  exact ⟨q.trans (hb.mono q.size), (hb.cell (cell_there q0).1).trans q0, (hb.cell (cell_there q1).1).trans q1⟩

theorem held_7_0 {w W w1 : World} {p0 p1 p2 p3 p4 p5 p6 : Addr} {v0 v1 v2 v3 v4 v5 v6 : Value} (hb : Below W.heap.size W w1) (h : Below w.heap.size w W ∧ W.cell? p0 = some v0 ∧ W.cell? p1 = some v1 ∧ W.cell? p2 = some v2 ∧ W.cell? p3 = some v3 ∧ W.cell? p4 = some v4 ∧ W.cell? p5 = some v5 ∧ W.cell? p6 = some v6) :
    Below w.heap.size w w1 ∧ w1.cell? p0 = some v0 ∧ w1.cell? p1 = some v1 ∧ w1.cell? p2 = some v2 ∧ w1.cell? p3 = some v3 ∧ w1.cell? p4 = some v4 ∧ w1.cell? p5 = some v5 ∧ w1.cell? p6 = some v6 := by
  obtain ⟨q, q0, q1, q2, q3, q4, q5, q6⟩ := h
  exact ⟨q.trans (hb.mono q.size), (hb.cell (cell_there q0).1).trans q0, (hb.cell (cell_there q1).1).trans q1, (hb.cell (cell_there q2).1).trans q2, (hb.cell (cell_there q3).1).trans q3, (hb.cell (cell_there q4).1).trans q4, (hb.cell (cell_there q5).1).trans q5, (hb.cell (cell_there q6).1).trans q6⟩

theorem held_12_0 {w W w1 : World} {p0 p1 p2 p3 p4 p5 p6 p7 p8 p9 p10 p11 : Addr} {v0 v1 v2 v3 v4 v5 v6 v7 v8 v9 v10 v11 : Value} (hb : Below W.heap.size W w1) (h : Below w.heap.size w W ∧ W.cell? p0 = some v0 ∧ W.cell? p1 = some v1 ∧ W.cell? p2 = some v2 ∧ W.cell? p3 = some v3 ∧ W.cell? p4 = some v4 ∧ W.cell? p5 = some v5 ∧ W.cell? p6 = some v6 ∧ W.cell? p7 = some v7 ∧ W.cell? p8 = some v8 ∧ W.cell? p9 = some v9 ∧ W.cell? p10 = some v10 ∧ W.cell? p11 = some v11) :
    Below w.heap.size w w1 ∧ w1.cell? p0 = some v0 ∧ w1.cell? p1 = some v1 ∧ w1.cell? p2 = some v2 ∧ w1.cell? p3 = some v3 ∧ w1.cell? p4 = some v4 ∧ w1.cell? p5 = some v5 ∧ w1.cell? p6 = some v6 ∧ w1.cell? p7 = some v7 ∧ w1.cell? p8 = some v8 ∧ w1.cell? p9 = some v9 ∧ w1.cell? p10 = some v10 ∧ w1.cell? p11 = some v11 := by
  obtain ⟨q, q0, q1, q2, q3, q4, q5, q6, q7, q8, q9, q10, q11⟩ := h
  exact ⟨q.trans (hb.mono q.size), (hb.cell (cell_there q0).1).trans q0, (hb.cell (cell_there q1).1).trans q1, (hb.cell (cell_there q2).1).trans q2, (hb.cell (cell_there q3).1).trans q3, (hb.cell (cell_there q4).1).trans q4, (hb.cell (cell_there q5).1).trans q5, (hb.cell (cell_there q6).1).trans q6, (hb.cell (cell_there q7).1).trans q7, (hb.cell (cell_there q8).1).trans q8, (hb.cell (cell_there q9).1).trans q9, (hb.cell (cell_there q10).1).trans q10, (hb.cell (cell_there q11).1).trans q11⟩

theorem held_13_0 {w W w1 : World} {p0 p1 p2 p3 p4 p5 p6 p7 p8 p9 p10 p11 p12 : Addr} {v0 v1 v2 v3 v4 v5 v6 v7 v8 v9 v10 v11 v12 : Value} (hb : Below W.heap.size W w1) (h : Below w.heap.size w W ∧ W.cell? p0 = some v0 ∧ W.cell? p1 = some v1 ∧ W.cell? p2 = some v2 ∧ W.cell? p3 = some v3 ∧ W.cell? p4 = some v4 ∧ W.cell? p5 = some v5 ∧ W.cell? p6 = some v6 ∧ W.cell? p7 = some v7 ∧ W.cell? p8 = some v8 ∧ W.cell? p9 = some v9 ∧ W.cell? p10 = some v10 ∧ W.cell? p11 = some v11 ∧ W.cell? p12 = some v12) :
    Below w.heap.size w w1 ∧ w1.cell? p0 = some v0 ∧ w1.cell? p1 = some v1 ∧ w1.cell? p2 = some v2 ∧ w1.cell? p3 = some v3 ∧ w1.cell? p4 = some v4 ∧ w1.cell? p5 = some v5 ∧ w1.cell? p6 = some v6 ∧ w1.cell? p7 = some v7 ∧ w1.cell? p8 = some v8 ∧ w1.cell? p9 = some v9 ∧ w1.cell? p10 = some v10 ∧ w1.cell? p11 = some v11 ∧ w1.cell? p12 = some v12 := by
  obtain ⟨q, q0, q1, q2, q3, q4, q5, q6, q7, q8, q9, q10, q11, q12⟩ := h
  exact ⟨q.trans (hb.mono q.size), (hb.cell (cell_there q0).1).trans q0, (hb.cell (cell_there q1).1).trans q1, (hb.cell (cell_there q2).1).trans q2, (hb.cell (cell_there q3).1).trans q3, (hb.cell (cell_there q4).1).trans q4, (hb.cell (cell_there q5).1).trans q5, (hb.cell (cell_there q6).1).trans q6, (hb.cell (cell_there q7).1).trans q7, (hb.cell (cell_there q8).1).trans q8, (hb.cell (cell_there q9).1).trans q9, (hb.cell (cell_there q10).1).trans q10, (hb.cell (cell_there q11).1).trans q11, (hb.cell (cell_there q12).1).trans q12⟩

end Go.Proofs.Ytnknpgfconfgjaa

/-
  Rows of 128 bits as plain data.
-/
namespace Go.Proofs.Ytnknpgfconfgjaa
open Go.RowKit

/-- The cells of a row of 128 bits. -/
def rowA (f : Nat → Bool) : Array Value := (Array.range 128).map fun i => .bool (f i)
theorem rowA_size (f : Nat → Bool) : (rowA f).size = 128 := by simp [rowA]
theorem rowA_at (f : Nat → Bool) (i : Nat) (h : i < 128) : (rowA f)[i]? = some (.bool (f i)) := by simp [rowA, h]
theorem rowA_one (f : Nat → Bool) : (rowA f).all (·.oneCell') = true := by
  rw [Array.all_eq_true_iff_forall_mem]
  intro v hv
  simp only [rowA, Array.mem_map] at hv
  obtain ⟨i, -, rfl⟩ := hv
  rfl
theorem rowA_congr {f g : Nat → Bool} (h : ∀ i, i < 128 → f i = g i) : rowA f = rowA g := by
  apply Array.ext
  · simp [rowA]
  · intro i h1 h2
    simp only [rowA, Array.size_map, Array.size_range] at h1
    simp [rowA, h i h1]
/-- A row where one bit is another one. -/
def put (f : Nat → Bool) (i : Nat) (b : Bool) : Nat → Bool := fun j => if j = i then b else f j
theorem rowA_put (f : Nat → Bool) (i : Nat) (b : Bool) : (rowA f).setIfInBounds i (.bool b) = rowA (put f i b) := by
  apply Array.ext
  · simp [rowA]
  · intro j h1 h2
    simp only [rowA, Array.size_setIfInBounds, Array.size_map, Array.size_range] at h1
    rw [Array.getElem_setIfInBounds (by simpa [rowA] using h1)]
    simp only [rowA, Array.getElem_map, Array.getElem_range, put]
    by_cases e : i = j
    · subst e; simp
    · rw [if_neg e, if_neg (fun h => e h.symm)]

end Go.Proofs.Ytnknpgfconfgjaa

/-
  Contracts of package num (and of the reference's Of), over the seat's program: what each returns, as natural numbers' own operations.
-/
namespace Go.Proofs.Ytnknpgfconfgjaa
open Go.RowKit

/-- A number is handed back; nothing that was has changed. -/
def RetNum (w : World) (n : Nat) (e : Ending) (w' : World) : Prop := e = .returned (numV n) ∧ Below w.heap.size w w'

set_option maxRecDepth 100000 in
set_option maxHeartbeats 400000 in
theorem or1_any (a b : Int) (w : World) :
    Calls Try.prog 83 #[.int .u64 a, .int .u64 b] w fun e w' => e = .returned (.int .u64 (bits BinOp.or IntKind.u64 a b)) ∧ w' = w := by
  go_enter Try.func83, Try.ntmps83
  go_wp2
  go_ret
  exact ⟨rfl, rfl⟩

set_option maxRecDepth 100000 in
set_option maxHeartbeats 400000 in
theorem both_or (a b c d : Int) (w : World) :
    Calls Try.prog 74 #[.agg #[.int .u64 a, .int .u64 b], .agg #[.int .u64 c, .int .u64 d], .func (Fn.func 83) #[] #[]] w fun e w' => e = .returned (.agg #[.int .u64 (bits BinOp.or IntKind.u64 a c), .int .u64 (bits BinOp.or IntKind.u64 b d)]) ∧ Below w.heap.size w w' := by
  go_enter Try.func74, Try.ntmps74
  go_wp2
  refine wp_region_still_tail 13 (by kernel_rfl) (by kernel_rfl) ?_
  simp only [List.take_succ_cons, List.take_zero, List.drop_succ_cons, List.drop_zero]
  change wpStill _ _ (World.drew _) _ _ _
  repeat (first | still_step | still_call (or1_any _ _ _))
  refine wpStill_nil ?_
  change wpList _ _ _ _ _ (World.drew _)
  go_wp2
  exact bodyPost_ret (v := .agg #[.int .u64 (bits BinOp.or IntKind.u64 a c), .int .u64 (bits BinOp.or IntKind.u64 b d)]) (by simp [results, Try.results74, go_sem]) rfl ⟨rfl, (by repeat (first | exact Below.refl _ _ | assumption | refine Below.drew ?_ | refine Below.alloc ?_ (by first | omega | (simp <;> omega)) _ | refine Below.setCell ?_ (by first | omega | (simp <;> omega)) _ | refine Below.trans ?_ (Below.mono (by assumption) (by first | omega | (simp <;> omega)))))⟩

set_option maxRecDepth 100000 in
set_option maxHeartbeats 400000 in
theorem or_any (a b c d : Int) (w : World) :
    Calls Try.prog 68 #[.agg #[.int .u64 a, .int .u64 b], .agg #[.int .u64 c, .int .u64 d]] w fun e w' => e = .returned (.agg #[.int .u64 (bits BinOp.or IntKind.u64 a c), .int .u64 (bits BinOp.or IntKind.u64 b d)]) ∧ Below w.heap.size w w' := by
  go_enter Try.func68, Try.ntmps68
  go_wp2_with (go_at_call 74; refine (both_or _ _ _ _ _).mono ?_; rintro e w1 ⟨rfl, hb⟩; obtain ⟨hc, hf⟩ := bcell hb; have hz := hb.size; simp at hz)
  exact bodyPost_ret (v := .agg #[.int .u64 (bits BinOp.or IntKind.u64 a c), .int .u64 (bits BinOp.or IntKind.u64 b d)]) (by simp [results, Try.results68, go_sem, hc, hf, hz]) rfl ⟨rfl, (by repeat (first | exact Below.refl _ _ | assumption | refine Below.drew ?_ | refine Below.alloc ?_ (by first | omega | (simp <;> omega)) _ | refine Below.setCell ?_ (by first | omega | (simp <;> omega)) _ | refine Below.trans ?_ (Below.mono (by assumption) (by first | omega | (simp <;> omega)))))⟩

set_option maxRecDepth 100000 in
set_option maxHeartbeats 400000 in
theorem and1_any (a b : Int) (w : World) :
    Calls Try.prog 75 #[.int .u64 a, .int .u64 b] w fun e w' => e = .returned (.int .u64 (bits BinOp.and IntKind.u64 a b)) ∧ w' = w := by
  go_enter Try.func75, Try.ntmps75
  go_wp2
  go_ret
  exact ⟨rfl, rfl⟩

set_option maxRecDepth 100000 in
set_option maxHeartbeats 400000 in
theorem both_and (a b c d : Int) (w : World) :
    Calls Try.prog 74 #[.agg #[.int .u64 a, .int .u64 b], .agg #[.int .u64 c, .int .u64 d], .func (Fn.func 75) #[] #[]] w fun e w' => e = .returned (.agg #[.int .u64 (bits BinOp.and IntKind.u64 a c), .int .u64 (bits BinOp.and IntKind.u64 b d)]) ∧ Below w.heap.size w w' := by
  go_enter Try.func74, Try.ntmps74
  go_wp2
  refine wp_region_still_tail 13 (by kernel_rfl) (by kernel_rfl) ?_
  simp only [List.take_succ_cons, List.take_zero, List.drop_succ_cons, List.drop_zero]
  change wpStill _ _ (World.drew _) _ _ _
  repeat (first | still_step | still_call (and1_any _ _ _))
  refine wpStill_nil ?_
  change wpList _ _ _ _ _ (World.drew _)
  go_wp2
  exact bodyPost_ret (v := .agg #[.int .u64 (bits BinOp.and IntKind.u64 a c), .int .u64 (bits BinOp.and IntKind.u64 b d)]) (by simp [results, Try.results74, go_sem]) rfl ⟨rfl, (by repeat (first | exact Below.refl _ _ | assumption | refine Below.drew ?_ | refine Below.alloc ?_ (by first | omega | (simp <;> omega)) _ | refine Below.setCell ?_ (by first | omega | (simp <;> omega)) _ | refine Below.trans ?_ (Below.mono (by assumption) (by first | omega | (simp <;> omega)))))⟩

set_option maxRecDepth 100000 in
set_option maxHeartbeats 400000 in
theorem and_any (a b c d : Int) (w : World) :
    Calls Try.prog 42 #[.agg #[.int .u64 a, .int .u64 b], .agg #[.int .u64 c, .int .u64 d]] w fun e w' => e = .returned (.agg #[.int .u64 (bits BinOp.and IntKind.u64 a c), .int .u64 (bits BinOp.and IntKind.u64 b d)]) ∧ Below w.heap.size w w' := by
  go_enter Try.func42, Try.ntmps42
  go_wp2_with (go_at_call 74; refine (both_and _ _ _ _ _).mono ?_; rintro e w1 ⟨rfl, hb⟩; obtain ⟨hc, hf⟩ := bcell hb; have hz := hb.size; simp at hz)
  exact bodyPost_ret (v := .agg #[.int .u64 (bits BinOp.and IntKind.u64 a c), .int .u64 (bits BinOp.and IntKind.u64 b d)]) (by simp [results, Try.results42, go_sem, hc, hf, hz]) rfl ⟨rfl, (by repeat (first | exact Below.refl _ _ | assumption | refine Below.drew ?_ | refine Below.alloc ?_ (by first | omega | (simp <;> omega)) _ | refine Below.setCell ?_ (by first | omega | (simp <;> omega)) _ | refine Below.trans ?_ (Below.mono (by assumption) (by first | omega | (simp <;> omega)))))⟩

theorem numAnd_any (a b : Nat) (w : World) (ha : a < B * B) (hb : b < B * B) : Calls Try.prog 42 #[numV a, numV b] w (RetNum w (a &&& b)) :=
  (and_any _ _ _ _ w).mono fun e w' ⟨h1, h2⟩ => ⟨by rw [h1, and_num a b ha hb], h2⟩

end Go.Proofs.Ytnknpgfconfgjaa

/-
  Contracts of quillonref01.Bits and Num.
-/
namespace Go.Proofs.Ytnknpgfconfgjaa
open Go.RowKit

theorem below_setRow {B : Nat} {w w1 : World} (h : Below B w w1) {g : Nat} (hg : B ≤ g) (cs : Array Value) : Below B w (w1.setRow g cs) :=
  ⟨h.os, h.tape, h.output, by simpa using h.size, fun k hk => (setRow_other w1 g k cs (by omega)).trans (h.block k hk)⟩
theorem infoRow : (Try.prog.info? 70).map (·.size) = some 128 := by kernel_rfl

/-- What holds at a round's head of Bits. -/
def BitsAt (w : World) (n k : Nat) (wr : World) : Prop :=
  wr.heap[w.heap.size + 1 + 1]? = some (.cells (rowA fun j => (decide (j < k) || (decide (64 ≤ j) && decide (j < 64 + k))) && n.testBit j) 70 (0, 0)) ∧
  wr.heap[w.heap.size + 1]? = some (.cells (rowA fun _ => false) 70 (0, 0)) ∧
  wr.heap[w.heap.size]? = some (.cells #[.int .u64 ((n / B / 2 ^ k : Nat) : Int), .int .u64 ((n % B / 2 ^ k : Nat) : Int)] 24 (0, 0)) ∧ Below w.heap.size w wr

theorem BitsAt.cells {w wr : World} {n k : Nat} (h : BitsAt w n k wr) :
    wr.cell? ⟨w.heap.size, 0, none⟩ = some (.int .u64 ((n / B / 2 ^ k : Nat) : Int)) ∧ wr.cell? ⟨w.heap.size, 1, none⟩ = some (.int .u64 ((n % B / 2 ^ k : Nat) : Int)) ∧
    (∀ j, wr.frozen? ⟨w.heap.size, j, none⟩ = false) ∧ (∀ j, wr.frozen? ⟨w.heap.size + 1 + 1, j, none⟩ = false) ∧
    (∀ j, j < 128 → ∃ b, wr.cell? ⟨w.heap.size + 1 + 1, j, none⟩ = some (.bool b)) := by
  obtain ⟨h1, h2, h3, h4⟩ := h
  refine ⟨?_, ?_, fun j => ?_, fun j => ?_, fun j hj => ?_⟩
  · simp [World.cell?, h3]
  · simp [World.cell?, h3]
  · simp [World.frozen?, h3]
  · simp [World.frozen?, h1]
  · exact ⟨_, by rw [cell_of_row wr _ j _ _ _ h1]; exact rowA_at _ j hj⟩

theorem heap_new (w : World) (o : Obj) : (w.alloc o).heap[w.heap.size]? = some o := by
  show (w.heap.push o)[w.heap.size]? = _
  simp
theorem setCell_row {w : World} {g i : Nat} {f : Nat → Bool} {t : TypeId} (b : Bool) (h : w.heap[g]? = some (.cells (rowA f) t (0, 0))) : (w.setCell ⟨g, i, none⟩ (.bool b)).heap[g]? = some (.cells (rowA (put f i b)) t (0, 0)) := by
  rw [heap_setCell_same w g i _ t _ h, rowA_put]
theorem setCell_heap {w : World} {g i k : Nat} {v : Value} (h : k ≠ g) : (w.setCell ⟨g, i, none⟩ v).heap[k]? = w.heap[k]? := Below.heap_setCell w ⟨g, i, none⟩ v k h

theorem testBit_div (n k : Nat) : n.testBit k = (n / 2 ^ k % 2 == 1) := by
  rw [Nat.testBit_eq_decide_div_mod_eq]
  rfl
theorem testBit_high {n : Nat} (k : Nat) : n.testBit (64 + k) = (n / B / 2 ^ k % 2 == 1) := by
  rw [testBit_div, Nat.pow_add, ← Nat.div_div_eq_div_mul, B_pow]
theorem testBit_low {n : Nat} (k : Nat) (hk : k < 64) : n.testBit k = (n % B / 2 ^ k % 2 == 1) := by
  rw [← testBit_div, B_pow, Nat.testBit_mod_two_pow]
  simp [hk]

theorem BitsAt.step {w wr : World} {n k x y : Nat} (hn : n < B * B) (hx : x = n / B / 2 ^ k) (hy : y = n % B / 2 ^ k) (hk : k < 64) (h : BitsAt w n k wr) :
    BitsAt w n (k + 1) ((((wr.setCell ⟨w.heap.size + 1 + 1, k, none⟩ (.bool ((y : Int).tmod 2 == 1))).setCell ⟨w.heap.size + 1 + 1, 64 + k, none⟩ (.bool ((x : Int).tmod 2 == 1))).setCell ⟨w.heap.size, 1, none⟩ (.int .u64 (IntKind.u64.wrap ((y : Int).tdiv 2)))).setCell ⟨w.heap.size, 0, none⟩ (.int .u64 (IntKind.u64.wrap ((x : Int).tdiv 2)))) := by
  obtain ⟨h1, h2, h3, h4⟩ := h
  have tm : ∀ z : Nat, (z : Int).tmod 2 = ((z % 2 : Nat) : Int) := fun z => by rw [Int.tmod_eq_emod_of_nonneg (by omega)]; rfl
  have td : ∀ z : Nat, z < B → IntKind.u64.wrap ((z : Int).tdiv 2) = ((z / 2 : Nat) : Int) := fun z hz => by
    rw [Int.tdiv_eq_ediv_of_nonneg (by omega), show ((z : Int) / 2) = ((z / 2 : Nat) : Int) from rfl, wrap_cast, Nat.mod_eq_of_lt (by omega)]
  have hxB : x < B := by rw [hx]; exact Nat.lt_of_le_of_lt (Nat.div_le_self _ _) (half_lt hn)
  have hyB : y < B := by rw [hy]; exact Nat.lt_of_le_of_lt (Nat.div_le_self _ _) (low_lt n)
  have ex : ((x : Int).tmod 2 == 1) = n.testBit (64 + k) := by
    rw [tm, testBit_high, ← hx, Bool.eq_iff_iff, beq_iff_eq, beq_iff_eq]
    omega
  have ey : ((y : Int).tmod 2 == 1) = n.testBit k := by
    rw [tm, testBit_low k hk, ← hy, Bool.eq_iff_iff, beq_iff_eq, beq_iff_eq]
    omega
  have dx : IntKind.u64.wrap ((x : Int).tdiv 2) = ((n / B / 2 ^ (k + 1) : Nat) : Int) := by rw [td x hxB, Nat.pow_succ, ← Nat.div_div_eq_div_mul, ← hx]
  have dy : IntKind.u64.wrap ((y : Int).tdiv 2) = ((n % B / 2 ^ (k + 1) : Nat) : Int) := by rw [td y hyB, Nat.pow_succ, ← Nat.div_div_eq_div_mul, ← hy]
  rw [ex, ey, dx, dy]
  refine ⟨?_, ?_, ?_, ?_⟩
  · rw [setCell_heap (by omega), setCell_heap (by omega), setCell_row _ (setCell_row _ h1)]
    congr 2
    apply rowA_congr
    intro j hj
    simp only [put]
    by_cases e1 : j = 64 + k
    · subst e1
      simp
    · by_cases e2 : j = k
      · subst e2
        rw [if_neg e1, if_pos rfl]
        simp
      · rw [if_neg e1, if_neg e2]
        have a1 : decide (j < k + 1) = decide (j < k) := by simp; omega
        have a2 : decide (j < 64 + (k + 1)) = decide (j < 64 + k) := by simp; omega
        rw [a1, a2]
  · rw [setCell_heap (by omega), setCell_heap (by omega), setCell_heap (by omega), setCell_heap (by omega)]
    exact h2
  · have q : (((wr.setCell ⟨w.heap.size + 1 + 1, k, none⟩ (.bool (n.testBit k))).setCell ⟨w.heap.size + 1 + 1, 64 + k, none⟩ (.bool (n.testBit (64 + k))))).heap[w.heap.size]? = some (.cells #[.int .u64 ((n / B / 2 ^ k : Nat) : Int), .int .u64 ((n % B / 2 ^ k : Nat) : Int)] 24 (0, 0)) := by
      rw [setCell_heap (by omega), setCell_heap (by omega)]
      exact h3
    have q1 := heap_setCell_same _ w.heap.size 1 _ _ (.int .u64 ((n % B / 2 ^ (k + 1) : Nat) : Int)) q
    have q2 := heap_setCell_same _ w.heap.size 0 _ _ (.int .u64 ((n / B / 2 ^ (k + 1) : Nat) : Int)) q1
    rw [q2]
    rfl
  · exact (((h4.setCell (by show _ ≤ w.heap.size + 1 + 1; omega) _).setCell (by show _ ≤ w.heap.size + 1 + 1; omega) _).setCell (Nat.le_refl _) _).setCell (Nat.le_refl _) _

set_option maxRecDepth 100000 in
set_option maxHeartbeats 1600000 in
theorem refBits_any (n : Nat) (hn : n < B * B) (w : World) :
    Calls Try.prog 24 #[numV n] w fun e w' => e = .returned (.agg (rowA n.testBit)) ∧ Below w.heap.size w w' := by
  obtain ⟨hi, lo, he, hhi, hlo⟩ := numV_parts n
  rw [he]
  have hi0 : hi < B := by rw [hhi]; exact half_lt hn
  have lo0 : lo < B := by rw [hlo]; exact low_lt n
  have HN : Hid (hi = n / B ∧ lo = n % B) := ⟨hhi, hlo⟩
  clear he hhi hlo
  go_enter Try.func24, Try.ntmps24
  go_wp2_with fail
  obtain ⟨A, hA⟩ : ∃ A, A = ((w.alloc (.cells #[.int .u64 (hi : Int), .int .u64 (lo : Int)] 24)).alloc (.cells Try.zeroCells70 70)).alloc (.cells Try.zeroCells70 70) := ⟨_, rfl⟩
  have ez : Try.zeroCells70 = rowA fun _ => false := by kernel_rfl
  have H0 : Hid (BitsAt w n 0 A) := by
    show BitsAt w n 0 A
    refine ⟨?_, ?_, ?_, by rw [hA]; exact (by repeat (first | exact Below.refl _ _ | assumption | refine Below.drew ?_ | refine Below.alloc ?_ (by first | omega | (simp <;> omega)) _ | refine Below.setCell ?_ (by first | omega | (simp <;> omega)) _ | refine Below.trans ?_ (Below.mono (by assumption) (by first | omega | (simp <;> omega)))))⟩
    · rw [hA, ez]
      have := heap_new ((w.alloc (.cells #[.int .u64 (hi : Int), .int .u64 (lo : Int)] 24)).alloc (.cells (rowA fun _ => false) 70)) (.cells (rowA fun _ => false) 70)
      simp only [World.size_alloc] at this
      rw [this]
      congr 2
      apply rowA_congr
      intro i hi
      simp
      omega
    · rw [hA, ez, Below.heap_alloc _ _ _ (by simp)]
      have := heap_new (w.alloc (.cells #[.int .u64 (hi : Int), .int .u64 (lo : Int)] 24)) (.cells (rowA fun _ => false) 70)
      simp only [World.size_alloc] at this
      exact this
    · rw [hA, Below.heap_alloc _ _ _ (by simp; omega), Below.heap_alloc _ _ _ (by simp), heap_new, HN.out.1, HN.out.2]
      simp
  rw [← hA]
  clear hA ez
  go_loopw [4] (fun i wr => ∃ k : Nat, k ≤ 64 ∧ i = .int .i64 k ∧ Hid (BitsAt w n k wr)) (fun i _ => 64 - (intOf i).toNat)
  case atStart => exact ⟨0, Nat.zero_le _, rfl, H0⟩
  case round =>
    obtain ⟨k, hk, rfl, HK⟩ := hrel
    by_cases hlt : k < 64
    · obtain ⟨c0, c1, f0, f2, cr⟩ := HK.out.cells
      obtain ⟨x, hx⟩ : ∃ x, x = n / B / 2 ^ k := ⟨_, rfl⟩
      obtain ⟨y, hy⟩ : ∃ y, y = n % B / 2 ^ k := ⟨_, rfl⟩
      rw [← hx] at c0
      rw [← hy] at c1
      have HX := Lib.hid hx
      have HY := Lib.hid hy
      clear hx hy
      obtain ⟨b1, r1⟩ := cr k (by omega)
      obtain ⟨b2, r2⟩ := cr (64 + k) (by omega)
      clear cr
      have HS := Lib.hid (BitsAt.step hn HX.out HY.out hlt HK.out)
      go_wp2_with fail
      go_roundw
      case rel => exact ⟨k + 1, by omega, by go_num, HS⟩
      case measure => simp [intOf]; omega
    · obtain rfl : k = 64 := by omega
      obtain ⟨h1, h2, h3, h4⟩ := HK.out
      have HB4 := Lib.hid h4
      have e64 : (rowA fun j => (decide (j < 64) || (decide (64 ≤ j) && decide (j < 64 + 64))) && n.testBit j) = rowA n.testBit := by
        apply rowA_congr
        intro j hj
        by_cases e : j < 64
        · simp [e]
        · have e1 : decide (64 ≤ j) = true := by simp; omega
          have e2 : decide (j < 64 + 64) = true := by simp; omega
          rw [e1, e2]
          simp
      rw [e64] at h1
      clear e64 h3 h4 H0
      go_wp2_with (first
        | (refine wpList_load_row rfl 70 (.tmp 3) rfl (w.heap.size + 1 + 1) rfl 70 (rowA n.testBit) (0, 0) _ h1 Try.underlying70 rfl (by rw [rowA_size]; exact infoRow) ?_)
        | (refine wpList_store_row rfl 70 (.tmp 2) (.tmp 30) rfl (w.heap.size + 1) (rowA n.testBit) rfl rfl 70 (rowA fun _ => false) h2 (by rw [rowA_size]; exact infoRow) (by rw [rowA_size, rowA_size]) (rowA_one _) ?_))
      have hg : (wr.setRow (w.heap.size + 1) (rowA n.testBit)).heap[w.heap.size + 1]? = some (.cells (rowA n.testBit) 70 (0, 0)) := setRow_heap _ _ _ _ _ _ h2
      exact bodyPost_ret (v := .agg (rowA n.testBit)) (results_cell_row Try.results24 _ _ (w.heap.size + 1) _ _ _ _ (by simp [go_sem]) hg Try.underlying70 rfl (by rw [rowA_size]; exact infoRow)) rfl ⟨rfl, below_setRow HB4.out (by omega) _⟩

end Go.Proofs.Ytnknpgfconfgjaa

/-
  The contract of quillonref01.Bit (as in a seat that holds Bits alone).
-/
namespace Go.Proofs.Ytnknpgfconfgjaa
open Go.RowKit

def bitB (n : Nat) (i : Int) : Bool := decide (0 ≤ i) && decide (i < 128) && n.testBit i.toNat

theorem newRow {w : World} (f : Nat → Bool) : ((w.alloc (.cells Try.zeroCells70 70)).setRow w.heap.size (rowA f)).heap[w.heap.size]? = some (.cells (rowA f) 70 (0, 0)) ∧
    Below w.heap.size w ((w.alloc (.cells Try.zeroCells70 70)).setRow w.heap.size (rowA f)) :=
  ⟨setRow_heap _ _ _ _ _ _ (heap_new _ _), below_setRow ((Below.refl _ _).alloc (Nat.le_refl _) _) (Nat.le_refl _) _⟩

set_option maxRecDepth 100000 in
set_option maxHeartbeats 1000000 in
theorem refBit_any (n : Nat) (i : Int) (hn : n < B * B) (w : World) :
    Calls Try.prog 43 #[numV n, .int .i64 i] w fun e w' => e = .returned (.bool (bitB n i)) ∧ Below w.heap.size w w' := by
  obtain ⟨f, hf⟩ : ∃ f, f = n.testBit := ⟨_, rfl⟩
  have HA : Hid (∀ W, Calls Try.prog 24 #[numV n] W fun e w' => e = .returned (.agg (rowA f)) ∧ Below W.heap.size W w') := fun W => by rw [hf]; exact refBits_any n hn W
  have HF := Lib.hid hf
  obtain ⟨h1, l1, e1, -, -⟩ := numV_parts n
  rw [e1] at HA ⊢
  clear e1 hf
  go_enter Try.func43, Try.ntmps43
  go_wp2_with fail
  refine (HA.out _).mono ?_
  rintro e w1 ⟨rfl, hb1⟩
  have HB1 : Hid (Below w.heap.size w w1) := ((Below.refl w.heap.size w).alloc (Nat.le_refl _) _).trans (hb1.mono (by simp))
  have hs1 := HB1.out.size
  have HNW := Lib.hid (heap_new w1 (.cells Try.zeroCells70 70))
  obtain ⟨n1, n2⟩ := newRow (w := w1) f
  have HN1 := Lib.hid n1
  have HB2 : Hid (Below w.heap.size w ((w1.alloc (.cells Try.zeroCells70 70)).setRow w1.heap.size (rowA f))) := HB1.out.trans (n2.mono hs1)
  have HZS : Hid ((Try.zeroCells70).size = 128) := by
    show _ = _
    have hZ : Try.zeroCells70 = rowA fun _ => false := by kernel_rfl
    rw [hZ]; exact rowA_size _
  clear hb1 HA n1 n2
  by_cases h0 : i < 0
  · have HE : Hid (bitB n i = false) := by show _ = _; unfold bitB; simp; omega
    have h0' : decide (0 ≤ i) = false := by simp; omega
    go_wp2_with (refine wpList_store_row rfl 70 (.tmp 5) (.tmp 7) rfl w1.heap.size (rowA f) rfl rfl 70 _ HNW.out (by rw [rowA_size]; exact infoRow) (by rw [rowA_size]; exact HZS.out) (rowA_one _) ?_)
    go_ret
    exact ⟨by rw [HE.out]; rfl, HB2.out⟩
  · by_cases h1 : 128 ≤ i
    · have HE : Hid (bitB n i = false) := by show _ = _; unfold bitB; simp; omega
      go_wp2_with (refine wpList_store_row rfl 70 (.tmp 5) (.tmp 7) rfl w1.heap.size (rowA f) rfl rfl 70 _ HNW.out (by rw [rowA_size]; exact infoRow) (by rw [rowA_size]; exact HZS.out) (rowA_one _) ?_)
      go_ret
      exact ⟨by rw [HE.out]; rfl, HB2.out⟩
    · obtain ⟨j, rfl⟩ : ∃ j : Nat, i = (j : Int) := ⟨i.toNat, by omega⟩
      have hj : j < 128 := by omega
      have hcell : ((w1.alloc (.cells Try.zeroCells70 70)).setRow w1.heap.size (rowA f)).cell? ⟨w1.heap.size, j, none⟩ = some (.bool (f j)) := by rw [cell_of_row _ _ j _ _ _ HN1.out]; exact rowA_at _ j hj
      have HE : Hid (bitB n (j : Int) = f j) := by show _ = _; unfold bitB; rw [HF.out]; simp; omega
      go_wp2_with (refine wpList_store_row rfl 70 (.tmp 5) (.tmp 7) rfl w1.heap.size (rowA f) rfl rfl 70 _ HNW.out (by rw [rowA_size]; exact infoRow) (by rw [rowA_size]; exact HZS.out) (rowA_one _) ?_)
      go_ret
      exact ⟨by rw [HE.out]; rfl, HB2.out⟩

end Go.Proofs.Ytnknpgfconfgjaa

/-
  match.Ahead, match.Agrees and the document's.
-/
namespace Go.Proofs.Ytnknpgfconfgjaa
open Go.RowKit

/-- Does the first go ahead of the second? (Priority, length.) -/
def ahd (p1 l1 p2 l2 : Int) : Bool := decide (p2 < p1) || (decide (p1 = p2) && decide (l2 < l1))
theorem ahd_ne {p1 l1 p2 l2 : Int} (h : p1 ≠ p2) : ahd p1 l1 p2 l2 = decide (p2 < p1) := by unfold ahd; simp [h]
theorem ahd_eq {p l1 l2 : Int} : ahd p l1 p l2 = decide (l2 < l1) := by unfold ahd; simp

set_option maxRecDepth 100000 in
set_option maxHeartbeats 800000 in
theorem ahead_any (t1 l1 q1 a1 t2 l2 q2 a2 : Int) (p1 r1 p2 r2 : Option Addr) (n1 c1 m1 d1 n2 c2 m2 d2 : Nat) (w : World) :
    Calls Try.prog 35 #[.agg #[.int .i64 t1, .slice p1 n1 c1, .int .i64 l1, .int .i64 q1, .int .i64 a1, .slice r1 m1 d1], .agg #[.int .i64 t2, .slice p2 n2 c2, .int .i64 l2, .int .i64 q2, .int .i64 a2, .slice r2 m2 d2]] w
      fun e w' => e = .returned (.bool (ahd q1 l1 q2 l2)) ∧ Below w.heap.size w w' := by
  by_cases h : q1 = q2
  · subst h
    have hA : Hid (ahd q1 l1 q1 l2 = decide (l2 < l1)) := ahd_eq
    go_enter Try.func35, Try.ntmps35
    go_wp2
    go_ret
    exact ⟨by rw [hA.out]; rfl, (by repeat (first | exact Below.refl _ _ | assumption | refine Below.drew ?_ | refine Below.alloc ?_ (by first | omega | (simp <;> omega)) _ | refine Below.setCell ?_ (by first | omega | (simp <;> omega)) _ | refine Below.trans ?_ (Below.mono (by assumption) (by first | omega | (simp <;> omega)))))⟩
  · have hA : Hid (ahd q1 l1 q2 l2 = decide (q2 < q1)) := ahd_ne h
    go_enter Try.func35, Try.ntmps35
    go_wp2
    go_ret
    exact ⟨by rw [hA.out]; rfl, (by repeat (first | exact Below.refl _ _ | assumption | refine Below.drew ?_ | refine Below.alloc ?_ (by first | omega | (simp <;> omega)) _ | refine Below.setCell ?_ (by first | omega | (simp <;> omega)) _ | refine Below.trans ?_ (Below.mono (by assumption) (by first | omega | (simp <;> omega)))))⟩

set_option maxRecDepth 100000 in
set_option maxHeartbeats 800000 in
theorem refAhead_any (t1 l1 q1 a1 t2 l2 q2 a2 : Int) (p1 r1 p2 r2 : Option Addr) (n1 c1 m1 d1 n2 c2 m2 d2 : Nat) (w : World) :
    Calls Try.prog 36 #[.agg #[.int .i64 t1, .slice p1 n1 c1, .int .i64 l1, .int .i64 q1, .int .i64 a1, .slice r1 m1 d1], .agg #[.int .i64 t2, .slice p2 n2 c2, .int .i64 l2, .int .i64 q2, .int .i64 a2, .slice r2 m2 d2]] w
      fun e w' => e = .returned (.bool (ahd q1 l1 q2 l2)) ∧ Below w.heap.size w w' := by
  by_cases h : q2 < q1
  · have hA : Hid (ahd q1 l1 q2 l2 = true) := by show _ = _; unfold ahd; simp [h]
    go_enter Try.func36, Try.ntmps36
    go_wp2
    go_ret
    exact ⟨by rw [hA.out]; rfl, (by repeat (first | exact Below.refl _ _ | assumption | refine Below.drew ?_ | refine Below.alloc ?_ (by first | omega | (simp <;> omega)) _ | refine Below.setCell ?_ (by first | omega | (simp <;> omega)) _ | refine Below.trans ?_ (Below.mono (by assumption) (by first | omega | (simp <;> omega)))))⟩
  · by_cases h2 : q1 = q2
    · subst h2
      have hA : Hid (ahd q1 l1 q1 l2 = decide (l2 < l1)) := ahd_eq
      go_enter Try.func36, Try.ntmps36
      go_wp2
      go_ret
      exact ⟨by rw [hA.out]; rfl, (by repeat (first | exact Below.refl _ _ | assumption | refine Below.drew ?_ | refine Below.alloc ?_ (by first | omega | (simp <;> omega)) _ | refine Below.setCell ?_ (by first | omega | (simp <;> omega)) _ | refine Below.trans ?_ (Below.mono (by assumption) (by first | omega | (simp <;> omega)))))⟩
    · have hA : Hid (ahd q1 l1 q2 l2 = false) := by show _ = _; unfold ahd; simp [h, h2]
      go_enter Try.func36, Try.ntmps36
      go_wp2
      go_ret
      exact ⟨by rw [hA.out]; rfl, (by repeat (first | exact Below.refl _ _ | assumption | refine Below.drew ?_ | refine Below.alloc ?_ (by first | omega | (simp <;> omega)) _ | refine Below.setCell ?_ (by first | omega | (simp <;> omega)) _ | refine Below.trans ?_ (Below.mono (by assumption) (by first | omega | (simp <;> omega)))))⟩

theorem eql_pair {a b c d : Nat} (W : World) : (Go.binOp .eql 24 (.agg #[.int .u64 (a : Int), .int .u64 (b : Int)]) (.agg #[.int .u64 (c : Int), .int .u64 (d : Int)])).run Try.prog W = .ok (.bool (decide (a = c) && decide (b = d))) W := by
  have e1 : decide (a = c) = decide ((a : Int) = c) := by simp only [decide_eq_decide]; omega
  have e2 : decide (b = d) = decide ((b : Int) = d) := by simp only [decide_eq_decide]; omega
  rw [e1, e2]
  by_cases h1 : (a : Int) = c <;> by_cases h2 : (b : Int) = d <;> simp [go_sem, h1, h2]

/-- Does a number agree with a pattern? -/
def agr (p : Pt) (n : Nat) : Bool := decide (n &&& p.m = p.v)

set_option maxRecDepth 100000 in
set_option maxHeartbeats 1600000 in
theorem agrees_any (p : Pt) (n : Nat) (w : World) (hn : n < B * B) (hv : p.v < B * B) (hm : p.m < B * B) :
    Calls Try.prog 31 #[patV p, numV n] w fun e w' => e = .returned (.bool (agr p n)) ∧ Below w.heap.size w w' := by
  unfold patV numV
  obtain ⟨v, m⟩ := p
  simp only at hv hm ⊢
  have HA : Hid (∀ W, Calls Try.prog 42 #[.agg #[.int .u64 ((n / B : Nat) : Int), .int .u64 ((n % B : Nat) : Int)], .agg #[.int .u64 ((m / B : Nat) : Int), .int .u64 ((m % B : Nat) : Int)]] W fun e w' => e = .returned (.agg #[.int .u64 (((n &&& m) / B : Nat) : Int), .int .u64 (((n &&& m) % B : Nat) : Int)]) ∧ Below W.heap.size W w') := fun W => numAnd_any n m W hn hm
  have HG : Hid (agr ⟨v, m⟩ n = (decide ((n &&& m) / B = v / B) && decide ((n &&& m) % B = v % B))) := by
    show _ = _
    unfold agr
    by_cases h : n &&& m = v
    · simp [h]
    · simp only [h, decide_false]
      symm
      rw [Bool.and_eq_false_iff]
      by_cases h2 : (n &&& m) / B = v / B
      · right
        refine decide_eq_false fun h3 => h ?_
        rw [← Nat.div_add_mod (n &&& m) B, ← Nat.div_add_mod v B, h2, h3]
      · left
        exact decide_eq_false h2
  obtain ⟨nh, e1⟩ : ∃ x, x = n / B := ⟨_, rfl⟩
  obtain ⟨nl, e2⟩ : ∃ x, x = n % B := ⟨_, rfl⟩
  obtain ⟨mh, e3⟩ : ∃ x, x = m / B := ⟨_, rfl⟩
  obtain ⟨ml, e4⟩ : ∃ x, x = m % B := ⟨_, rfl⟩
  obtain ⟨vh, e5⟩ : ∃ x, x = v / B := ⟨_, rfl⟩
  obtain ⟨vl, e6⟩ : ∃ x, x = v % B := ⟨_, rfl⟩
  obtain ⟨rh, e7⟩ : ∃ x, x = (n &&& m) / B := ⟨_, rfl⟩
  obtain ⟨rl, e8⟩ : ∃ x, x = (n &&& m) % B := ⟨_, rfl⟩
  rw [← e1, ← e2, ← e3, ← e4, ← e7, ← e8] at HA
  rw [← e5, ← e6, ← e7, ← e8] at HG
  rw [← e1, ← e2, ← e3, ← e4, ← e5, ← e6]
  clear e1 e2 e3 e4 e5 e6 e7 e8
  obtain ⟨rb, hrb⟩ : ∃ rb, rb = (decide (rh = vh) && decide (rl = vl)) := ⟨_, rfl⟩
  have heq : ∀ W, (Go.binOp .eql 24 (.agg #[.int .u64 (rh : Int), .int .u64 (rl : Int)]) (.agg #[.int .u64 (vh : Int), .int .u64 (vl : Int)])).run Try.prog W = .ok (.bool rb) W := fun W => by rw [hrb]; exact eql_pair W
  rw [← hrb] at HG
  clear hrb
  go_enter Try.func31, Try.ntmps31
  go_wp2_with fail
  have hbx : Below w.heap.size w ((w.alloc (.cells #[.int .u64 (vh : Int), .int .u64 (vl : Int), .int .u64 (mh : Int), .int .u64 (ml : Int)] 85)).alloc (.cells #[.int .u64 (nh : Int), .int .u64 (nl : Int)] 24)) := (by repeat (first | exact Below.refl _ _ | assumption | refine Below.drew ?_ | refine Below.alloc ?_ (by first | omega | (simp <;> omega)) _ | refine Below.setCell ?_ (by first | omega | (simp <;> omega)) _ | refine Below.trans ?_ (Below.mono (by assumption) (by first | omega | (simp <;> omega)))))
  generalize hX : (w.alloc (.cells #[.int .u64 (vh : Int), .int .u64 (vl : Int), .int .u64 (mh : Int), .int .u64 (ml : Int)] 85)).alloc (.cells #[.int .u64 (nh : Int), .int .u64 (nl : Int)] 24) = X at hbx
  have x0 : X.cell? ⟨w.heap.size, 0, none⟩ = some (.int .u64 (vh : Int)) := by rw [← hX]; simp [go_sem]
  have x1 : X.cell? ⟨w.heap.size, 1, none⟩ = some (.int .u64 (vl : Int)) := by rw [← hX]; simp [go_sem]
  have x2 : X.cell? ⟨w.heap.size, 2, none⟩ = some (.int .u64 (mh : Int)) := by rw [← hX]; simp [go_sem]
  have x3 : X.cell? ⟨w.heap.size, 3, none⟩ = some (.int .u64 (ml : Int)) := by rw [← hX]; simp [go_sem]
  have x4 : X.cell? ⟨w.heap.size + 1, 0, none⟩ = some (.int .u64 (nh : Int)) := by rw [← hX]; simp [go_sem]
  have x5 : X.cell? ⟨w.heap.size + 1, 1, none⟩ = some (.int .u64 (nl : Int)) := by rw [← hX]; simp [go_sem]
  have hx := Lib.hid (And.intro (below_drewN hbx 1) (And.intro x0 (And.intro x1 (And.intro x2 (And.intro x3 (And.intro x4 x5))))))
  clear hX hbx
  go_region_held3 (fun Wk => Below (w.heap.size) (w) Wk ∧ Wk.cell? ⟨w.heap.size, 0, none⟩ = some (.int .u64 (vh : Int)) ∧ Wk.cell? ⟨w.heap.size, 1, none⟩ = some (.int .u64 (vl : Int)) ∧ Wk.cell? ⟨w.heap.size, 2, none⟩ = some (.int .u64 (mh : Int)) ∧ Wk.cell? ⟨w.heap.size, 3, none⟩ = some (.int .u64 (ml : Int)) ∧ Wk.cell? ⟨w.heap.size + 1, 0, none⟩ = some (.int .u64 (nh : Int)) ∧ Wk.cell? ⟨w.heap.size + 1, 1, none⟩ = some (.int .u64 (nl : Int)))
    (first | exact hx.out | exact held_6_0 hb1 (by assumption) | assumption)
    (first
    | (go_at_call 42; (with_reducible refine (HA.out _).mono ?_); rintro e w1 ⟨rfl, hb1⟩))
  rename_i hS
  have HB := Lib.hid hS.1
  clear hS
  go_wp2_with fail
  go_ret
  exact ⟨by rw [HG.out]; rfl, HB.out⟩

end Go.Proofs.Ytnknpgfconfgjaa
