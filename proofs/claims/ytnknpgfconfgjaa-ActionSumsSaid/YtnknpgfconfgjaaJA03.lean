/-
  Lemmas, joined: Held, RowP, RefBits.
-/
import Derived.Test.YtnknpgfconfgjaaJA01
import Derived.Laws.Rows
import Derived.Laws.Tables
/-
  What a region that draws its order keeps: cells that are read, cells that are written at its end.
-/
namespace Go.Proofs.Ytnknpgfconfgjaa
open Go.RowKit

theorem cell?_some_after {W : World} {p r : Addr} (a : Value) (h : ∃ x, W.cell? p = some x) : ∃ x, (W.setCell r a).cell? p = some x := by
  obtain ⟨x, hx⟩ := h
  by_cases e : p = r
  · subst e; exact ⟨a, World.cell?_setCell_same _ _ _ hx⟩
  · exact ⟨x, (World.cell?_setCell_other _ _ _ _ (fun q => e q.symm)).trans hx⟩
theorem cell?_apart {W : World} {p : Addr} {g j : Nat} {a v : Value} (h : p.block ≠ g) (hc : W.cell? p = some v) : (W.setCell ⟨g, j, none⟩ a).cell? p = some v :=
  (World.cell?_setCell_other _ _ _ _ (fun q => h (by rw [← q]))).trans hc

theorem held_16_0 {w W w1 : World} {p0 p1 p2 p3 p4 p5 p6 p7 p8 p9 p10 p11 p12 p13 p14 p15 : Addr} {v0 v1 v2 v3 v4 v5 v6 v7 v8 v9 v10 v11 v12 v13 v14 v15 : Value} (hb : Below W.heap.size W w1) (h : Below w.heap.size w W ∧ W.cell? p0 = some v0 ∧ W.cell? p1 = some v1 ∧ W.cell? p2 = some v2 ∧ W.cell? p3 = some v3 ∧ W.cell? p4 = some v4 ∧ W.cell? p5 = some v5 ∧ W.cell? p6 = some v6 ∧ W.cell? p7 = some v7 ∧ W.cell? p8 = some v8 ∧ W.cell? p9 = some v9 ∧ W.cell? p10 = some v10 ∧ W.cell? p11 = some v11 ∧ W.cell? p12 = some v12 ∧ W.cell? p13 = some v13 ∧ W.cell? p14 = some v14 ∧ W.cell? p15 = some v15) :
    Below w.heap.size w w1 ∧ w1.cell? p0 = some v0 ∧ w1.cell? p1 = some v1 ∧ w1.cell? p2 = some v2 ∧ w1.cell? p3 = some v3 ∧ w1.cell? p4 = some v4 ∧ w1.cell? p5 = some v5 ∧ w1.cell? p6 = some v6 ∧ w1.cell? p7 = some v7 ∧ w1.cell? p8 = some v8 ∧ w1.cell? p9 = some v9 ∧ w1.cell? p10 = some v10 ∧ w1.cell? p11 = some v11 ∧ w1.cell? p12 = some v12 ∧ w1.cell? p13 = some v13 ∧ w1.cell? p14 = some v14 ∧ w1.cell? p15 = some v15 := by
  obtain ⟨q, q0, q1, q2, q3, q4, q5, q6, q7, q8, q9, q10, q11, q12, q13, q14, q15⟩ := h
  exact ⟨q.trans (hb.mono q.size), (hb.cell (cell_there q0).1).trans q0, (hb.cell (cell_there q1).1).trans q1, (hb.cell (cell_there q2).1).trans q2, (hb.cell (cell_there q3).1).trans q3, (hb.cell (cell_there q4).1).trans q4, (hb.cell (cell_there q5).1).trans q5, (hb.cell (cell_there q6).1).trans q6, (hb.cell (cell_there q7).1).trans q7, (hb.cell (cell_there q8).1).trans q8, (hb.cell (cell_there q9).1).trans q9, (hb.cell (cell_there q10).1).trans q10, (hb.cell (cell_there q11).1).trans q11, (hb.cell (cell_there q12).1).trans q12, (hb.cell (cell_there q13).1).trans q13, (hb.cell (cell_there q14).1).trans q14, (hb.cell (cell_there q15).1).trans q15⟩

theorem held_6_0 {w W w1 : World} {p0 p1 p2 p3 p4 p5 : Addr} {v0 v1 v2 v3 v4 v5 : Value} (hb : Below W.heap.size W w1) (h : Below w.heap.size w W ∧ W.cell? p0 = some v0 ∧ W.cell? p1 = some v1 ∧ W.cell? p2 = some v2 ∧ W.cell? p3 = some v3 ∧ W.cell? p4 = some v4 ∧ W.cell? p5 = some v5) :
    Below w.heap.size w w1 ∧ w1.cell? p0 = some v0 ∧ w1.cell? p1 = some v1 ∧ w1.cell? p2 = some v2 ∧ w1.cell? p3 = some v3 ∧ w1.cell? p4 = some v4 ∧ w1.cell? p5 = some v5 := by
  obtain ⟨q, q0, q1, q2, q3, q4, q5⟩ := h
  exact ⟨q.trans (hb.mono q.size), (hb.cell (cell_there q0).1).trans q0, (hb.cell (cell_there q1).1).trans q1, (hb.cell (cell_there q2).1).trans q2, (hb.cell (cell_there q3).1).trans q3, (hb.cell (cell_there q4).1).trans q4, (hb.cell (cell_there q5).1).trans q5⟩

theorem held_4_0 {w W w1 : World} {p0 p1 p2 p3 : Addr} {v0 v1 v2 v3 : Value} (hb : Below W.heap.size W w1) (h : Below w.heap.size w W ∧ W.cell? p0 = some v0 ∧ W.cell? p1 = some v1 ∧ W.cell? p2 = some v2 ∧ W.cell? p3 = some v3) :
    Below w.heap.size w w1 ∧ w1.cell? p0 = some v0 ∧ w1.cell? p1 = some v1 ∧ w1.cell? p2 = some v2 ∧ w1.cell? p3 = some v3 := by
  obtain ⟨q, q0, q1, q2, q3⟩ := h
  exact ⟨q.trans (hb.mono q.size), (hb.cell (cell_there q0).1).trans q0, (hb.cell (cell_there q1).1).trans q1, (hb.cell (cell_there q2).1).trans q2, (hb.cell (cell_there q3).1).trans q3⟩

theorem held_4_2 {w W w1 : World} {p0 p1 p2 p3 : Addr} {v0 v1 v2 v3 : Value} {g : Nat} (hb : Below W.heap.size W w1) (h : Below w.heap.size w W ∧ W.cell? p0 = some v0 ∧ W.cell? p1 = some v1 ∧ W.cell? p2 = some v2 ∧ W.cell? p3 = some v3 ∧ (∃ x, W.cell? ⟨g, 0, none⟩ = some x) ∧ (∃ x, W.cell? ⟨g, 1, none⟩ = some x) ∧ W.frozen? ⟨g, 0, none⟩ = false ∧ W.frozen? ⟨g, 1, none⟩ = false) :
    Below w.heap.size w w1 ∧ w1.cell? p0 = some v0 ∧ w1.cell? p1 = some v1 ∧ w1.cell? p2 = some v2 ∧ w1.cell? p3 = some v3 ∧ (∃ x, w1.cell? ⟨g, 0, none⟩ = some x) ∧ (∃ x, w1.cell? ⟨g, 1, none⟩ = some x) ∧ w1.frozen? ⟨g, 0, none⟩ = false ∧ w1.frozen? ⟨g, 1, none⟩ = false := by
  obtain ⟨q, q0, q1, q2, q3, ⟨x0, z0⟩, ⟨x1, z1⟩, f0, f1⟩ := h
  exact ⟨q.trans (hb.mono q.size), (hb.cell (cell_there q0).1).trans q0, (hb.cell (cell_there q1).1).trans q1, (hb.cell (cell_there q2).1).trans q2, (hb.cell (cell_there q3).1).trans q3, ⟨x0, (hb.cell (cell_there z0).1).trans z0⟩, ⟨x1, (hb.cell (cell_there z1).1).trans z1⟩, (hb.frozen (cell_there z0).1).trans f0, (hb.frozen (cell_there z1).1).trans f1⟩

set_option maxRecDepth 100000 in
set_option maxHeartbeats 1000000 in
theorem heldset_4_2 {w W : World} {p0 p1 p2 p3 : Addr} {v0 v1 v2 v3 : Value} {g : Nat} (a0 a1 : Value) (hg : w.heap.size ≤ g) (hn : p0.block ≠ g ∧ p1.block ≠ g ∧ p2.block ≠ g ∧ p3.block ≠ g) (h : Below w.heap.size w W ∧ W.cell? p0 = some v0 ∧ W.cell? p1 = some v1 ∧ W.cell? p2 = some v2 ∧ W.cell? p3 = some v3 ∧ (∃ x, W.cell? ⟨g, 0, none⟩ = some x) ∧ (∃ x, W.cell? ⟨g, 1, none⟩ = some x) ∧ W.frozen? ⟨g, 0, none⟩ = false ∧ W.frozen? ⟨g, 1, none⟩ = false) :
    Below w.heap.size w ((W.setCell ⟨g, 0, none⟩ a0).setCell ⟨g, 1, none⟩ a1) ∧ ((W.setCell ⟨g, 0, none⟩ a0).setCell ⟨g, 1, none⟩ a1).cell? p0 = some v0 ∧ ((W.setCell ⟨g, 0, none⟩ a0).setCell ⟨g, 1, none⟩ a1).cell? p1 = some v1 ∧ ((W.setCell ⟨g, 0, none⟩ a0).setCell ⟨g, 1, none⟩ a1).cell? p2 = some v2 ∧ ((W.setCell ⟨g, 0, none⟩ a0).setCell ⟨g, 1, none⟩ a1).cell? p3 = some v3 ∧ (∃ x, ((W.setCell ⟨g, 0, none⟩ a0).setCell ⟨g, 1, none⟩ a1).cell? ⟨g, 0, none⟩ = some x) ∧ (∃ x, ((W.setCell ⟨g, 0, none⟩ a0).setCell ⟨g, 1, none⟩ a1).cell? ⟨g, 1, none⟩ = some x) ∧ ((W.setCell ⟨g, 0, none⟩ a0).setCell ⟨g, 1, none⟩ a1).frozen? ⟨g, 0, none⟩ = false ∧ ((W.setCell ⟨g, 0, none⟩ a0).setCell ⟨g, 1, none⟩ a1).frozen? ⟨g, 1, none⟩ = false := by
  obtain ⟨q, q0, q1, q2, q3, ⟨x0, z0⟩, ⟨x1, z1⟩, f0, f1⟩ := h
  obtain ⟨d0, d1, d2, d3⟩ := hn
  refine ⟨((q.setCell (by exact hg) _).setCell (by exact hg) _), (cell?_apart d0 (cell?_apart d0 q0)), (cell?_apart d1 (cell?_apart d1 q1)), (cell?_apart d2 (cell?_apart d2 q2)), (cell?_apart d3 (cell?_apart d3 q3)), ?_, ?_, ?_, ?_⟩
  · exact cell?_some_after _ (cell?_some_after _ (⟨x0, z0⟩))
  · exact cell?_some_after _ (cell?_some_after _ (⟨x1, z1⟩))
  · simp only [World.frozen?_setCell]; exact f0
  · simp only [World.frozen?_setCell]; exact f1

end Go.Proofs.Ytnknpgfconfgjaa

/-
  Rows of 128 bits as plain data.
-/
namespace Go.Proofs.Ytnknpgfconfgjaa
open Go.RowKit

/-- The cells of a row of 128 bits. -/
def rowA (f : Nat → Bool) : Array Value := (Array.range 128).map fun i => .bool (f i)
theorem rowA_size (f : Nat → Bool) : (rowA f).size = 128 := by simp [rowA]
theorem rowA_at (f : Nat → Bool) (i : Nat) (h : i < 128) : (rowA f)[i]? = some (.bool (f i)) := by simp [rowA, h]
theorem rowA_one (f : Nat → Bool) : (rowA f).all (·.oneCell') = true := by
  rw [Array.all_eq_true_iff_forall_mem]
  intro v hv
  simp only [rowA, Array.mem_map] at hv
  obtain ⟨i, -, rfl⟩ := hv
  rfl
theorem rowA_congr {f g : Nat → Bool} (h : ∀ i, i < 128 → f i = g i) : rowA f = rowA g := by
  apply Array.ext
  · simp [rowA]
  · intro i h1 h2
    simp only [rowA, Array.size_map, Array.size_range] at h1
    simp [rowA, h i h1]
/-- A row where one bit is another one. -/
def put (f : Nat → Bool) (i : Nat) (b : Bool) : Nat → Bool := fun j => if j = i then b else f j
theorem rowA_put (f : Nat → Bool) (i : Nat) (b : Bool) : (rowA f).setIfInBounds i (.bool b) = rowA (put f i b) := by
  apply Array.ext
  · simp [rowA]
  · intro j h1 h2
    simp only [rowA, Array.size_setIfInBounds, Array.size_map, Array.size_range] at h1
    rw [Array.getElem_setIfInBounds (by simpa [rowA] using h1)]
    simp only [rowA, Array.getElem_map, Array.getElem_range, put]
    by_cases e : i = j
    · subst e; simp
    · rw [if_neg e, if_neg (fun h => e h.symm)]

/-- The number of the first k bits. -/
def ofBits (f : Nat → Bool) : Nat → Nat
  | 0 => 0
  | k + 1 => ofBits f k + (if f k then 2 ^ k else 0)
theorem ofBits_lt (f : Nat → Bool) : ∀ k, ofBits f k < 2 ^ k
  | 0 => by simp [ofBits]
  | k + 1 => by
    have := ofBits_lt f k
    rw [ofBits, Nat.pow_succ]
    split <;> omega
theorem ofBits_testBit (f : Nat → Bool) : ∀ k i, (ofBits f k).testBit i = (decide (i < k) && f i)
  | 0, i => by simp [ofBits]
  | k + 1, i => by
    have ih := ofBits_testBit f k
    have hlt := ofBits_lt f k
    rw [ofBits]
    by_cases hf : f k = true
    · rw [if_pos hf, Nat.add_comm]
      by_cases h : i < k
      · rw [Nat.testBit_two_pow_add_gt h, ih]
        have : decide (i < k + 1) = decide (i < k) := by simp; omega
        rw [this]
      · by_cases e : i = k
        · subst e
          rw [Nat.testBit_two_pow_add_eq, ih]
          simp [hf]
        · have h1 : decide (i < k + 1) = false := by simp; omega
          rw [h1, Bool.false_and]
          apply Nat.testBit_lt_two_pow
          have : 2 ^ (k + 1) ≤ 2 ^ i := Nat.pow_le_pow_right (by omega) (by omega)
          rw [Nat.pow_succ] at this
          omega
    · rw [if_neg hf, Nat.add_zero, ih]
      by_cases h : i = k
      · subst h; simp [hf]
      · have : decide (i < k + 1) = decide (i < k) := by simp; omega
        rw [this]

/-- A number is that of its bits. -/
theorem ofBits_eq {f : Nat → Bool} {k n : Nat} (hn : n < 2 ^ k) (h : ∀ i, i < k → f i = n.testBit i) : ofBits f k = n := by
  apply Nat.eq_of_testBit_eq
  intro i
  rw [ofBits_testBit]
  by_cases hi : i < k
  · simp [hi, h i hi]
  · simp [hi]
    exact Nat.testBit_lt_two_pow (Nat.lt_of_lt_of_le hn (Nat.pow_le_pow_right (by omega) (by omega)))

end Go.Proofs.Ytnknpgfconfgjaa

/-
  Contracts of quillonref01.Bits and Num.
-/
namespace Go.Proofs.Ytnknpgfconfgjaa
open Go.RowKit

theorem below_setRow {B : Nat} {w w1 : World} (h : Below B w w1) {g : Nat} (hg : B ≤ g) (cs : Array Value) : Below B w (w1.setRow g cs) :=
  ⟨h.os, h.tape, h.output, by simpa using h.size, fun k hk => (setRow_other w1 g k cs (by omega)).trans (h.block k hk)⟩
theorem infoRow : (Try.prog.info? 70).map (·.size) = some 128 := by kernel_rfl

/-- What holds at a round's head of Bits. -/
def BitsAt (w : World) (n k : Nat) (wr : World) : Prop :=
  wr.heap[w.heap.size + 1 + 1]? = some (.cells (rowA fun j => (decide (j < k) || (decide (64 ≤ j) && decide (j < 64 + k))) && n.testBit j) 70 (0, 0)) ∧
  wr.heap[w.heap.size + 1]? = some (.cells (rowA fun _ => false) 70 (0, 0)) ∧
  wr.heap[w.heap.size]? = some (.cells #[.int .u64 ((n / B / 2 ^ k : Nat) : Int), .int .u64 ((n % B / 2 ^ k : Nat) : Int)] 24 (0, 0)) ∧ Below w.heap.size w wr

theorem BitsAt.cells {w wr : World} {n k : Nat} (h : BitsAt w n k wr) :
    wr.cell? ⟨w.heap.size, 0, none⟩ = some (.int .u64 ((n / B / 2 ^ k : Nat) : Int)) ∧ wr.cell? ⟨w.heap.size, 1, none⟩ = some (.int .u64 ((n % B / 2 ^ k : Nat) : Int)) ∧
    (∀ j, wr.frozen? ⟨w.heap.size, j, none⟩ = false) ∧ (∀ j, wr.frozen? ⟨w.heap.size + 1 + 1, j, none⟩ = false) ∧
    (∀ j, j < 128 → ∃ b, wr.cell? ⟨w.heap.size + 1 + 1, j, none⟩ = some (.bool b)) := by
  obtain ⟨h1, h2, h3, h4⟩ := h
  refine ⟨?_, ?_, fun j => ?_, fun j => ?_, fun j hj => ?_⟩
  · simp [World.cell?, h3]
  · simp [World.cell?, h3]
  · simp [World.frozen?, h3]
  · simp [World.frozen?, h1]
  · exact ⟨_, by rw [cell_of_row wr _ j _ _ _ h1]; exact rowA_at _ j hj⟩

theorem heap_new (w : World) (o : Obj) : (w.alloc o).heap[w.heap.size]? = some o := by
  show (w.heap.push o)[w.heap.size]? = _
  simp
theorem setCell_row {w : World} {g i : Nat} {f : Nat → Bool} {t : TypeId} (b : Bool) (h : w.heap[g]? = some (.cells (rowA f) t (0, 0))) : (w.setCell ⟨g, i, none⟩ (.bool b)).heap[g]? = some (.cells (rowA (put f i b)) t (0, 0)) := by
  rw [heap_setCell_same w g i _ t _ h, rowA_put]
theorem setCell_heap {w : World} {g i k : Nat} {v : Value} (h : k ≠ g) : (w.setCell ⟨g, i, none⟩ v).heap[k]? = w.heap[k]? := Below.heap_setCell w ⟨g, i, none⟩ v k h

theorem testBit_div (n k : Nat) : n.testBit k = (n / 2 ^ k % 2 == 1) := by
  rw [Nat.testBit_eq_decide_div_mod_eq]
  rfl
theorem testBit_high {n : Nat} (k : Nat) : n.testBit (64 + k) = (n / B / 2 ^ k % 2 == 1) := by
  rw [testBit_div, Nat.pow_add, ← Nat.div_div_eq_div_mul, B_pow]
theorem testBit_low {n : Nat} (k : Nat) (hk : k < 64) : n.testBit k = (n % B / 2 ^ k % 2 == 1) := by
  rw [← testBit_div, B_pow, Nat.testBit_mod_two_pow]
  simp [hk]

theorem BitsAt.step {w wr : World} {n k x y : Nat} (hn : n < B * B) (hx : x = n / B / 2 ^ k) (hy : y = n % B / 2 ^ k) (hk : k < 64) (h : BitsAt w n k wr) :
    BitsAt w n (k + 1) ((((wr.setCell ⟨w.heap.size + 1 + 1, k, none⟩ (.bool ((y : Int).tmod 2 == 1))).setCell ⟨w.heap.size + 1 + 1, 64 + k, none⟩ (.bool ((x : Int).tmod 2 == 1))).setCell ⟨w.heap.size, 1, none⟩ (.int .u64 (IntKind.u64.wrap ((y : Int).tdiv 2)))).setCell ⟨w.heap.size, 0, none⟩ (.int .u64 (IntKind.u64.wrap ((x : Int).tdiv 2)))) := by
  obtain ⟨h1, h2, h3, h4⟩ := h
  have tm : ∀ z : Nat, (z : Int).tmod 2 = ((z % 2 : Nat) : Int) := fun z => by rw [Int.tmod_eq_emod_of_nonneg (by omega)]; rfl
  have td : ∀ z : Nat, z < B → IntKind.u64.wrap ((z : Int).tdiv 2) = ((z / 2 : Nat) : Int) := fun z hz => by
    rw [Int.tdiv_eq_ediv_of_nonneg (by omega), show ((z : Int) / 2) = ((z / 2 : Nat) : Int) from rfl, wrap_cast, Nat.mod_eq_of_lt (by omega)]
  have hxB : x < B := by rw [hx]; exact Nat.lt_of_le_of_lt (Nat.div_le_self _ _) (half_lt hn)
  have hyB : y < B := by rw [hy]; exact Nat.lt_of_le_of_lt (Nat.div_le_self _ _) (low_lt n)
  have ex : ((x : Int).tmod 2 == 1) = n.testBit (64 + k) := by
    rw [tm, testBit_high, ← hx, Bool.eq_iff_iff, beq_iff_eq, beq_iff_eq]
    omega
  have ey : ((y : Int).tmod 2 == 1) = n.testBit k := by
    rw [tm, testBit_low k hk, ← hy, Bool.eq_iff_iff, beq_iff_eq, beq_iff_eq]
    omega
  have dx : IntKind.u64.wrap ((x : Int).tdiv 2) = ((n / B / 2 ^ (k + 1) : Nat) : Int) := by rw [td x hxB, Nat.pow_succ, ← Nat.div_div_eq_div_mul, ← hx]
  have dy : IntKind.u64.wrap ((y : Int).tdiv 2) = ((n % B / 2 ^ (k + 1) : Nat) : Int) := by rw [td y hyB, Nat.pow_succ, ← Nat.div_div_eq_div_mul, ← hy]
  rw [ex, ey, dx, dy]
  refine ⟨?_, ?_, ?_, ?_⟩
  · rw [setCell_heap (by omega), setCell_heap (by omega), setCell_row _ (setCell_row _ h1)]
    congr 2
    apply rowA_congr
    intro j hj
    simp only [put]
    by_cases e1 : j = 64 + k
    · subst e1
      simp
    · by_cases e2 : j = k
      · subst e2
        rw [if_neg e1, if_pos rfl]
        simp
      · rw [if_neg e1, if_neg e2]
        have a1 : decide (j < k + 1) = decide (j < k) := by simp; omega
        have a2 : decide (j < 64 + (k + 1)) = decide (j < 64 + k) := by simp; omega
        rw [a1, a2]
  · rw [setCell_heap (by omega), setCell_heap (by omega), setCell_heap (by omega), setCell_heap (by omega)]
    exact h2
  · have q : (((wr.setCell ⟨w.heap.size + 1 + 1, k, none⟩ (.bool (n.testBit k))).setCell ⟨w.heap.size + 1 + 1, 64 + k, none⟩ (.bool (n.testBit (64 + k))))).heap[w.heap.size]? = some (.cells #[.int .u64 ((n / B / 2 ^ k : Nat) : Int), .int .u64 ((n % B / 2 ^ k : Nat) : Int)] 24 (0, 0)) := by
      rw [setCell_heap (by omega), setCell_heap (by omega)]
      exact h3
    have q1 := heap_setCell_same _ w.heap.size 1 _ _ (.int .u64 ((n % B / 2 ^ (k + 1) : Nat) : Int)) q
    have q2 := heap_setCell_same _ w.heap.size 0 _ _ (.int .u64 ((n / B / 2 ^ (k + 1) : Nat) : Int)) q1
    rw [q2]
    rfl
  · exact (((h4.setCell (by show _ ≤ w.heap.size + 1 + 1; omega) _).setCell (by show _ ≤ w.heap.size + 1 + 1; omega) _).setCell (Nat.le_refl _) _).setCell (Nat.le_refl _) _

set_option maxRecDepth 100000 in
set_option maxHeartbeats 1600000 in
theorem refBits_any (n : Nat) (hn : n < B * B) (w : World) :
    Calls Try.prog 24 #[numV n] w fun e w' => e = .returned (.agg (rowA n.testBit)) ∧ Below w.heap.size w w' := by
  obtain ⟨hi, lo, he, hhi, hlo⟩ := numV_parts n
  rw [he]
  have hi0 : hi < B := by rw [hhi]; exact half_lt hn
  have lo0 : lo < B := by rw [hlo]; exact low_lt n
  have HN : Hid (hi = n / B ∧ lo = n % B) := ⟨hhi, hlo⟩
  clear he hhi hlo
  go_enter Try.func24, Try.ntmps24
  go_wp2_with fail
  obtain ⟨A, hA⟩ : ∃ A, A = ((w.alloc (.cells #[.int .u64 (hi : Int), .int .u64 (lo : Int)] 24)).alloc (.cells Try.zeroCells70 70)).alloc (.cells Try.zeroCells70 70) := ⟨_, rfl⟩
  have ez : Try.zeroCells70 = rowA fun _ => false := by kernel_rfl
  have H0 : Hid (BitsAt w n 0 A) := by
    show BitsAt w n 0 A
    refine ⟨?_, ?_, ?_, by rw [hA]; exact (by repeat (first | exact Below.refl _ _ | assumption | refine Below.drew ?_ | refine Below.alloc ?_ (by first | omega | (simp <;> omega)) _ | refine Below.setCell ?_ (by first | omega | (simp <;> omega)) _ | refine Below.trans ?_ (Below.mono (by assumption) (by first | omega | (simp <;> omega)))))⟩
    · rw [hA, ez]
      have := heap_new ((w.alloc (.cells #[.int .u64 (hi : Int), .int .u64 (lo : Int)] 24)).alloc (.cells (rowA fun _ => false) 70)) (.cells (rowA fun _ => false) 70)
      simp only [World.size_alloc] at this
      rw [this]
      congr 2
      apply rowA_congr
      intro i hi
      simp
      omega
    · rw [hA, ez, Below.heap_alloc _ _ _ (by simp)]
      have := heap_new (w.alloc (.cells #[.int .u64 (hi : Int), .int .u64 (lo : Int)] 24)) (.cells (rowA fun _ => false) 70)
      simp only [World.size_alloc] at this
      exact this
    · rw [hA, Below.heap_alloc _ _ _ (by simp; omega), Below.heap_alloc _ _ _ (by simp), heap_new, HN.out.1, HN.out.2]
      simp
  rw [← hA]
  clear hA ez
  go_loopw [4] (fun i wr => ∃ k : Nat, k ≤ 64 ∧ i = .int .i64 k ∧ Hid (BitsAt w n k wr)) (fun i _ => 64 - (intOf i).toNat)
  case atStart => exact ⟨0, Nat.zero_le _, rfl, H0⟩
  case round =>
    obtain ⟨k, hk, rfl, HK⟩ := hrel
    by_cases hlt : k < 64
    · obtain ⟨c0, c1, f0, f2, cr⟩ := HK.out.cells
      obtain ⟨x, hx⟩ : ∃ x, x = n / B / 2 ^ k := ⟨_, rfl⟩
      obtain ⟨y, hy⟩ : ∃ y, y = n % B / 2 ^ k := ⟨_, rfl⟩
      rw [← hx] at c0
      rw [← hy] at c1
      have HX := Lib.hid hx
      have HY := Lib.hid hy
      clear hx hy
      obtain ⟨b1, r1⟩ := cr k (by omega)
      obtain ⟨b2, r2⟩ := cr (64 + k) (by omega)
      clear cr
      have HS := Lib.hid (BitsAt.step hn HX.out HY.out hlt HK.out)
      go_wp2_with fail
      go_roundw
      case rel => exact ⟨k + 1, by omega, by go_num, HS⟩
      case measure => simp [intOf]; omega
    · obtain rfl : k = 64 := by omega
      obtain ⟨h1, h2, h3, h4⟩ := HK.out
      have HB4 := Lib.hid h4
      have e64 : (rowA fun j => (decide (j < 64) || (decide (64 ≤ j) && decide (j < 64 + 64))) && n.testBit j) = rowA n.testBit := by
        apply rowA_congr
        intro j hj
        by_cases e : j < 64
        · simp [e]
        · have e1 : decide (64 ≤ j) = true := by simp; omega
          have e2 : decide (j < 64 + 64) = true := by simp; omega
          rw [e1, e2]
          simp
      rw [e64] at h1
      clear e64 h3 h4 H0
      go_wp2_with (first
        | (refine wpList_load_row rfl 70 (.tmp 3) rfl (w.heap.size + 1 + 1) rfl 70 (rowA n.testBit) (0, 0) _ h1 Try.underlying70 rfl (by rw [rowA_size]; exact infoRow) ?_)
        | (refine wpList_store_row rfl 70 (.tmp 2) (.tmp 30) rfl (w.heap.size + 1) (rowA n.testBit) rfl rfl 70 (rowA fun _ => false) h2 (by rw [rowA_size]; exact infoRow) (by rw [rowA_size, rowA_size]) (rowA_one _) ?_))
      have hg : (wr.setRow (w.heap.size + 1) (rowA n.testBit)).heap[w.heap.size + 1]? = some (.cells (rowA n.testBit) 70 (0, 0)) := setRow_heap _ _ _ _ _ _ h2
      exact bodyPost_ret (v := .agg (rowA n.testBit)) (results_cell_row Try.results24 _ _ (w.heap.size + 1) _ _ _ _ (by simp [go_sem]) hg Try.underlying70 rfl (by rw [rowA_size]; exact infoRow)) rfl ⟨rfl, below_setRow HB4.out (by omega) _⟩

/-- The bits behind a lowest one. -/
theorem ofBits_low (g : Nat → Bool) : ∀ k, ofBits g (k + 1) = (if g 0 then 1 else 0) + 2 * ofBits (fun j => g (j + 1)) k
  | 0 => by simp [ofBits]
  | k + 1 => by
    rw [ofBits, ofBits_low g k, ofBits, Nat.pow_succ]
    split <;> split <;> omega
theorem ofBits_shift (f : Nat → Bool) (j c : Nat) (hj : j < 64) : ofBits (fun i => f (c + j + i)) (64 - j) = (if f (c + j) then 1 else 0) + 2 * ofBits (fun i => f (c + (j + 1) + i)) (64 - (j + 1)) := by
  have e : 64 - j = 64 - (j + 1) + 1 := by omega
  rw [e, ofBits_low]
  have e2 : (fun i => f (c + j + (i + 1))) = fun i => f (c + (j + 1) + i) := by
    funext i
    rw [show c + j + (i + 1) = c + (j + 1) + i by omega]
  rw [e2]
  rfl
theorem ofBits_add (f : Nat → Bool) (a : Nat) : ∀ b, ofBits f (a + b) = ofBits f a + 2 ^ a * ofBits (fun j => f (a + j)) b
  | 0 => by simp [ofBits]
  | b + 1 => by
    rw [show a + (b + 1) = (a + b) + 1 by omega, ofBits, ofBits_add f a b, ofBits, Nat.mul_add, Nat.pow_add]
    split <;> omega

/-- What holds at a round's head of Num: m bits of each half are left. -/
def NumAt (w : World) (f : Nat → Bool) (m : Nat) (wr : World) : Prop :=
  wr.heap[w.heap.size]? = some (.cells (rowA f) 70 (0, 0)) ∧
  (∃ c0 c1, wr.heap[w.heap.size + 1]? = some (.cells #[c0, c1] 24 (0, 0))) ∧
  wr.heap[w.heap.size + 1 + 1]? = some (.cells #[.int .u64 ((ofBits (fun i => f (64 + m + i)) (64 - m) : Nat) : Int), .int .u64 ((ofBits (fun i => f (0 + m + i)) (64 - m) : Nat) : Int)] 24 (0, 0)) ∧ Below w.heap.size w wr

theorem NumAt.cells {w wr : World} {f : Nat → Bool} {m : Nat} (h : NumAt w f m wr) :
    wr.cell? ⟨w.heap.size + 1 + 1, 0, none⟩ = some (.int .u64 ((ofBits (fun i => f (64 + m + i)) (64 - m) : Nat) : Int)) ∧ wr.cell? ⟨w.heap.size + 1 + 1, 1, none⟩ = some (.int .u64 ((ofBits (fun i => f (0 + m + i)) (64 - m) : Nat) : Int)) ∧
    (∀ j, wr.frozen? ⟨w.heap.size + 1 + 1, j, none⟩ = false) ∧ (∀ j, j < 128 → wr.cell? ⟨w.heap.size, j, none⟩ = some (.bool (f j))) := by
  obtain ⟨h1, h2, h3, h4⟩ := h
  refine ⟨?_, ?_, fun j => ?_, fun j hj => ?_⟩
  · simp [World.cell?, h3]
  · simp [World.cell?, h3]
  · simp [World.frozen?, h3]
  · rw [cell_of_row wr _ j _ _ _ h1]; exact rowA_at _ j hj

theorem wrap_two {x : Nat} (b : Bool) (h : 2 * x + 1 < B) : (if b then IntKind.u64.wrap (IntKind.u64.wrap ((x : Int) * 2) + 1) else IntKind.u64.wrap ((x : Int) * 2)) = (((if b then 1 else 0) + 2 * x : Nat) : Int) := by
  have e1 : IntKind.u64.wrap ((x : Int) * 2) = ((2 * x : Nat) : Int) := by
    rw [show ((x : Int) * 2) = ((2 * x : Nat) : Int) by omega, wrap_cast, Nat.mod_eq_of_lt (by omega)]
  cases b
  · simp only [Bool.false_eq_true, if_false, Nat.zero_add]
    exact e1
  · simp only [if_true]
    rw [e1, show ((2 * x : Nat) : Int) + 1 = ((1 + 2 * x : Nat) : Int) by omega, wrap_cast, Nat.mod_eq_of_lt (by omega)]

/-- The world behind a round. -/
theorem NumAt.step {w wr w' : World} {f : Nat → Bool} {j : Nat} (hj : j < 64) (h : NumAt w f (j + 1) wr) (hw : ∀ k, k ≠ w.heap.size + 1 + 1 → w'.heap[k]? = wr.heap[k]?) (hb : Below w.heap.size wr w')
    (hn : w'.heap[w.heap.size + 1 + 1]? = some (.cells #[.int .u64 (((if f (64 + j) then 1 else 0) + 2 * ofBits (fun i => f (64 + (j + 1) + i)) (64 - (j + 1)) : Nat) : Int), .int .u64 (((if f (0 + j) then 1 else 0) + 2 * ofBits (fun i => f (0 + (j + 1) + i)) (64 - (j + 1)) : Nat) : Int)] 24 (0, 0))) :
    NumAt w f j w' := by
  obtain ⟨h1, ⟨c0, c1, h2⟩, h3, h4⟩ := h
  refine ⟨(hw _ (by omega)).trans h1, ⟨c0, c1, (hw _ (by omega)).trans h2⟩, ?_, h4.trans hb⟩
  rw [ofBits_shift f j 64 hj, ofBits_shift f j 0 hj]
  exact hn

theorem set_lo {w : World} {g : Nat} {a b : Value} {t : TypeId} (v : Value) (h : w.heap[g]? = some (.cells #[a, b] t (0, 0))) : (w.setCell ⟨g, 1, none⟩ v).heap[g]? = some (.cells #[a, v] t (0, 0)) :=
  heap_setCell_same w g 1 _ t v h
theorem set_hi {w : World} {g : Nat} {a b : Value} {t : TypeId} (v : Value) (h : w.heap[g]? = some (.cells #[a, b] t (0, 0))) : (w.setCell ⟨g, 0, none⟩ v).heap[g]? = some (.cells #[v, b] t (0, 0)) :=
  heap_setCell_same w g 0 _ t v h

theorem NumAt.fin {w wr w' : World} {f : Nat → Bool} {j X Y : Nat} {b1 b2 : Bool} {x y : Int} (hj : j < 64) (h : NumAt w f (j + 1) wr) (hX : X = ofBits (fun i => f (64 + (j + 1) + i)) (64 - (j + 1))) (hY : Y = ofBits (fun i => f (0 + (j + 1) + i)) (64 - (j + 1)))
    (hf1 : f j = b1) (hf2 : f (64 + j) = b2) (hw : ∀ k, k ≠ w.heap.size + 1 + 1 → w'.heap[k]? = wr.heap[k]?) (hb : Below w.heap.size wr w')
    (hn : w'.heap[w.heap.size + 1 + 1]? = some (.cells #[.int .u64 x, .int .u64 y] 24 (0, 0)))
    (hx : x = if b2 then IntKind.u64.wrap (IntKind.u64.wrap ((X : Int) * 2) + 1) else IntKind.u64.wrap ((X : Int) * 2)) (hy : y = if b1 then IntKind.u64.wrap (IntKind.u64.wrap ((Y : Int) * 2) + 1) else IntKind.u64.wrap ((Y : Int) * 2)) :
    Hid (NumAt w f j w') := by
  have e64 : 2 ^ (64 - (j + 1)) * 2 ≤ B := by
    rw [B_pow, ← Nat.pow_succ]
    exact Nat.pow_le_pow_right (by omega) (by omega)
  have lX : 2 * X + 1 < B := by have := ofBits_lt (fun i => f (64 + (j + 1) + i)) (64 - (j + 1)); rw [hX]; omega
  have lY : 2 * Y + 1 < B := by have := ofBits_lt (fun i => f (0 + (j + 1) + i)) (64 - (j + 1)); rw [hY]; omega
  rw [wrap_two b2 lX, ← hf2, hX] at hx
  rw [wrap_two b1 lY, ← hf1, hY] at hy
  refine NumAt.step hj h hw hb ?_
  rw [hn, hx, hy, Nat.zero_add j]

set_option maxRecDepth 100000 in
set_option maxHeartbeats 1600000 in
theorem refNum_any (f : Nat → Bool) (w : World) :
    Calls Try.prog 25 #[.agg (rowA f)] w (RetNum w (ofBits f 128)) := by
  go_enter Try.func25, Try.ntmps25
  go_wp2_with fail
  obtain ⟨A, hA⟩ : ∃ A, A = ((w.alloc (.cells (rowA f) 70)).alloc (.cells #[.int .u64 0, .int .u64 0] 24)).alloc (.cells #[.int .u64 0, .int .u64 0] 24) := ⟨_, rfl⟩
  have H0 : Hid (NumAt w f 64 A) := by
    show NumAt w f 64 A
    refine ⟨?_, ⟨.int .u64 0, .int .u64 0, ?_⟩, ?_, by rw [hA]; exact (by repeat (first | exact Below.refl _ _ | assumption | refine Below.drew ?_ | refine Below.alloc ?_ (by first | omega | (simp <;> omega)) _ | refine Below.setCell ?_ (by first | omega | (simp <;> omega)) _ | refine Below.trans ?_ (Below.mono (by assumption) (by first | omega | (simp <;> omega)))))⟩
    · rw [hA, Below.heap_alloc _ _ _ (by simp; omega), Below.heap_alloc _ _ _ (by simp), heap_new]
    · rw [hA, Below.heap_alloc _ _ _ (by simp)]
      have := heap_new (w.alloc (.cells (rowA f) 70)) (.cells #[.int .u64 0, .int .u64 0] 24)
      simp only [World.size_alloc] at this
      exact this
    · rw [hA]
      have := heap_new ((w.alloc (.cells (rowA f) 70)).alloc (.cells #[.int .u64 0, .int .u64 0] 24)) (.cells #[.int .u64 0, .int .u64 0] 24)
      simp only [World.size_alloc] at this
      rw [this]
      rfl
  rw [← hA]
  clear hA
  go_loopw [4] (fun i wr => ∃ m : Nat, m ≤ 64 ∧ i = .int .i64 ((m : Int) - 1) ∧ Hid (NumAt w f m wr)) (fun i _ => (intOf i + 1).toNat)
  case atStart => exact ⟨64, Nat.le_refl _, by go_num, H0⟩
  case round =>
    obtain ⟨m, hm, rfl, HK⟩ := hrel
    cases m with
    | zero =>
      obtain ⟨h1, ⟨c0, c1, h2⟩, h3, h4⟩ := HK.out
      obtain ⟨d0, d1, -, -⟩ := HK.out.cells
      have HB4 := Lib.hid h4
      have hb2 : wr.cell? ⟨w.heap.size + 1, 0, none⟩ = some c0 := by simp [World.cell?, h2]
      have hb3 : wr.cell? ⟨w.heap.size + 1, 1, none⟩ = some c1 := by simp [World.cell?, h2]
      have hz2 : ∀ j, wr.frozen? ⟨w.heap.size + 1, j, none⟩ = false := fun j => by simp [World.frozen?, h2]
      have HN : Hid (Value.agg #[.int .u64 ((ofBits (fun i => f (64 + 0 + i)) (64 - 0) : Nat) : Int), .int .u64 ((ofBits (fun i => f (0 + 0 + i)) (64 - 0) : Nat) : Int)] = numV (ofBits f 128)) := by
        show _ = _
        have e := ofBits_add f 64 64
        have l := ofBits_lt f 64
        have e1 : (fun i => f (0 + 0 + i)) = f := by funext i; simp
        have e2 : (fun i => f (64 + 0 + i)) = fun i => f (64 + i) := by funext i; simp
        rw [e1, e2, show (128 : Nat) = 64 + 64 from rfl, e, numV_mk _ _ (by rw [B_pow]; exact l), B_pow]
        congr 1
        rw [Nat.mul_comm, Nat.add_comm]
      generalize ofBits (fun i => f (64 + 0 + i)) (64 - 0) = X at d0 HN
      generalize ofBits (fun i => f (0 + 0 + i)) (64 - 0) = Y at d1 HN
      clear h1 h3 h4 H0 HK
      have H2 := Lib.hid h2
      clear h2
      go_wp2_with fail
      have hg := set_lo (.int .u64 (Y : Int)) (set_hi (.int .u64 (X : Int)) H2.out)
      exact bodyPost_ret (v := .agg #[.int .u64 (X : Int), .int .u64 (Y : Int)]) (results_cell_row Try.results25 _ _ (w.heap.size + 1) _ _ _ _ (by simp [go_sem]) hg Try.underlying24 rfl (by kernel_rfl)) rfl ⟨by rw [HN.out], (HB4.out.setCell (by simp) _).setCell (by simp) _⟩
    | succ j =>
      have hj : j < 64 := by omega
      have ej : (((j + 1 : Nat) : Int) - 1) = (j : Int) := by omega
      rw [ej]
      clear ej
      obtain ⟨d0, d1, fz, cr⟩ := HK.out.cells
      have r1 := cr j (by omega)
      have r2 := cr (64 + j) (by omega)
      clear cr
      obtain ⟨X, hX⟩ : ∃ X, X = ofBits (fun i => f (64 + (j + 1) + i)) (64 - (j + 1)) := ⟨_, rfl⟩
      obtain ⟨Y, hY⟩ : ∃ Y, Y = ofBits (fun i => f (0 + (j + 1) + i)) (64 - (j + 1)) := ⟨_, rfl⟩
      rw [← hX] at d0
      rw [← hY] at d1
      have HX := Lib.hid hX
      have HY := Lib.hid hY
      clear hX hY
      cases hf1 : f j <;> cases hf2 : f (64 + j)
      · rw [hf1] at r1
        rw [hf2] at r2
        have HF1 := Lib.hid hf1
        have HF2 := Lib.hid hf2
        have h3 := HK.out.2.2.1
        rw [← HX.out, ← HY.out] at h3
        have H3 := Lib.hid h3
        clear hf1 hf2 h3
        go_wp2_with fail
        go_roundw
        case rel =>
          refine ⟨j, by omega, rfl, ?_⟩
          refine NumAt.fin hj HK.out HX.out HY.out HF1.out HF2.out ?_ ?_ (set_hi _ (set_lo _ H3.out)) rfl rfl
          · intro k hk
            repeat rw [setCell_heap hk]
          · exact (by repeat (first | exact Below.refl _ _ | assumption | refine Below.drew ?_ | refine Below.alloc ?_ (by first | omega | (simp <;> omega)) _ | refine Below.setCell ?_ (by first | omega | (simp <;> omega)) _ | refine Below.trans ?_ (Below.mono (by assumption) (by first | omega | (simp <;> omega)))))
        case measure => simp [intOf]
      · rw [hf1] at r1
        rw [hf2] at r2
        have HF1 := Lib.hid hf1
        have HF2 := Lib.hid hf2
        have h3 := HK.out.2.2.1
        rw [← HX.out, ← HY.out] at h3
        have H3 := Lib.hid h3
        clear hf1 hf2 h3
        go_wp2_with fail
        go_roundw
        case rel =>
          refine ⟨j, by omega, rfl, ?_⟩
          refine NumAt.fin hj HK.out HX.out HY.out HF1.out HF2.out ?_ ?_ (set_hi _ (set_hi _ (set_lo _ H3.out))) rfl rfl
          · intro k hk
            repeat rw [setCell_heap hk]
          · exact (by repeat (first | exact Below.refl _ _ | assumption | refine Below.drew ?_ | refine Below.alloc ?_ (by first | omega | (simp <;> omega)) _ | refine Below.setCell ?_ (by first | omega | (simp <;> omega)) _ | refine Below.trans ?_ (Below.mono (by assumption) (by first | omega | (simp <;> omega)))))
        case measure => simp [intOf]
      · rw [hf1] at r1
        rw [hf2] at r2
        have HF1 := Lib.hid hf1
        have HF2 := Lib.hid hf2
        have h3 := HK.out.2.2.1
        rw [← HX.out, ← HY.out] at h3
        have H3 := Lib.hid h3
        clear hf1 hf2 h3
        go_wp2_with fail
        go_roundw
        case rel =>
          refine ⟨j, by omega, rfl, ?_⟩
          refine NumAt.fin hj HK.out HX.out HY.out HF1.out HF2.out ?_ ?_ (set_lo _ (set_hi _ (set_lo _ H3.out))) rfl rfl
          · intro k hk
            repeat rw [setCell_heap hk]
          · exact (by repeat (first | exact Below.refl _ _ | assumption | refine Below.drew ?_ | refine Below.alloc ?_ (by first | omega | (simp <;> omega)) _ | refine Below.setCell ?_ (by first | omega | (simp <;> omega)) _ | refine Below.trans ?_ (Below.mono (by assumption) (by first | omega | (simp <;> omega)))))
        case measure => simp [intOf]
      · rw [hf1] at r1
        rw [hf2] at r2
        have HF1 := Lib.hid hf1
        have HF2 := Lib.hid hf2
        have h3 := HK.out.2.2.1
        rw [← HX.out, ← HY.out] at h3
        have H3 := Lib.hid h3
        clear hf1 hf2 h3
        go_wp2_with fail
        go_roundw
        case rel =>
          refine ⟨j, by omega, rfl, ?_⟩
          refine NumAt.fin hj HK.out HX.out HY.out HF1.out HF2.out ?_ ?_ (set_hi _ (set_lo _ (set_hi _ (set_lo _ H3.out)))) rfl rfl
          · intro k hk
            repeat rw [setCell_heap hk]
          · exact (by repeat (first | exact Below.refl _ _ | assumption | refine Below.drew ?_ | refine Below.alloc ?_ (by first | omega | (simp <;> omega)) _ | refine Below.setCell ?_ (by first | omega | (simp <;> omega)) _ | refine Below.trans ?_ (Below.mono (by assumption) (by first | omega | (simp <;> omega)))))
        case measure => simp [intOf]

end Go.Proofs.Ytnknpgfconfgjaa
