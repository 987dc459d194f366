/-
  Rows of 128 bits as plain data.
-/
import Derived.Test.YtfalhemeiengcaaDoorNumP
import Derived.Test.YtfalhemeiengcaaDoorLib
import Derived.Laws.Rows
import Derived.Laws.Tables
namespace Go.Proofs.YtfalhemeiengcaaDoor
open Go.RowKit

/-- The cells of a row of 128 bits. -/
def rowA (f : Nat → Bool) : Array Value := (Array.range 128).map fun i => .bool (f i)
theorem rowA_size (f : Nat → Bool) : (rowA f).size = 128 := by simp [rowA]
theorem rowA_at (f : Nat → Bool) (i : Nat) (h : i < 128) : (rowA f)[i]? = some (.bool (f i)) := by simp [rowA, h]
theorem rowA_one (f : Nat → Bool) : (rowA f).all (·.oneCell') = true := by
  rw [Array.all_eq_true_iff_forall_mem]
  intro v hv
  simp only [rowA, Array.mem_map] at hv
  obtain ⟨i, -, rfl⟩ := hv
  rfl
theorem rowA_congr {f g : Nat → Bool} (h : ∀ i, i < 128 → f i = g i) : rowA f = rowA g := by
  apply Array.ext
  · simp [rowA]
  · intro i h1 h2
    simp only [rowA, Array.size_map, Array.size_range] at h1
    simp [rowA, h i h1]
/-- A row where one bit is another one. -/
def put (f : Nat → Bool) (i : Nat) (b : Bool) : Nat → Bool := fun j => if j = i then b else f j
theorem rowA_put (f : Nat → Bool) (i : Nat) (b : Bool) : (rowA f).setIfInBounds i (.bool b) = rowA (put f i b) := by
  apply Array.ext
  · simp [rowA]
  · intro j h1 h2
    simp only [rowA, Array.size_setIfInBounds, Array.size_map, Array.size_range] at h1
    rw [Array.getElem_setIfInBounds (by simpa [rowA] using h1)]
    simp only [rowA, Array.getElem_map, Array.getElem_range, put]
    by_cases e : i = j
    · subst e; simp
    · rw [if_neg e, if_neg (fun h => e h.symm)]

/-- The number of the first k bits. -/
def ofBits (f : Nat → Bool) : Nat → Nat
  | 0 => 0
  | k + 1 => ofBits f k + (if f k then 2 ^ k else 0)
theorem ofBits_lt (f : Nat → Bool) : ∀ k, ofBits f k < 2 ^ k
  | 0 => by simp [ofBits]
  | k + 1 => by
    have := ofBits_lt f k
    rw [ofBits, Nat.pow_succ]
    split <;> omega
theorem ofBits_testBit (f : Nat → Bool) : ∀ k i, (ofBits f k).testBit i = (decide (i < k) && f i)
  | 0, i => by simp [ofBits]
  | k + 1, i => by
    have ih := ofBits_testBit f k
    have hlt := ofBits_lt f k
    rw [ofBits]
    by_cases hf : f k = true
    · rw [if_pos hf, Nat.add_comm]
      by_cases h : i < k
      · rw [Nat.testBit_two_pow_add_gt h, ih]
        have : decide (i < k + 1) = decide (i < k) := by simp; omega
        rw [this]
      · by_cases e : i = k
        · subst e
          rw [Nat.testBit_two_pow_add_eq, ih]
          simp [hf]
        · have h1 : decide (i < k + 1) = false := by simp; omega
          rw [h1, Bool.false_and]
          apply Nat.testBit_lt_two_pow
          have : 2 ^ (k + 1) ≤ 2 ^ i := Nat.pow_le_pow_right (by omega) (by omega)
          rw [Nat.pow_succ] at this
          omega
    · rw [if_neg hf, Nat.add_zero, ih]
      by_cases h : i = k
      · subst h; simp [hf]
      · have : decide (i < k + 1) = decide (i < k) := by simp; omega
        rw [this]

/-- A number is that of its bits. -/
theorem ofBits_eq {f : Nat → Bool} {k n : Nat} (hn : n < 2 ^ k) (h : ∀ i, i < k → f i = n.testBit i) : ofBits f k = n := by
  apply Nat.eq_of_testBit_eq
  intro i
  rw [ofBits_testBit]
  by_cases hi : i < k
  · simp [hi, h i hi]
  · simp [hi]
    exact Nat.testBit_lt_two_pow (Nat.lt_of_lt_of_le hn (Nat.pow_le_pow_right (by omega) (by omega)))

end Go.Proofs.YtfalhemeiengcaaDoor
