/-
  Loops that fill a new row out of another one.
-/
import Derived.Test.YtfalhemeiengcaaDoorRefCut
namespace Go.Proofs.YtfalhemeiengcaaDoor
open Go.RowKit

/-- What holds at a round's head: the row gx holds f, the row gy what F says of k. -/
def In2 (F : Nat → Nat → Bool) (f : Nat → Bool) (w : World) (gx gy N k : Nat) (wr : World) : Prop :=
  wr.heap[gx]? = some (.cells (rowA f) 56 (0, 0)) ∧ wr.heap[gy]? = some (.cells (rowA (F k)) 56 (0, 0)) ∧
  (∃ c0 c1, wr.heap[N]? = some (.cells #[c0, c1] 24 (0, 0))) ∧ Below w.heap.size w wr

theorem In2.cells {F : Nat → Nat → Bool} {f : Nat → Bool} {w wr : World} {gx gy N k : Nat} (h : In2 F f w gx gy N k wr) {i j : Nat} (hi : i < 128) (hj : j < 128) :
    wr.cell? ⟨gx, i, none⟩ = some (.bool (f i)) ∧ (∃ c, wr.cell? ⟨gy, j, none⟩ = some (.bool c)) ∧ wr.frozen? ⟨gy, j, none⟩ = false := by
  obtain ⟨h1, h2, h3, h4⟩ := h
  refine ⟨?_, ⟨F k j, ?_⟩, ?_⟩
  · rw [cell_of_row wr _ i _ _ _ h1, rowA_at _ i hi]
  · rw [cell_of_row wr _ j _ _ _ h2, rowA_at _ j hj]
  · simp [World.frozen?, h2]

theorem In2.step {F : Nat → Nat → Bool} {f : Nat → Bool} {w wr : World} {gx gy N k j : Nat} {c : Bool} (h : In2 F f w gx gy N k wr) (hn : gx ≠ gy) (hN : N ≠ gy) (hx : w.heap.size ≤ gy) (hF : ∀ i, i < 128 → put (F k) j c i = F (k + 1) i) :
    Hid (In2 F f w gx gy N (k + 1) (wr.setCell ⟨gy, j, none⟩ (.bool c))) := by
  obtain ⟨h1, h2, ⟨c0, c1, h3⟩, h4⟩ := h
  refine ⟨?_, ?_, ⟨c0, c1, ?_⟩, h4.setCell (by show w.heap.size ≤ gy; omega) _⟩
  · rw [setCell_heap hn]; exact h1
  · rw [setCell_row _ h2]
    congr 2
    exact rowA_congr hF
  · rw [setCell_heap hN]; exact h3

end Go.Proofs.YtfalhemeiengcaaDoor
