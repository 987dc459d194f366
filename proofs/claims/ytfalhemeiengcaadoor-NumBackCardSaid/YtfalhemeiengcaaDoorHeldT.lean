/-
  What a region that draws its order keeps: two or three cells that are read.
-/
import Derived.Test.YtfalhemeiengcaaDoorLib
namespace Go.Proofs.YtfalhemeiengcaaDoor
open Go.RowKit

theorem held_3_0 {w W w1 : World} {p0 p1 p2 : Addr} {v0 v1 v2 : Value} (hb : Below W.heap.size W w1) (h : Below w.heap.size w W ∧ W.cell? p0 = some v0 ∧ W.cell? p1 = some v1 ∧ W.cell? p2 = some v2) :
    Below w.heap.size w w1 ∧ w1.cell? p0 = some v0 ∧ w1.cell? p1 = some v1 ∧ w1.cell? p2 = some v2 := by
  obtain ⟨q, q0, q1, q2⟩ := h
  exact ⟨q.trans (hb.mono q.size), (hb.cell (cell_there q0).1).trans q0, (hb.cell (cell_there q1).1).trans q1, (hb.cell (cell_there q2).1).trans q2⟩

theorem held_2_0 {w W w1 : World} {p0 p1 : Addr} {v0 v1 : Value} (hb : Below W.heap.size W w1) (h : Below w.heap.size w W ∧ W.cell? p0 = some v0 ∧ W.cell? p1 = some v1) :
    Below w.heap.size w w1 ∧ w1.cell? p0 = some v0 ∧ w1.cell? p1 = some v1 := by
  obtain ⟨q, q0, q1⟩ := h
  exact ⟨q.trans (hb.mono q.size), (hb.cell (cell_there q0).1).trans q0, (hb.cell (cell_there q1).1).trans q1⟩

end Go.Proofs.YtfalhemeiengcaaDoor
