/-
  What a region that draws its order keeps: cells that are read, cells that are written at its end.
-/
import Derived.Test.YtfalhemeiengcaaDoorLib
namespace Go.Proofs.YtfalhemeiengcaaDoor
open Go.RowKit

theorem cell?_some_after {W : World} {p r : Addr} (a : Value) (h : ∃ x, W.cell? p = some x) : ∃ x, (W.setCell r a).cell? p = some x := by
  obtain ⟨x, hx⟩ := h
  by_cases e : p = r
  · subst e; exact ⟨a, World.cell?_setCell_same _ _ _ hx⟩
  · exact ⟨x, (World.cell?_setCell_other _ _ _ _ (fun q => e q.symm)).trans hx⟩
theorem cell?_apart {W : World} {p : Addr} {g j : Nat} {a v : Value} (h : p.block ≠ g) (hc : W.cell? p = some v) : (W.setCell ⟨g, j, none⟩ a).cell? p = some v :=
  (World.cell?_setCell_other _ _ _ _ (fun q => h (by rw [← q]))).trans hc

theorem held_16_0 {w W w1 : World} {p0 p1 p2 p3 p4 p5 p6 p7 p8 p9 p10 p11 p12 p13 p14 p15 : Addr} {v0 v1 v2 v3 v4 v5 v6 v7 v8 v9 v10 v11 v12 v13 v14 v15 : Value} (hb : Below W.heap.size W w1) (h : Below w.heap.size w W ∧ W.cell? p0 = some v0 ∧ W.cell? p1 = some v1 ∧ W.cell? p2 = some v2 ∧ W.cell? p3 = some v3 ∧ W.cell? p4 = some v4 ∧ W.cell? p5 = some v5 ∧ W.cell? p6 = some v6 ∧ W.cell? p7 = some v7 ∧ W.cell? p8 = some v8 ∧ W.cell? p9 = some v9 ∧ W.cell? p10 = some v10 ∧ W.cell? p11 = some v11 ∧ W.cell? p12 = some v12 ∧ W.cell? p13 = some v13 ∧ W.cell? p14 = some v14 ∧ W.cell? p15 = some v15) :
    Below w.heap.size w w1 ∧ w1.cell? p0 = some v0 ∧ w1.cell? p1 = some v1 ∧ w1.cell? p2 = some v2 ∧ w1.cell? p3 = some v3 ∧ w1.cell? p4 = some v4 ∧ w1.cell? p5 = some v5 ∧ w1.cell? p6 = some v6 ∧ w1.cell? p7 = some v7 ∧ w1.cell? p8 = some v8 ∧ w1.cell? p9 = some v9 ∧ w1.cell? p10 = some v10 ∧ w1.cell? p11 = some v11 ∧ w1.cell? p12 = some v12 ∧ w1.cell? p13 = some v13 ∧ w1.cell? p14 = some v14 ∧ w1.cell? p15 = some v15 := by
  obtain ⟨q, q0, q1, q2, q3, q4, q5, q6, q7, q8, q9, q10, q11, q12, q13, q14, q15⟩ := h
  exact ⟨q.trans (hb.mono q.size), (hb.cell (cell_there q0).1).trans q0, (hb.cell (cell_there q1).1).trans q1, (hb.cell (cell_there q2).1).trans q2, (hb.cell (cell_there q3).1).trans q3, (hb.cell (cell_there q4).1).trans q4, (hb.cell (cell_there q5).1).trans q5, (hb.cell (cell_there q6).1).trans q6, (hb.cell (cell_there q7).1).trans q7, (hb.cell (cell_there q8).1).trans q8, (hb.cell (cell_there q9).1).trans q9, (hb.cell (cell_there q10).1).trans q10, (hb.cell (cell_there q11).1).trans q11, (hb.cell (cell_there q12).1).trans q12, (hb.cell (cell_there q13).1).trans q13, (hb.cell (cell_there q14).1).trans q14, (hb.cell (cell_there q15).1).trans q15⟩

theorem held_6_0 {w W w1 : World} {p0 p1 p2 p3 p4 p5 : Addr} {v0 v1 v2 v3 v4 v5 : Value} (hb : Below W.heap.size W w1) (h : Below w.heap.size w W ∧ W.cell? p0 = some v0 ∧ W.cell? p1 = some v1 ∧ W.cell? p2 = some v2 ∧ W.cell? p3 = some v3 ∧ W.cell? p4 = some v4 ∧ W.cell? p5 = some v5) :
    Below w.heap.size w w1 ∧ w1.cell? p0 = some v0 ∧ w1.cell? p1 = some v1 ∧ w1.cell? p2 = some v2 ∧ w1.cell? p3 = some v3 ∧ w1.cell? p4 = some v4 ∧ w1.cell? p5 = some v5 := by
  obtain ⟨q, q0, q1, q2, q3, q4, q5⟩ := h
  exact ⟨q.trans (hb.mono q.size), (hb.cell (cell_there q0).1).trans q0, (hb.cell (cell_there q1).1).trans q1, (hb.cell (cell_there q2).1).trans q2, (hb.cell (cell_there q3).1).trans q3, (hb.cell (cell_there q4).1).trans q4, (hb.cell (cell_there q5).1).trans q5⟩

theorem held_4_0 {w W w1 : World} {p0 p1 p2 p3 : Addr} {v0 v1 v2 v3 : Value} (hb : Below W.heap.size W w1) (h : Below w.heap.size w W ∧ W.cell? p0 = some v0 ∧ W.cell? p1 = some v1 ∧ W.cell? p2 = some v2 ∧ W.cell? p3 = some v3) :
    Below w.heap.size w w1 ∧ w1.cell? p0 = some v0 ∧ w1.cell? p1 = some v1 ∧ w1.cell? p2 = some v2 ∧ w1.cell? p3 = some v3 := by
  obtain ⟨q, q0, q1, q2, q3⟩ := h
  exact ⟨q.trans (hb.mono q.size), (hb.cell (cell_there q0).1).trans q0, (hb.cell (cell_there q1).1).trans q1, (hb.cell (cell_there q2).1).trans q2, (hb.cell (cell_there q3).1).trans q3⟩

theorem held_4_2 {w W w1 : World} {p0 p1 p2 p3 : Addr} {v0 v1 v2 v3 : Value} {g : Nat} (hb : Below W.heap.size W w1) (h : Below w.heap.size w W ∧ W.cell? p0 = some v0 ∧ W.cell? p1 = some v1 ∧ W.cell? p2 = some v2 ∧ W.cell? p3 = some v3 ∧ (∃ x, W.cell? ⟨g, 0, none⟩ = some x) ∧ (∃ x, W.cell? ⟨g, 1, none⟩ = some x) ∧ W.frozen? ⟨g, 0, none⟩ = false ∧ W.frozen? ⟨g, 1, none⟩ = false) :
    Below w.heap.size w w1 ∧ w1.cell? p0 = some v0 ∧ w1.cell? p1 = some v1 ∧ w1.cell? p2 = some v2 ∧ w1.cell? p3 = some v3 ∧ (∃ x, w1.cell? ⟨g, 0, none⟩ = some x) ∧ (∃ x, w1.cell? ⟨g, 1, none⟩ = some x) ∧ w1.frozen? ⟨g, 0, none⟩ = false ∧ w1.frozen? ⟨g, 1, none⟩ = false := by
  obtain ⟨q, q0, q1, q2, q3, ⟨x0, z0⟩, ⟨x1, z1⟩, f0, f1⟩ := h
  exact ⟨q.trans (hb.mono q.size), (hb.cell (cell_there q0).1).trans q0, (hb.cell (cell_there q1).1).trans q1, (hb.cell (cell_there q2).1).trans q2, (hb.cell (cell_there q3).1).trans q3, ⟨x0, (hb.cell (cell_there z0).1).trans z0⟩, ⟨x1, (hb.cell (cell_there z1).1).trans z1⟩, (hb.frozen (cell_there z0).1).trans f0, (hb.frozen (cell_there z1).1).trans f1⟩

set_option maxRecDepth 100000 in
set_option maxHeartbeats 1000000 in
theorem heldset_4_2 {w W : World} {p0 p1 p2 p3 : Addr} {v0 v1 v2 v3 : Value} {g : Nat} (a0 a1 : Value) (hg : w.heap.size ≤ g) (hn : p0.block ≠ g ∧ p1.block ≠ g ∧ p2.block ≠ g ∧ p3.block ≠ g) (h : Below w.heap.size w W ∧ W.cell? p0 = some v0 ∧ W.cell? p1 = some v1 ∧ W.cell? p2 = some v2 ∧ W.cell? p3 = some v3 ∧ (∃ x, W.cell? ⟨g, 0, none⟩ = some x) ∧ (∃ x, W.cell? ⟨g, 1, none⟩ = some x) ∧ W.frozen? ⟨g, 0, none⟩ = false ∧ W.frozen? ⟨g, 1, none⟩ = false) :
    Below w.heap.size w ((W.setCell ⟨g, 0, none⟩ a0).setCell ⟨g, 1, none⟩ a1) ∧ ((W.setCell ⟨g, 0, none⟩ a0).setCell ⟨g, 1, none⟩ a1).cell? p0 = some v0 ∧ ((W.setCell ⟨g, 0, none⟩ a0).setCell ⟨g, 1, none⟩ a1).cell? p1 = some v1 ∧ ((W.setCell ⟨g, 0, none⟩ a0).setCell ⟨g, 1, none⟩ a1).cell? p2 = some v2 ∧ ((W.setCell ⟨g, 0, none⟩ a0).setCell ⟨g, 1, none⟩ a1).cell? p3 = some v3 ∧ (∃ x, ((W.setCell ⟨g, 0, none⟩ a0).setCell ⟨g, 1, none⟩ a1).cell? ⟨g, 0, none⟩ = some x) ∧ (∃ x, ((W.setCell ⟨g, 0, none⟩ a0).setCell ⟨g, 1, none⟩ a1).cell? ⟨g, 1, none⟩ = some x) ∧ ((W.setCell ⟨g, 0, none⟩ a0).setCell ⟨g, 1, none⟩ a1).frozen? ⟨g, 0, none⟩ = false ∧ ((W.setCell ⟨g, 0, none⟩ a0).setCell ⟨g, 1, none⟩ a1).frozen? ⟨g, 1, none⟩ = false := by
  obtain ⟨q, q0, q1, q2, q3, ⟨x0, z0⟩, ⟨x1, z1⟩, f0, f1⟩ := h
  obtain ⟨d0, d1, d2, d3⟩ := hn
  refine ⟨((q.setCell (by exact hg) _).setCell (by exact hg) _), (cell?_apart d0 (cell?_apart d0 q0)), (cell?_apart d1 (cell?_apart d1 q1)), (cell?_apart d2 (cell?_apart d2 q2)), (cell?_apart d3 (cell?_apart d3 q3)), ?_, ?_, ?_, ?_⟩
  · exact cell?_some_after _ (cell?_some_after _ (⟨x0, z0⟩))
  · exact cell?_some_after _ (cell?_some_after _ (⟨x1, z1⟩))
  · simp only [World.frozen?_setCell]; exact f0
  · simp only [World.frozen?_setCell]; exact f1

theorem held_3_6 {w W w1 : World} {p0 p1 p2 : Addr} {v0 v1 v2 : Value} {g : Nat} (hb : Below W.heap.size W w1) (h : Below w.heap.size w W ∧ W.cell? p0 = some v0 ∧ W.cell? p1 = some v1 ∧ W.cell? p2 = some v2 ∧ (∃ x, W.cell? ⟨g, 0, none⟩ = some x) ∧ (∃ x, W.cell? ⟨g, 1, none⟩ = some x) ∧ (∃ x, W.cell? ⟨g, 2, none⟩ = some x) ∧ (∃ x, W.cell? ⟨g, 3, none⟩ = some x) ∧ (∃ x, W.cell? ⟨g, 4, none⟩ = some x) ∧ (∃ x, W.cell? ⟨g, 5, none⟩ = some x) ∧ W.frozen? ⟨g, 0, none⟩ = false ∧ W.frozen? ⟨g, 1, none⟩ = false ∧ W.frozen? ⟨g, 2, none⟩ = false ∧ W.frozen? ⟨g, 3, none⟩ = false ∧ W.frozen? ⟨g, 4, none⟩ = false ∧ W.frozen? ⟨g, 5, none⟩ = false) :
    Below w.heap.size w w1 ∧ w1.cell? p0 = some v0 ∧ w1.cell? p1 = some v1 ∧ w1.cell? p2 = some v2 ∧ (∃ x, w1.cell? ⟨g, 0, none⟩ = some x) ∧ (∃ x, w1.cell? ⟨g, 1, none⟩ = some x) ∧ (∃ x, w1.cell? ⟨g, 2, none⟩ = some x) ∧ (∃ x, w1.cell? ⟨g, 3, none⟩ = some x) ∧ (∃ x, w1.cell? ⟨g, 4, none⟩ = some x) ∧ (∃ x, w1.cell? ⟨g, 5, none⟩ = some x) ∧ w1.frozen? ⟨g, 0, none⟩ = false ∧ w1.frozen? ⟨g, 1, none⟩ = false ∧ w1.frozen? ⟨g, 2, none⟩ = false ∧ w1.frozen? ⟨g, 3, none⟩ = false ∧ w1.frozen? ⟨g, 4, none⟩ = false ∧ w1.frozen? ⟨g, 5, none⟩ = false := by
  obtain ⟨q, q0, q1, q2, ⟨x0, z0⟩, ⟨x1, z1⟩, ⟨x2, z2⟩, ⟨x3, z3⟩, ⟨x4, z4⟩, ⟨x5, z5⟩, f0, f1, f2, f3, f4, f5⟩ := h
  exact ⟨q.trans (hb.mono q.size), (hb.cell (cell_there q0).1).trans q0, (hb.cell (cell_there q1).1).trans q1, (hb.cell (cell_there q2).1).trans q2, ⟨x0, (hb.cell (cell_there z0).1).trans z0⟩, ⟨x1, (hb.cell (cell_there z1).1).trans z1⟩, ⟨x2, (hb.cell (cell_there z2).1).trans z2⟩, ⟨x3, (hb.cell (cell_there z3).1).trans z3⟩, ⟨x4, (hb.cell (cell_there z4).1).trans z4⟩, ⟨x5, (hb.cell (cell_there z5).1).trans z5⟩, (hb.frozen (cell_there z0).1).trans f0, (hb.frozen (cell_there z1).1).trans f1, (hb.frozen (cell_there z2).1).trans f2, (hb.frozen (cell_there z3).1).trans f3, (hb.frozen (cell_there z4).1).trans f4, (hb.frozen (cell_there z5).1).trans f5⟩

set_option maxRecDepth 100000 in
set_option maxHeartbeats 1000000 in
theorem heldset_3_6 {w W : World} {p0 p1 p2 : Addr} {v0 v1 v2 : Value} {g : Nat} (a0 a1 a2 a3 a4 a5 : Value) (hg : w.heap.size ≤ g) (hn : p0.block ≠ g ∧ p1.block ≠ g ∧ p2.block ≠ g) (h : Below w.heap.size w W ∧ W.cell? p0 = some v0 ∧ W.cell? p1 = some v1 ∧ W.cell? p2 = some v2 ∧ (∃ x, W.cell? ⟨g, 0, none⟩ = some x) ∧ (∃ x, W.cell? ⟨g, 1, none⟩ = some x) ∧ (∃ x, W.cell? ⟨g, 2, none⟩ = some x) ∧ (∃ x, W.cell? ⟨g, 3, none⟩ = some x) ∧ (∃ x, W.cell? ⟨g, 4, none⟩ = some x) ∧ (∃ x, W.cell? ⟨g, 5, none⟩ = some x) ∧ W.frozen? ⟨g, 0, none⟩ = false ∧ W.frozen? ⟨g, 1, none⟩ = false ∧ W.frozen? ⟨g, 2, none⟩ = false ∧ W.frozen? ⟨g, 3, none⟩ = false ∧ W.frozen? ⟨g, 4, none⟩ = false ∧ W.frozen? ⟨g, 5, none⟩ = false) :
    Below w.heap.size w ((((((W.setCell ⟨g, 0, none⟩ a0).setCell ⟨g, 1, none⟩ a1).setCell ⟨g, 2, none⟩ a2).setCell ⟨g, 3, none⟩ a3).setCell ⟨g, 4, none⟩ a4).setCell ⟨g, 5, none⟩ a5) ∧ ((((((W.setCell ⟨g, 0, none⟩ a0).setCell ⟨g, 1, none⟩ a1).setCell ⟨g, 2, none⟩ a2).setCell ⟨g, 3, none⟩ a3).setCell ⟨g, 4, none⟩ a4).setCell ⟨g, 5, none⟩ a5).cell? p0 = some v0 ∧ ((((((W.setCell ⟨g, 0, none⟩ a0).setCell ⟨g, 1, none⟩ a1).setCell ⟨g, 2, none⟩ a2).setCell ⟨g, 3, none⟩ a3).setCell ⟨g, 4, none⟩ a4).setCell ⟨g, 5, none⟩ a5).cell? p1 = some v1 ∧ ((((((W.setCell ⟨g, 0, none⟩ a0).setCell ⟨g, 1, none⟩ a1).setCell ⟨g, 2, none⟩ a2).setCell ⟨g, 3, none⟩ a3).setCell ⟨g, 4, none⟩ a4).setCell ⟨g, 5, none⟩ a5).cell? p2 = some v2 ∧ (∃ x, ((((((W.setCell ⟨g, 0, none⟩ a0).setCell ⟨g, 1, none⟩ a1).setCell ⟨g, 2, none⟩ a2).setCell ⟨g, 3, none⟩ a3).setCell ⟨g, 4, none⟩ a4).setCell ⟨g, 5, none⟩ a5).cell? ⟨g, 0, none⟩ = some x) ∧ (∃ x, ((((((W.setCell ⟨g, 0, none⟩ a0).setCell ⟨g, 1, none⟩ a1).setCell ⟨g, 2, none⟩ a2).setCell ⟨g, 3, none⟩ a3).setCell ⟨g, 4, none⟩ a4).setCell ⟨g, 5, none⟩ a5).cell? ⟨g, 1, none⟩ = some x) ∧ (∃ x, ((((((W.setCell ⟨g, 0, none⟩ a0).setCell ⟨g, 1, none⟩ a1).setCell ⟨g, 2, none⟩ a2).setCell ⟨g, 3, none⟩ a3).setCell ⟨g, 4, none⟩ a4).setCell ⟨g, 5, none⟩ a5).cell? ⟨g, 2, none⟩ = some x) ∧ (∃ x, ((((((W.setCell ⟨g, 0, none⟩ a0).setCell ⟨g, 1, none⟩ a1).setCell ⟨g, 2, none⟩ a2).setCell ⟨g, 3, none⟩ a3).setCell ⟨g, 4, none⟩ a4).setCell ⟨g, 5, none⟩ a5).cell? ⟨g, 3, none⟩ = some x) ∧ (∃ x, ((((((W.setCell ⟨g, 0, none⟩ a0).setCell ⟨g, 1, none⟩ a1).setCell ⟨g, 2, none⟩ a2).setCell ⟨g, 3, none⟩ a3).setCell ⟨g, 4, none⟩ a4).setCell ⟨g, 5, none⟩ a5).cell? ⟨g, 4, none⟩ = some x) ∧ (∃ x, ((((((W.setCell ⟨g, 0, none⟩ a0).setCell ⟨g, 1, none⟩ a1).setCell ⟨g, 2, none⟩ a2).setCell ⟨g, 3, none⟩ a3).setCell ⟨g, 4, none⟩ a4).setCell ⟨g, 5, none⟩ a5).cell? ⟨g, 5, none⟩ = some x) ∧ ((((((W.setCell ⟨g, 0, none⟩ a0).setCell ⟨g, 1, none⟩ a1).setCell ⟨g, 2, none⟩ a2).setCell ⟨g, 3, none⟩ a3).setCell ⟨g, 4, none⟩ a4).setCell ⟨g, 5, none⟩ a5).frozen? ⟨g, 0, none⟩ = false ∧ ((((((W.setCell ⟨g, 0, none⟩ a0).setCell ⟨g, 1, none⟩ a1).setCell ⟨g, 2, none⟩ a2).setCell ⟨g, 3, none⟩ a3).setCell ⟨g, 4, none⟩ a4).setCell ⟨g, 5, none⟩ a5).frozen? ⟨g, 1, none⟩ = false ∧ ((((((W.setCell ⟨g, 0, none⟩ a0).setCell ⟨g, 1, none⟩ a1).setCell ⟨g, 2, none⟩ a2).setCell ⟨g, 3, none⟩ a3).setCell ⟨g, 4, none⟩ a4).setCell ⟨g, 5, none⟩ a5).frozen? ⟨g, 2, none⟩ = false ∧ ((((((W.setCell ⟨g, 0, none⟩ a0).setCell ⟨g, 1, none⟩ a1).setCell ⟨g, 2, none⟩ a2).setCell ⟨g, 3, none⟩ a3).setCell ⟨g, 4, none⟩ a4).setCell ⟨g, 5, none⟩ a5).frozen? ⟨g, 3, none⟩ = false ∧ ((((((W.setCell ⟨g, 0, none⟩ a0).setCell ⟨g, 1, none⟩ a1).setCell ⟨g, 2, none⟩ a2).setCell ⟨g, 3, none⟩ a3).setCell ⟨g, 4, none⟩ a4).setCell ⟨g, 5, none⟩ a5).frozen? ⟨g, 4, none⟩ = false ∧ ((((((W.setCell ⟨g, 0, none⟩ a0).setCell ⟨g, 1, none⟩ a1).setCell ⟨g, 2, none⟩ a2).setCell ⟨g, 3, none⟩ a3).setCell ⟨g, 4, none⟩ a4).setCell ⟨g, 5, none⟩ a5).frozen? ⟨g, 5, none⟩ = false := by
  obtain ⟨q, q0, q1, q2, ⟨x0, z0⟩, ⟨x1, z1⟩, ⟨x2, z2⟩, ⟨x3, z3⟩, ⟨x4, z4⟩, ⟨x5, z5⟩, f0, f1, f2, f3, f4, f5⟩ := h
  obtain ⟨d0, d1, d2⟩ := hn
  refine ⟨((((((q.setCell (by exact hg) _).setCell (by exact hg) _).setCell (by exact hg) _).setCell (by exact hg) _).setCell (by exact hg) _).setCell (by exact hg) _), (cell?_apart d0 (cell?_apart d0 (cell?_apart d0 (cell?_apart d0 (cell?_apart d0 (cell?_apart d0 q0)))))), (cell?_apart d1 (cell?_apart d1 (cell?_apart d1 (cell?_apart d1 (cell?_apart d1 (cell?_apart d1 q1)))))), (cell?_apart d2 (cell?_apart d2 (cell?_apart d2 (cell?_apart d2 (cell?_apart d2 (cell?_apart d2 q2)))))), ?_, ?_, ?_, ?_, ?_, ?_, ?_, ?_, ?_, ?_, ?_, ?_⟩
  · exact cell?_some_after _ (cell?_some_after _ (cell?_some_after _ (cell?_some_after _ (cell?_some_after _ (cell?_some_after _ (⟨x0, z0⟩))))))
  · exact cell?_some_after _ (cell?_some_after _ (cell?_some_after _ (cell?_some_after _ (cell?_some_after _ (cell?_some_after _ (⟨x1, z1⟩))))))
  · exact cell?_some_after _ (cell?_some_after _ (cell?_some_after _ (cell?_some_after _ (cell?_some_after _ (cell?_some_after _ (⟨x2, z2⟩))))))
  · exact cell?_some_after _ (cell?_some_after _ (cell?_some_after _ (cell?_some_after _ (cell?_some_after _ (cell?_some_after _ (⟨x3, z3⟩))))))
  · exact cell?_some_after _ (cell?_some_after _ (cell?_some_after _ (cell?_some_after _ (cell?_some_after _ (cell?_some_after _ (⟨x4, z4⟩))))))
  · exact cell?_some_after _ (cell?_some_after _ (cell?_some_after _ (cell?_some_after _ (cell?_some_after _ (cell?_some_after _ (⟨x5, z5⟩))))))
  · simp only [World.frozen?_setCell]; exact f0
  · simp only [World.frozen?_setCell]; exact f1
  · simp only [World.frozen?_setCell]; exact f2
  · simp only [World.frozen?_setCell]; exact f3
  · simp only [World.frozen?_setCell]; exact f4
  · simp only [World.frozen?_setCell]; exact f5

theorem held_5_2 {w W w1 : World} {p0 p1 p2 p3 p4 : Addr} {v0 v1 v2 v3 v4 : Value} {g : Nat} (hb : Below W.heap.size W w1) (h : Below w.heap.size w W ∧ W.cell? p0 = some v0 ∧ W.cell? p1 = some v1 ∧ W.cell? p2 = some v2 ∧ W.cell? p3 = some v3 ∧ W.cell? p4 = some v4 ∧ (∃ x, W.cell? ⟨g, 0, none⟩ = some x) ∧ (∃ x, W.cell? ⟨g, 1, none⟩ = some x) ∧ W.frozen? ⟨g, 0, none⟩ = false ∧ W.frozen? ⟨g, 1, none⟩ = false) :
    Below w.heap.size w w1 ∧ w1.cell? p0 = some v0 ∧ w1.cell? p1 = some v1 ∧ w1.cell? p2 = some v2 ∧ w1.cell? p3 = some v3 ∧ w1.cell? p4 = some v4 ∧ (∃ x, w1.cell? ⟨g, 0, none⟩ = some x) ∧ (∃ x, w1.cell? ⟨g, 1, none⟩ = some x) ∧ w1.frozen? ⟨g, 0, none⟩ = false ∧ w1.frozen? ⟨g, 1, none⟩ = false := by
  obtain ⟨q, q0, q1, q2, q3, q4, ⟨x0, z0⟩, ⟨x1, z1⟩, f0, f1⟩ := h
  exact ⟨q.trans (hb.mono q.size), (hb.cell (cell_there q0).1).trans q0, (hb.cell (cell_there q1).1).trans q1, (hb.cell (cell_there q2).1).trans q2, (hb.cell (cell_there q3).1).trans q3, (hb.cell (cell_there q4).1).trans q4, ⟨x0, (hb.cell (cell_there z0).1).trans z0⟩, ⟨x1, (hb.cell (cell_there z1).1).trans z1⟩, (hb.frozen (cell_there z0).1).trans f0, (hb.frozen (cell_there z1).1).trans f1⟩

set_option maxRecDepth 100000 in
set_option maxHeartbeats 1000000 in
theorem heldset_5_2 {w W : World} {p0 p1 p2 p3 p4 : Addr} {v0 v1 v2 v3 v4 : Value} {g : Nat} (a0 a1 : Value) (hg : w.heap.size ≤ g) (hn : p0.block ≠ g ∧ p1.block ≠ g ∧ p2.block ≠ g ∧ p3.block ≠ g ∧ p4.block ≠ g) (h : Below w.heap.size w W ∧ W.cell? p0 = some v0 ∧ W.cell? p1 = some v1 ∧ W.cell? p2 = some v2 ∧ W.cell? p3 = some v3 ∧ W.cell? p4 = some v4 ∧ (∃ x, W.cell? ⟨g, 0, none⟩ = some x) ∧ (∃ x, W.cell? ⟨g, 1, none⟩ = some x) ∧ W.frozen? ⟨g, 0, none⟩ = false ∧ W.frozen? ⟨g, 1, none⟩ = false) :
    Below w.heap.size w ((W.setCell ⟨g, 0, none⟩ a0).setCell ⟨g, 1, none⟩ a1) ∧ ((W.setCell ⟨g, 0, none⟩ a0).setCell ⟨g, 1, none⟩ a1).cell? p0 = some v0 ∧ ((W.setCell ⟨g, 0, none⟩ a0).setCell ⟨g, 1, none⟩ a1).cell? p1 = some v1 ∧ ((W.setCell ⟨g, 0, none⟩ a0).setCell ⟨g, 1, none⟩ a1).cell? p2 = some v2 ∧ ((W.setCell ⟨g, 0, none⟩ a0).setCell ⟨g, 1, none⟩ a1).cell? p3 = some v3 ∧ ((W.setCell ⟨g, 0, none⟩ a0).setCell ⟨g, 1, none⟩ a1).cell? p4 = some v4 ∧ (∃ x, ((W.setCell ⟨g, 0, none⟩ a0).setCell ⟨g, 1, none⟩ a1).cell? ⟨g, 0, none⟩ = some x) ∧ (∃ x, ((W.setCell ⟨g, 0, none⟩ a0).setCell ⟨g, 1, none⟩ a1).cell? ⟨g, 1, none⟩ = some x) ∧ ((W.setCell ⟨g, 0, none⟩ a0).setCell ⟨g, 1, none⟩ a1).frozen? ⟨g, 0, none⟩ = false ∧ ((W.setCell ⟨g, 0, none⟩ a0).setCell ⟨g, 1, none⟩ a1).frozen? ⟨g, 1, none⟩ = false := by
  obtain ⟨q, q0, q1, q2, q3, q4, ⟨x0, z0⟩, ⟨x1, z1⟩, f0, f1⟩ := h
  obtain ⟨d0, d1, d2, d3, d4⟩ := hn
  refine ⟨((q.setCell (by exact hg) _).setCell (by exact hg) _), (cell?_apart d0 (cell?_apart d0 q0)), (cell?_apart d1 (cell?_apart d1 q1)), (cell?_apart d2 (cell?_apart d2 q2)), (cell?_apart d3 (cell?_apart d3 q3)), (cell?_apart d4 (cell?_apart d4 q4)), ?_, ?_, ?_, ?_⟩
  · exact cell?_some_after _ (cell?_some_after _ (⟨x0, z0⟩))
  · exact cell?_some_after _ (cell?_some_after _ (⟨x1, z1⟩))
  · simp only [World.frozen?_setCell]; exact f0
  · simp only [World.frozen?_setCell]; exact f1

theorem held_3_2 {w W w1 : World} {p0 p1 p2 : Addr} {v0 v1 v2 : Value} {g : Nat} (hb : Below W.heap.size W w1) (h : Below w.heap.size w W ∧ W.cell? p0 = some v0 ∧ W.cell? p1 = some v1 ∧ W.cell? p2 = some v2 ∧ (∃ x, W.cell? ⟨g, 0, none⟩ = some x) ∧ (∃ x, W.cell? ⟨g, 1, none⟩ = some x) ∧ W.frozen? ⟨g, 0, none⟩ = false ∧ W.frozen? ⟨g, 1, none⟩ = false) :
    Below w.heap.size w w1 ∧ w1.cell? p0 = some v0 ∧ w1.cell? p1 = some v1 ∧ w1.cell? p2 = some v2 ∧ (∃ x, w1.cell? ⟨g, 0, none⟩ = some x) ∧ (∃ x, w1.cell? ⟨g, 1, none⟩ = some x) ∧ w1.frozen? ⟨g, 0, none⟩ = false ∧ w1.frozen? ⟨g, 1, none⟩ = false := by
  obtain ⟨q, q0, q1, q2, ⟨x0, z0⟩, ⟨x1, z1⟩, f0, f1⟩ := h
  exact ⟨q.trans (hb.mono q.size), (hb.cell (cell_there q0).1).trans q0, (hb.cell (cell_there q1).1).trans q1, (hb.cell (cell_there q2).1).trans q2, ⟨x0, (hb.cell (cell_there z0).1).trans z0⟩, ⟨x1, (hb.cell (cell_there z1).1).trans z1⟩, (hb.frozen (cell_there z0).1).trans f0, (hb.frozen (cell_there z1).1).trans f1⟩

set_option maxRecDepth 100000 in
set_option maxHeartbeats 1000000 in
theorem heldset_3_2 {w W : World} {p0 p1 p2 : Addr} {v0 v1 v2 : Value} {g : Nat} (a0 a1 : Value) (hg : w.heap.size ≤ g) (hn : p0.block ≠ g ∧ p1.block ≠ g ∧ p2.block ≠ g) (h : Below w.heap.size w W ∧ W.cell? p0 = some v0 ∧ W.cell? p1 = some v1 ∧ W.cell? p2 = some v2 ∧ (∃ x, W.cell? ⟨g, 0, none⟩ = some x) ∧ (∃ x, W.cell? ⟨g, 1, none⟩ = some x) ∧ W.frozen? ⟨g, 0, none⟩ = false ∧ W.frozen? ⟨g, 1, none⟩ = false) :
    Below w.heap.size w ((W.setCell ⟨g, 0, none⟩ a0).setCell ⟨g, 1, none⟩ a1) ∧ ((W.setCell ⟨g, 0, none⟩ a0).setCell ⟨g, 1, none⟩ a1).cell? p0 = some v0 ∧ ((W.setCell ⟨g, 0, none⟩ a0).setCell ⟨g, 1, none⟩ a1).cell? p1 = some v1 ∧ ((W.setCell ⟨g, 0, none⟩ a0).setCell ⟨g, 1, none⟩ a1).cell? p2 = some v2 ∧ (∃ x, ((W.setCell ⟨g, 0, none⟩ a0).setCell ⟨g, 1, none⟩ a1).cell? ⟨g, 0, none⟩ = some x) ∧ (∃ x, ((W.setCell ⟨g, 0, none⟩ a0).setCell ⟨g, 1, none⟩ a1).cell? ⟨g, 1, none⟩ = some x) ∧ ((W.setCell ⟨g, 0, none⟩ a0).setCell ⟨g, 1, none⟩ a1).frozen? ⟨g, 0, none⟩ = false ∧ ((W.setCell ⟨g, 0, none⟩ a0).setCell ⟨g, 1, none⟩ a1).frozen? ⟨g, 1, none⟩ = false := by
  obtain ⟨q, q0, q1, q2, ⟨x0, z0⟩, ⟨x1, z1⟩, f0, f1⟩ := h
  obtain ⟨d0, d1, d2⟩ := hn
  refine ⟨((q.setCell (by exact hg) _).setCell (by exact hg) _), (cell?_apart d0 (cell?_apart d0 q0)), (cell?_apart d1 (cell?_apart d1 q1)), (cell?_apart d2 (cell?_apart d2 q2)), ?_, ?_, ?_, ?_⟩
  · exact cell?_some_after _ (cell?_some_after _ (⟨x0, z0⟩))
  · exact cell?_some_after _ (cell?_some_after _ (⟨x1, z1⟩))
  · simp only [World.frozen?_setCell]; exact f0
  · simp only [World.frozen?_setCell]; exact f1

theorem held_6_2 {w W w1 : World} {p0 p1 p2 p3 p4 p5 : Addr} {v0 v1 v2 v3 v4 v5 : Value} {g : Nat} (hb : Below W.heap.size W w1) (h : Below w.heap.size w W ∧ W.cell? p0 = some v0 ∧ W.cell? p1 = some v1 ∧ W.cell? p2 = some v2 ∧ W.cell? p3 = some v3 ∧ W.cell? p4 = some v4 ∧ W.cell? p5 = some v5 ∧ (∃ x, W.cell? ⟨g, 0, none⟩ = some x) ∧ (∃ x, W.cell? ⟨g, 1, none⟩ = some x) ∧ W.frozen? ⟨g, 0, none⟩ = false ∧ W.frozen? ⟨g, 1, none⟩ = false) :
    Below w.heap.size w w1 ∧ w1.cell? p0 = some v0 ∧ w1.cell? p1 = some v1 ∧ w1.cell? p2 = some v2 ∧ w1.cell? p3 = some v3 ∧ w1.cell? p4 = some v4 ∧ w1.cell? p5 = some v5 ∧ (∃ x, w1.cell? ⟨g, 0, none⟩ = some x) ∧ (∃ x, w1.cell? ⟨g, 1, none⟩ = some x) ∧ w1.frozen? ⟨g, 0, none⟩ = false ∧ w1.frozen? ⟨g, 1, none⟩ = false := by
  obtain ⟨q, q0, q1, q2, q3, q4, q5, ⟨x0, z0⟩, ⟨x1, z1⟩, f0, f1⟩ := h
  exact ⟨q.trans (hb.mono q.size), (hb.cell (cell_there q0).1).trans q0, (hb.cell (cell_there q1).1).trans q1, (hb.cell (cell_there q2).1).trans q2, (hb.cell (cell_there q3).1).trans q3, (hb.cell (cell_there q4).1).trans q4, (hb.cell (cell_there q5).1).trans q5, ⟨x0, (hb.cell (cell_there z0).1).trans z0⟩, ⟨x1, (hb.cell (cell_there z1).1).trans z1⟩, (hb.frozen (cell_there z0).1).trans f0, (hb.frozen (cell_there z1).1).trans f1⟩

set_option maxRecDepth 100000 in
set_option maxHeartbeats 1000000 in
theorem heldset_6_2 {w W : World} {p0 p1 p2 p3 p4 p5 : Addr} {v0 v1 v2 v3 v4 v5 : Value} {g : Nat} (a0 a1 : Value) (hg : w.heap.size ≤ g) (hn : p0.block ≠ g ∧ p1.block ≠ g ∧ p2.block ≠ g ∧ p3.block ≠ g ∧ p4.block ≠ g ∧ p5.block ≠ g) (h : Below w.heap.size w W ∧ W.cell? p0 = some v0 ∧ W.cell? p1 = some v1 ∧ W.cell? p2 = some v2 ∧ W.cell? p3 = some v3 ∧ W.cell? p4 = some v4 ∧ W.cell? p5 = some v5 ∧ (∃ x, W.cell? ⟨g, 0, none⟩ = some x) ∧ (∃ x, W.cell? ⟨g, 1, none⟩ = some x) ∧ W.frozen? ⟨g, 0, none⟩ = false ∧ W.frozen? ⟨g, 1, none⟩ = false) :
    Below w.heap.size w ((W.setCell ⟨g, 0, none⟩ a0).setCell ⟨g, 1, none⟩ a1) ∧ ((W.setCell ⟨g, 0, none⟩ a0).setCell ⟨g, 1, none⟩ a1).cell? p0 = some v0 ∧ ((W.setCell ⟨g, 0, none⟩ a0).setCell ⟨g, 1, none⟩ a1).cell? p1 = some v1 ∧ ((W.setCell ⟨g, 0, none⟩ a0).setCell ⟨g, 1, none⟩ a1).cell? p2 = some v2 ∧ ((W.setCell ⟨g, 0, none⟩ a0).setCell ⟨g, 1, none⟩ a1).cell? p3 = some v3 ∧ ((W.setCell ⟨g, 0, none⟩ a0).setCell ⟨g, 1, none⟩ a1).cell? p4 = some v4 ∧ ((W.setCell ⟨g, 0, none⟩ a0).setCell ⟨g, 1, none⟩ a1).cell? p5 = some v5 ∧ (∃ x, ((W.setCell ⟨g, 0, none⟩ a0).setCell ⟨g, 1, none⟩ a1).cell? ⟨g, 0, none⟩ = some x) ∧ (∃ x, ((W.setCell ⟨g, 0, none⟩ a0).setCell ⟨g, 1, none⟩ a1).cell? ⟨g, 1, none⟩ = some x) ∧ ((W.setCell ⟨g, 0, none⟩ a0).setCell ⟨g, 1, none⟩ a1).frozen? ⟨g, 0, none⟩ = false ∧ ((W.setCell ⟨g, 0, none⟩ a0).setCell ⟨g, 1, none⟩ a1).frozen? ⟨g, 1, none⟩ = false := by
  obtain ⟨q, q0, q1, q2, q3, q4, q5, ⟨x0, z0⟩, ⟨x1, z1⟩, f0, f1⟩ := h
  obtain ⟨d0, d1, d2, d3, d4, d5⟩ := hn
  refine ⟨((q.setCell (by exact hg) _).setCell (by exact hg) _), (cell?_apart d0 (cell?_apart d0 q0)), (cell?_apart d1 (cell?_apart d1 q1)), (cell?_apart d2 (cell?_apart d2 q2)), (cell?_apart d3 (cell?_apart d3 q3)), (cell?_apart d4 (cell?_apart d4 q4)), (cell?_apart d5 (cell?_apart d5 q5)), ?_, ?_, ?_, ?_⟩
  · exact cell?_some_after _ (cell?_some_after _ (⟨x0, z0⟩))
  · exact cell?_some_after _ (cell?_some_after _ (⟨x1, z1⟩))
  · simp only [World.frozen?_setCell]; exact f0
  · simp only [World.frozen?_setCell]; exact f1

theorem held_7_2 {w W w1 : World} {p0 p1 p2 p3 p4 p5 p6 : Addr} {v0 v1 v2 v3 v4 v5 v6 : Value} {g : Nat} (hb : Below W.heap.size W w1) (h : Below w.heap.size w W ∧ W.cell? p0 = some v0 ∧ W.cell? p1 = some v1 ∧ W.cell? p2 = some v2 ∧ W.cell? p3 = some v3 ∧ W.cell? p4 = some v4 ∧ W.cell? p5 = some v5 ∧ W.cell? p6 = some v6 ∧ (∃ x, W.cell? ⟨g, 0, none⟩ = some x) ∧ (∃ x, W.cell? ⟨g, 1, none⟩ = some x) ∧ W.frozen? ⟨g, 0, none⟩ = false ∧ W.frozen? ⟨g, 1, none⟩ = false) :
    Below w.heap.size w w1 ∧ w1.cell? p0 = some v0 ∧ w1.cell? p1 = some v1 ∧ w1.cell? p2 = some v2 ∧ w1.cell? p3 = some v3 ∧ w1.cell? p4 = some v4 ∧ w1.cell? p5 = some v5 ∧ w1.cell? p6 = some v6 ∧ (∃ x, w1.cell? ⟨g, 0, none⟩ = some x) ∧ (∃ x, w1.cell? ⟨g, 1, none⟩ = some x) ∧ w1.frozen? ⟨g, 0, none⟩ = false ∧ w1.frozen? ⟨g, 1, none⟩ = false := by
  obtain ⟨q, q0, q1, q2, q3, q4, q5, q6, ⟨x0, z0⟩, ⟨x1, z1⟩, f0, f1⟩ := h
  exact ⟨q.trans (hb.mono q.size), (hb.cell (cell_there q0).1).trans q0, (hb.cell (cell_there q1).1).trans q1, (hb.cell (cell_there q2).1).trans q2, (hb.cell (cell_there q3).1).trans q3, (hb.cell (cell_there q4).1).trans q4, (hb.cell (cell_there q5).1).trans q5, (hb.cell (cell_there q6).1).trans q6, ⟨x0, (hb.cell (cell_there z0).1).trans z0⟩, ⟨x1, (hb.cell (cell_there z1).1).trans z1⟩, (hb.frozen (cell_there z0).1).trans f0, (hb.frozen (cell_there z1).1).trans f1⟩

set_option maxRecDepth 100000 in
set_option maxHeartbeats 1000000 in
theorem heldset_7_2 {w W : World} {p0 p1 p2 p3 p4 p5 p6 : Addr} {v0 v1 v2 v3 v4 v5 v6 : Value} {g : Nat} (a0 a1 : Value) (hg : w.heap.size ≤ g) (hn : p0.block ≠ g ∧ p1.block ≠ g ∧ p2.block ≠ g ∧ p3.block ≠ g ∧ p4.block ≠ g ∧ p5.block ≠ g ∧ p6.block ≠ g) (h : Below w.heap.size w W ∧ W.cell? p0 = some v0 ∧ W.cell? p1 = some v1 ∧ W.cell? p2 = some v2 ∧ W.cell? p3 = some v3 ∧ W.cell? p4 = some v4 ∧ W.cell? p5 = some v5 ∧ W.cell? p6 = some v6 ∧ (∃ x, W.cell? ⟨g, 0, none⟩ = some x) ∧ (∃ x, W.cell? ⟨g, 1, none⟩ = some x) ∧ W.frozen? ⟨g, 0, none⟩ = false ∧ W.frozen? ⟨g, 1, none⟩ = false) :
    Below w.heap.size w ((W.setCell ⟨g, 0, none⟩ a0).setCell ⟨g, 1, none⟩ a1) ∧ ((W.setCell ⟨g, 0, none⟩ a0).setCell ⟨g, 1, none⟩ a1).cell? p0 = some v0 ∧ ((W.setCell ⟨g, 0, none⟩ a0).setCell ⟨g, 1, none⟩ a1).cell? p1 = some v1 ∧ ((W.setCell ⟨g, 0, none⟩ a0).setCell ⟨g, 1, none⟩ a1).cell? p2 = some v2 ∧ ((W.setCell ⟨g, 0, none⟩ a0).setCell ⟨g, 1, none⟩ a1).cell? p3 = some v3 ∧ ((W.setCell ⟨g, 0, none⟩ a0).setCell ⟨g, 1, none⟩ a1).cell? p4 = some v4 ∧ ((W.setCell ⟨g, 0, none⟩ a0).setCell ⟨g, 1, none⟩ a1).cell? p5 = some v5 ∧ ((W.setCell ⟨g, 0, none⟩ a0).setCell ⟨g, 1, none⟩ a1).cell? p6 = some v6 ∧ (∃ x, ((W.setCell ⟨g, 0, none⟩ a0).setCell ⟨g, 1, none⟩ a1).cell? ⟨g, 0, none⟩ = some x) ∧ (∃ x, ((W.setCell ⟨g, 0, none⟩ a0).setCell ⟨g, 1, none⟩ a1).cell? ⟨g, 1, none⟩ = some x) ∧ ((W.setCell ⟨g, 0, none⟩ a0).setCell ⟨g, 1, none⟩ a1).frozen? ⟨g, 0, none⟩ = false ∧ ((W.setCell ⟨g, 0, none⟩ a0).setCell ⟨g, 1, none⟩ a1).frozen? ⟨g, 1, none⟩ = false := by
  obtain ⟨q, q0, q1, q2, q3, q4, q5, q6, ⟨x0, z0⟩, ⟨x1, z1⟩, f0, f1⟩ := h
  obtain ⟨d0, d1, d2, d3, d4, d5, d6⟩ := hn
  refine ⟨((q.setCell (by exact hg) _).setCell (by exact hg) _), (cell?_apart d0 (cell?_apart d0 q0)), (cell?_apart d1 (cell?_apart d1 q1)), (cell?_apart d2 (cell?_apart d2 q2)), (cell?_apart d3 (cell?_apart d3 q3)), (cell?_apart d4 (cell?_apart d4 q4)), (cell?_apart d5 (cell?_apart d5 q5)), (cell?_apart d6 (cell?_apart d6 q6)), ?_, ?_, ?_, ?_⟩
  · exact cell?_some_after _ (cell?_some_after _ (⟨x0, z0⟩))
  · exact cell?_some_after _ (cell?_some_after _ (⟨x1, z1⟩))
  · simp only [World.frozen?_setCell]; exact f0
  · simp only [World.frozen?_setCell]; exact f1

theorem held_2_2 {w W w1 : World} {p0 p1 : Addr} {v0 v1 : Value} {g : Nat} (hb : Below W.heap.size W w1) (h : Below w.heap.size w W ∧ W.cell? p0 = some v0 ∧ W.cell? p1 = some v1 ∧ (∃ x, W.cell? ⟨g, 0, none⟩ = some x) ∧ (∃ x, W.cell? ⟨g, 1, none⟩ = some x) ∧ W.frozen? ⟨g, 0, none⟩ = false ∧ W.frozen? ⟨g, 1, none⟩ = false) :
    Below w.heap.size w w1 ∧ w1.cell? p0 = some v0 ∧ w1.cell? p1 = some v1 ∧ (∃ x, w1.cell? ⟨g, 0, none⟩ = some x) ∧ (∃ x, w1.cell? ⟨g, 1, none⟩ = some x) ∧ w1.frozen? ⟨g, 0, none⟩ = false ∧ w1.frozen? ⟨g, 1, none⟩ = false := by
  obtain ⟨q, q0, q1, ⟨x0, z0⟩, ⟨x1, z1⟩, f0, f1⟩ := h
  exact ⟨q.trans (hb.mono q.size), (hb.cell (cell_there q0).1).trans q0, (hb.cell (cell_there q1).1).trans q1, ⟨x0, (hb.cell (cell_there z0).1).trans z0⟩, ⟨x1, (hb.cell (cell_there z1).1).trans z1⟩, (hb.frozen (cell_there z0).1).trans f0, (hb.frozen (cell_there z1).1).trans f1⟩

set_option maxRecDepth 100000 in
set_option maxHeartbeats 1000000 in
theorem heldset_2_2 {w W : World} {p0 p1 : Addr} {v0 v1 : Value} {g : Nat} (a0 a1 : Value) (hg : w.heap.size ≤ g) (hn : p0.block ≠ g ∧ p1.block ≠ g) (h : Below w.heap.size w W ∧ W.cell? p0 = some v0 ∧ W.cell? p1 = some v1 ∧ (∃ x, W.cell? ⟨g, 0, none⟩ = some x) ∧ (∃ x, W.cell? ⟨g, 1, none⟩ = some x) ∧ W.frozen? ⟨g, 0, none⟩ = false ∧ W.frozen? ⟨g, 1, none⟩ = false) :
    Below w.heap.size w ((W.setCell ⟨g, 0, none⟩ a0).setCell ⟨g, 1, none⟩ a1) ∧ ((W.setCell ⟨g, 0, none⟩ a0).setCell ⟨g, 1, none⟩ a1).cell? p0 = some v0 ∧ ((W.setCell ⟨g, 0, none⟩ a0).setCell ⟨g, 1, none⟩ a1).cell? p1 = some v1 ∧ (∃ x, ((W.setCell ⟨g, 0, none⟩ a0).setCell ⟨g, 1, none⟩ a1).cell? ⟨g, 0, none⟩ = some x) ∧ (∃ x, ((W.setCell ⟨g, 0, none⟩ a0).setCell ⟨g, 1, none⟩ a1).cell? ⟨g, 1, none⟩ = some x) ∧ ((W.setCell ⟨g, 0, none⟩ a0).setCell ⟨g, 1, none⟩ a1).frozen? ⟨g, 0, none⟩ = false ∧ ((W.setCell ⟨g, 0, none⟩ a0).setCell ⟨g, 1, none⟩ a1).frozen? ⟨g, 1, none⟩ = false := by
  obtain ⟨q, q0, q1, ⟨x0, z0⟩, ⟨x1, z1⟩, f0, f1⟩ := h
  obtain ⟨d0, d1⟩ := hn
  refine ⟨((q.setCell (by exact hg) _).setCell (by exact hg) _), (cell?_apart d0 (cell?_apart d0 q0)), (cell?_apart d1 (cell?_apart d1 q1)), ?_, ?_, ?_, ?_⟩
  · exact cell?_some_after _ (cell?_some_after _ (⟨x0, z0⟩))
  · exact cell?_some_after _ (cell?_some_after _ (⟨x1, z1⟩))
  · simp only [World.frozen?_setCell]; exact f0
  · simp only [World.frozen?_setCell]; exact f1

theorem held_1_2 {w W w1 : World} {p0 : Addr} {v0 : Value} {g : Nat} (hb : Below W.heap.size W w1) (h : Below w.heap.size w W ∧ W.cell? p0 = some v0 ∧ (∃ x, W.cell? ⟨g, 0, none⟩ = some x) ∧ (∃ x, W.cell? ⟨g, 1, none⟩ = some x) ∧ W.frozen? ⟨g, 0, none⟩ = false ∧ W.frozen? ⟨g, 1, none⟩ = false) :
    Below w.heap.size w w1 ∧ w1.cell? p0 = some v0 ∧ (∃ x, w1.cell? ⟨g, 0, none⟩ = some x) ∧ (∃ x, w1.cell? ⟨g, 1, none⟩ = some x) ∧ w1.frozen? ⟨g, 0, none⟩ = false ∧ w1.frozen? ⟨g, 1, none⟩ = false := by
  obtain ⟨q, q0, ⟨x0, z0⟩, ⟨x1, z1⟩, f0, f1⟩ := h
  exact ⟨q.trans (hb.mono q.size), (hb.cell (cell_there q0).1).trans q0, ⟨x0, (hb.cell (cell_there z0).1).trans z0⟩, ⟨x1, (hb.cell (cell_there z1).1).trans z1⟩, (hb.frozen (cell_there z0).1).trans f0, (hb.frozen (cell_there z1).1).trans f1⟩

set_option maxRecDepth 100000 in
set_option maxHeartbeats 1000000 in
theorem heldset_1_2 {w W : World} {p0 : Addr} {v0 : Value} {g : Nat} (a0 a1 : Value) (hg : w.heap.size ≤ g) (hn : p0.block ≠ g) (h : Below w.heap.size w W ∧ W.cell? p0 = some v0 ∧ (∃ x, W.cell? ⟨g, 0, none⟩ = some x) ∧ (∃ x, W.cell? ⟨g, 1, none⟩ = some x) ∧ W.frozen? ⟨g, 0, none⟩ = false ∧ W.frozen? ⟨g, 1, none⟩ = false) :
    Below w.heap.size w ((W.setCell ⟨g, 0, none⟩ a0).setCell ⟨g, 1, none⟩ a1) ∧ ((W.setCell ⟨g, 0, none⟩ a0).setCell ⟨g, 1, none⟩ a1).cell? p0 = some v0 ∧ (∃ x, ((W.setCell ⟨g, 0, none⟩ a0).setCell ⟨g, 1, none⟩ a1).cell? ⟨g, 0, none⟩ = some x) ∧ (∃ x, ((W.setCell ⟨g, 0, none⟩ a0).setCell ⟨g, 1, none⟩ a1).cell? ⟨g, 1, none⟩ = some x) ∧ ((W.setCell ⟨g, 0, none⟩ a0).setCell ⟨g, 1, none⟩ a1).frozen? ⟨g, 0, none⟩ = false ∧ ((W.setCell ⟨g, 0, none⟩ a0).setCell ⟨g, 1, none⟩ a1).frozen? ⟨g, 1, none⟩ = false := by
  obtain ⟨q, q0, ⟨x0, z0⟩, ⟨x1, z1⟩, f0, f1⟩ := h
  have d0 := hn
  refine ⟨((q.setCell (by exact hg) _).setCell (by exact hg) _), (cell?_apart d0 (cell?_apart d0 q0)), ?_, ?_, ?_, ?_⟩
  · exact cell?_some_after _ (cell?_some_after _ (⟨x0, z0⟩))
  · exact cell?_some_after _ (cell?_some_after _ (⟨x1, z1⟩))
  · simp only [World.frozen?_setCell]; exact f0
  · simp only [World.frozen?_setCell]; exact f1

theorem held_3_0 {w W w1 : World} {p0 p1 p2 : Addr} {v0 v1 v2 : Value} (hb : Below W.heap.size W w1) (h : Below w.heap.size w W ∧ W.cell? p0 = some v0 ∧ W.cell? p1 = some v1 ∧ W.cell? p2 = some v2) :
    Below w.heap.size w w1 ∧ w1.cell? p0 = some v0 ∧ w1.cell? p1 = some v1 ∧ w1.cell? p2 = some v2 := by
  obtain ⟨q, q0, q1, q2⟩ := h
  exact ⟨q.trans (hb.mono q.size), (hb.cell (cell_there q0).1).trans q0, (hb.cell (cell_there q1).1).trans q1, (hb.cell (cell_there q2).1).trans q2⟩

theorem held_1_0 {w W w1 : World} {p0 : Addr} {v0 : Value} (hb : Below W.heap.size W w1) (h : Below w.heap.size w W ∧ W.cell? p0 = some v0) :
    Below w.heap.size w w1 ∧ w1.cell? p0 = some v0 := by
  obtain ⟨q, q0⟩ := h
  exact ⟨q.trans (hb.mono q.size), (hb.cell (cell_there q0).1).trans q0⟩

theorem held_2_0 {w W w1 : World} {p0 p1 : Addr} {v0 v1 : Value} (hb : Below W.heap.size W w1) (h : Below w.heap.size w W ∧ W.cell? p0 = some v0 ∧ W.cell? p1 = some v1) :
    Below w.heap.size w w1 ∧ w1.cell? p0 = some v0 ∧ w1.cell? p1 = some v1 := by
  obtain ⟨q, q0, q1⟩ := h
  exact ⟨q.trans (hb.mono q.size), (hb.cell (cell_there q0).1).trans q0, (hb.cell (cell_there q1).1).trans q1⟩

theorem held_8_2 {w W w1 : World} {p0 p1 p2 p3 p4 p5 p6 p7 : Addr} {v0 v1 v2 v3 v4 v5 v6 v7 : Value} {g : Nat} (hb : Below W.heap.size W w1) (h : Below w.heap.size w W ∧ W.cell? p0 = some v0 ∧ W.cell? p1 = some v1 ∧ W.cell? p2 = some v2 ∧ W.cell? p3 = some v3 ∧ W.cell? p4 = some v4 ∧ W.cell? p5 = some v5 ∧ W.cell? p6 = some v6 ∧ W.cell? p7 = some v7 ∧ (∃ x, W.cell? ⟨g, 0, none⟩ = some x) ∧ (∃ x, W.cell? ⟨g, 1, none⟩ = some x) ∧ W.frozen? ⟨g, 0, none⟩ = false ∧ W.frozen? ⟨g, 1, none⟩ = false) :
    Below w.heap.size w w1 ∧ w1.cell? p0 = some v0 ∧ w1.cell? p1 = some v1 ∧ w1.cell? p2 = some v2 ∧ w1.cell? p3 = some v3 ∧ w1.cell? p4 = some v4 ∧ w1.cell? p5 = some v5 ∧ w1.cell? p6 = some v6 ∧ w1.cell? p7 = some v7 ∧ (∃ x, w1.cell? ⟨g, 0, none⟩ = some x) ∧ (∃ x, w1.cell? ⟨g, 1, none⟩ = some x) ∧ w1.frozen? ⟨g, 0, none⟩ = false ∧ w1.frozen? ⟨g, 1, none⟩ = false := by
  obtain ⟨q, q0, q1, q2, q3, q4, q5, q6, q7, ⟨x0, z0⟩, ⟨x1, z1⟩, f0, f1⟩ := h
  exact ⟨q.trans (hb.mono q.size), (hb.cell (cell_there q0).1).trans q0, (hb.cell (cell_there q1).1).trans q1, (hb.cell (cell_there q2).1).trans q2, (hb.cell (cell_there q3).1).trans q3, (hb.cell (cell_there q4).1).trans q4, (hb.cell (cell_there q5).1).trans q5, (hb.cell (cell_there q6).1).trans q6, (hb.cell (cell_there q7).1).trans q7, ⟨x0, (hb.cell (cell_there z0).1).trans z0⟩, ⟨x1, (hb.cell (cell_there z1).1).trans z1⟩, (hb.frozen (cell_there z0).1).trans f0, (hb.frozen (cell_there z1).1).trans f1⟩

set_option maxRecDepth 100000 in
set_option maxHeartbeats 1000000 in
theorem heldset_8_2 {w W : World} {p0 p1 p2 p3 p4 p5 p6 p7 : Addr} {v0 v1 v2 v3 v4 v5 v6 v7 : Value} {g : Nat} (a0 a1 : Value) (hg : w.heap.size ≤ g) (hn : p0.block ≠ g ∧ p1.block ≠ g ∧ p2.block ≠ g ∧ p3.block ≠ g ∧ p4.block ≠ g ∧ p5.block ≠ g ∧ p6.block ≠ g ∧ p7.block ≠ g) (h : Below w.heap.size w W ∧ W.cell? p0 = some v0 ∧ W.cell? p1 = some v1 ∧ W.cell? p2 = some v2 ∧ W.cell? p3 = some v3 ∧ W.cell? p4 = some v4 ∧ W.cell? p5 = some v5 ∧ W.cell? p6 = some v6 ∧ W.cell? p7 = some v7 ∧ (∃ x, W.cell? ⟨g, 0, none⟩ = some x) ∧ (∃ x, W.cell? ⟨g, 1, none⟩ = some x) ∧ W.frozen? ⟨g, 0, none⟩ = false ∧ W.frozen? ⟨g, 1, none⟩ = false) :
    Below w.heap.size w ((W.setCell ⟨g, 0, none⟩ a0).setCell ⟨g, 1, none⟩ a1) ∧ ((W.setCell ⟨g, 0, none⟩ a0).setCell ⟨g, 1, none⟩ a1).cell? p0 = some v0 ∧ ((W.setCell ⟨g, 0, none⟩ a0).setCell ⟨g, 1, none⟩ a1).cell? p1 = some v1 ∧ ((W.setCell ⟨g, 0, none⟩ a0).setCell ⟨g, 1, none⟩ a1).cell? p2 = some v2 ∧ ((W.setCell ⟨g, 0, none⟩ a0).setCell ⟨g, 1, none⟩ a1).cell? p3 = some v3 ∧ ((W.setCell ⟨g, 0, none⟩ a0).setCell ⟨g, 1, none⟩ a1).cell? p4 = some v4 ∧ ((W.setCell ⟨g, 0, none⟩ a0).setCell ⟨g, 1, none⟩ a1).cell? p5 = some v5 ∧ ((W.setCell ⟨g, 0, none⟩ a0).setCell ⟨g, 1, none⟩ a1).cell? p6 = some v6 ∧ ((W.setCell ⟨g, 0, none⟩ a0).setCell ⟨g, 1, none⟩ a1).cell? p7 = some v7 ∧ (∃ x, ((W.setCell ⟨g, 0, none⟩ a0).setCell ⟨g, 1, none⟩ a1).cell? ⟨g, 0, none⟩ = some x) ∧ (∃ x, ((W.setCell ⟨g, 0, none⟩ a0).setCell ⟨g, 1, none⟩ a1).cell? ⟨g, 1, none⟩ = some x) ∧ ((W.setCell ⟨g, 0, none⟩ a0).setCell ⟨g, 1, none⟩ a1).frozen? ⟨g, 0, none⟩ = false ∧ ((W.setCell ⟨g, 0, none⟩ a0).setCell ⟨g, 1, none⟩ a1).frozen? ⟨g, 1, none⟩ = false := by
  obtain ⟨q, q0, q1, q2, q3, q4, q5, q6, q7, ⟨x0, z0⟩, ⟨x1, z1⟩, f0, f1⟩ := h
  obtain ⟨d0, d1, d2, d3, d4, d5, d6, d7⟩ := hn
  refine ⟨((q.setCell (by exact hg) _).setCell (by exact hg) _), (cell?_apart d0 (cell?_apart d0 q0)), (cell?_apart d1 (cell?_apart d1 q1)), (cell?_apart d2 (cell?_apart d2 q2)), (cell?_apart d3 (cell?_apart d3 q3)), (cell?_apart d4 (cell?_apart d4 q4)), (cell?_apart d5 (cell?_apart d5 q5)), (cell?_apart d6 (cell?_apart d6 q6)), (cell?_apart d7 (cell?_apart d7 q7)), ?_, ?_, ?_, ?_⟩
  · exact cell?_some_after _ (cell?_some_after _ (⟨x0, z0⟩))
  · exact cell?_some_after _ (cell?_some_after _ (⟨x1, z1⟩))
  · simp only [World.frozen?_setCell]; exact f0
  · simp only [World.frozen?_setCell]; exact f1

theorem held_9_2 {w W w1 : World} {p0 p1 p2 p3 p4 p5 p6 p7 p8 : Addr} {v0 v1 v2 v3 v4 v5 v6 v7 v8 : Value} {g : Nat} (hb : Below W.heap.size W w1) (h : Below w.heap.size w W ∧ W.cell? p0 = some v0 ∧ W.cell? p1 = some v1 ∧ W.cell? p2 = some v2 ∧ W.cell? p3 = some v3 ∧ W.cell? p4 = some v4 ∧ W.cell? p5 = some v5 ∧ W.cell? p6 = some v6 ∧ W.cell? p7 = some v7 ∧ W.cell? p8 = some v8 ∧ (∃ x, W.cell? ⟨g, 0, none⟩ = some x) ∧ (∃ x, W.cell? ⟨g, 1, none⟩ = some x) ∧ W.frozen? ⟨g, 0, none⟩ = false ∧ W.frozen? ⟨g, 1, none⟩ = false) :
    Below w.heap.size w w1 ∧ w1.cell? p0 = some v0 ∧ w1.cell? p1 = some v1 ∧ w1.cell? p2 = some v2 ∧ w1.cell? p3 = some v3 ∧ w1.cell? p4 = some v4 ∧ w1.cell? p5 = some v5 ∧ w1.cell? p6 = some v6 ∧ w1.cell? p7 = some v7 ∧ w1.cell? p8 = some v8 ∧ (∃ x, w1.cell? ⟨g, 0, none⟩ = some x) ∧ (∃ x, w1.cell? ⟨g, 1, none⟩ = some x) ∧ w1.frozen? ⟨g, 0, none⟩ = false ∧ w1.frozen? ⟨g, 1, none⟩ = false := by
  obtain ⟨q, q0, q1, q2, q3, q4, q5, q6, q7, q8, ⟨x0, z0⟩, ⟨x1, z1⟩, f0, f1⟩ := h
  exact ⟨q.trans (hb.mono q.size), (hb.cell (cell_there q0).1).trans q0, (hb.cell (cell_there q1).1).trans q1, (hb.cell (cell_there q2).1).trans q2, (hb.cell (cell_there q3).1).trans q3, (hb.cell (cell_there q4).1).trans q4, (hb.cell (cell_there q5).1).trans q5, (hb.cell (cell_there q6).1).trans q6, (hb.cell (cell_there q7).1).trans q7, (hb.cell (cell_there q8).1).trans q8, ⟨x0, (hb.cell (cell_there z0).1).trans z0⟩, ⟨x1, (hb.cell (cell_there z1).1).trans z1⟩, (hb.frozen (cell_there z0).1).trans f0, (hb.frozen (cell_there z1).1).trans f1⟩

set_option maxRecDepth 100000 in
set_option maxHeartbeats 1000000 in
theorem heldset_9_2 {w W : World} {p0 p1 p2 p3 p4 p5 p6 p7 p8 : Addr} {v0 v1 v2 v3 v4 v5 v6 v7 v8 : Value} {g : Nat} (a0 a1 : Value) (hg : w.heap.size ≤ g) (hn : p0.block ≠ g ∧ p1.block ≠ g ∧ p2.block ≠ g ∧ p3.block ≠ g ∧ p4.block ≠ g ∧ p5.block ≠ g ∧ p6.block ≠ g ∧ p7.block ≠ g ∧ p8.block ≠ g) (h : Below w.heap.size w W ∧ W.cell? p0 = some v0 ∧ W.cell? p1 = some v1 ∧ W.cell? p2 = some v2 ∧ W.cell? p3 = some v3 ∧ W.cell? p4 = some v4 ∧ W.cell? p5 = some v5 ∧ W.cell? p6 = some v6 ∧ W.cell? p7 = some v7 ∧ W.cell? p8 = some v8 ∧ (∃ x, W.cell? ⟨g, 0, none⟩ = some x) ∧ (∃ x, W.cell? ⟨g, 1, none⟩ = some x) ∧ W.frozen? ⟨g, 0, none⟩ = false ∧ W.frozen? ⟨g, 1, none⟩ = false) :
    Below w.heap.size w ((W.setCell ⟨g, 0, none⟩ a0).setCell ⟨g, 1, none⟩ a1) ∧ ((W.setCell ⟨g, 0, none⟩ a0).setCell ⟨g, 1, none⟩ a1).cell? p0 = some v0 ∧ ((W.setCell ⟨g, 0, none⟩ a0).setCell ⟨g, 1, none⟩ a1).cell? p1 = some v1 ∧ ((W.setCell ⟨g, 0, none⟩ a0).setCell ⟨g, 1, none⟩ a1).cell? p2 = some v2 ∧ ((W.setCell ⟨g, 0, none⟩ a0).setCell ⟨g, 1, none⟩ a1).cell? p3 = some v3 ∧ ((W.setCell ⟨g, 0, none⟩ a0).setCell ⟨g, 1, none⟩ a1).cell? p4 = some v4 ∧ ((W.setCell ⟨g, 0, none⟩ a0).setCell ⟨g, 1, none⟩ a1).cell? p5 = some v5 ∧ ((W.setCell ⟨g, 0, none⟩ a0).setCell ⟨g, 1, none⟩ a1).cell? p6 = some v6 ∧ ((W.setCell ⟨g, 0, none⟩ a0).setCell ⟨g, 1, none⟩ a1).cell? p7 = some v7 ∧ ((W.setCell ⟨g, 0, none⟩ a0).setCell ⟨g, 1, none⟩ a1).cell? p8 = some v8 ∧ (∃ x, ((W.setCell ⟨g, 0, none⟩ a0).setCell ⟨g, 1, none⟩ a1).cell? ⟨g, 0, none⟩ = some x) ∧ (∃ x, ((W.setCell ⟨g, 0, none⟩ a0).setCell ⟨g, 1, none⟩ a1).cell? ⟨g, 1, none⟩ = some x) ∧ ((W.setCell ⟨g, 0, none⟩ a0).setCell ⟨g, 1, none⟩ a1).frozen? ⟨g, 0, none⟩ = false ∧ ((W.setCell ⟨g, 0, none⟩ a0).setCell ⟨g, 1, none⟩ a1).frozen? ⟨g, 1, none⟩ = false := by
  obtain ⟨q, q0, q1, q2, q3, q4, q5, q6, q7, q8, ⟨x0, z0⟩, ⟨x1, z1⟩, f0, f1⟩ := h
  obtain ⟨d0, d1, d2, d3, d4, d5, d6, d7, d8⟩ := hn
  refine ⟨((q.setCell (by exact hg) _).setCell (by exact hg) _), (cell?_apart d0 (cell?_apart d0 q0)), (cell?_apart d1 (cell?_apart d1 q1)), (cell?_apart d2 (cell?_apart d2 q2)), (cell?_apart d3 (cell?_apart d3 q3)), (cell?_apart d4 (cell?_apart d4 q4)), (cell?_apart d5 (cell?_apart d5 q5)), (cell?_apart d6 (cell?_apart d6 q6)), (cell?_apart d7 (cell?_apart d7 q7)), (cell?_apart d8 (cell?_apart d8 q8)), ?_, ?_, ?_, ?_⟩
  · exact cell?_some_after _ (cell?_some_after _ (⟨x0, z0⟩))
  · exact cell?_some_after _ (cell?_some_after _ (⟨x1, z1⟩))
  · simp only [World.frozen?_setCell]; exact f0
  · simp only [World.frozen?_setCell]; exact f1

end Go.Proofs.YtfalhemeiengcaaDoor
