/-
  The law NumSums: three numbers are cut.
-/
import Derived.Test.YtfalhemeiengcaaDoorSumsR
import Derived.Deep.RegionWith
namespace Go.Proofs.YtfalhemeiengcaaDoor
open Go.RowKit Go.Maps

/-- Three boxes of numbers. -/
def Bx (gA gB gC a1 a0 b1 b0 c1 c0 n0 : Nat) (w W : World) : Prop := W.heap[gA]? = some (.cells #[.int .u64 (a1 : Int), .int .u64 (a0 : Int)] 24 (0, 0)) ∧ W.heap[gB]? = some (.cells #[.int .u64 (b1 : Int), .int .u64 (b0 : Int)] 24 (0, 0)) ∧ W.heap[gC]? = some (.cells #[.int .u64 (c1 : Int), .int .u64 (c0 : Int)] 24 (0, 0)) ∧ Below n0 w W
theorem Bx.on {gA gB gC a1 a0 b1 b0 c1 c0 n0 : Nat} {w W w1 : World} (h : Bx gA gB gC a1 a0 b1 b0 c1 c0 n0 w W) (hb : Below W.heap.size W w1) (hn : n0 ≤ w.heap.size) : Bx gA gB gC a1 a0 b1 b0 c1 c0 n0 w w1 :=
  ⟨(hb.block gA (lt_of_block h.1)).trans h.1, (hb.block gB (lt_of_block h.2.1)).trans h.2.1, (hb.block gC (lt_of_block h.2.2.1)).trans h.2.2.1, h.2.2.2.trans (hb.mono (Nat.le_trans hn h.2.2.2.size))⟩
theorem Bx.cells {gA gB gC a1 a0 b1 b0 c1 c0 n0 : Nat} {w W : World} (h : Bx gA gB gC a1 a0 b1 b0 c1 c0 n0 w W) : W.cell? ⟨gA, 0, none⟩ = some (.int .u64 (a1 : Int)) ∧ W.cell? ⟨gA, 1, none⟩ = some (.int .u64 (a0 : Int)) ∧ W.cell? ⟨gB, 0, none⟩ = some (.int .u64 (b1 : Int)) ∧ W.cell? ⟨gB, 1, none⟩ = some (.int .u64 (b0 : Int)) ∧ W.cell? ⟨gC, 0, none⟩ = some (.int .u64 (c1 : Int)) ∧ W.cell? ⟨gC, 1, none⟩ = some (.int .u64 (c0 : Int)) ∧
    ((∀ j, W.frozen? ⟨gA, j, none⟩ = false) ∧ (∀ j, W.frozen? ⟨gB, j, none⟩ = false) ∧ (∀ j, W.frozen? ⟨gC, j, none⟩ = false)) := by
  obtain ⟨h1, h2, h3, -⟩ := h
  refine ⟨?_, ?_, ?_, ?_, ?_, ?_, fun j => ?_, fun j => ?_, fun j => ?_⟩ <;> simp [World.cell?, World.frozen?, h1, h2, h3]

theorem Bx.put {gA gB gC a1 a0 b1 b0 c1 c0 n0 : Nat} (ya za yb zb yc zc : Nat) {w W : World} (h : Bx gA gB gC a1 a0 b1 b0 c1 c0 n0 w W) (n1 : n0 ≤ gA) (n2 : gA < gB) (n3 : gB < gC) :
    Bx gA gB gC ya za yb zb yc zc n0 w ((((((W.setCell ⟨gA, 0, none⟩ (.int .u64 (ya : Int))).setCell ⟨gA, 1, none⟩ (.int .u64 (za : Int))).setCell ⟨gB, 0, none⟩ (.int .u64 (yb : Int))).setCell ⟨gB, 1, none⟩ (.int .u64 (zb : Int))).setCell ⟨gC, 0, none⟩ (.int .u64 (yc : Int))).setCell ⟨gC, 1, none⟩ (.int .u64 (zc : Int))) := by
  obtain ⟨h1, h2, h3, h4⟩ := h
  refine ⟨?_, ?_, ?_, ?_⟩
  · rw [setCell_heap (by omega), setCell_heap (by omega), setCell_heap (by omega), setCell_heap (by omega), heap_setCell_same _ _ _ _ _ _ (heap_setCell_same _ _ _ _ _ _ h1)]; simp
  · have e : ((W.setCell ⟨gA, 0, none⟩ (.int .u64 (ya : Int))).setCell ⟨gA, 1, none⟩ (.int .u64 (za : Int))).heap[gB]? = some (.cells #[.int .u64 (b1 : Int), .int .u64 (b0 : Int)] 24 (0, 0)) := by rw [setCell_heap (by omega), setCell_heap (by omega)]; exact h2
    rw [setCell_heap (by omega), setCell_heap (by omega), heap_setCell_same _ _ _ _ _ _ (heap_setCell_same _ _ _ _ _ _ e)]; simp
  · have e : ((((W.setCell ⟨gA, 0, none⟩ (.int .u64 (ya : Int))).setCell ⟨gA, 1, none⟩ (.int .u64 (za : Int))).setCell ⟨gB, 0, none⟩ (.int .u64 (yb : Int))).setCell ⟨gB, 1, none⟩ (.int .u64 (zb : Int))).heap[gC]? = some (.cells #[.int .u64 (c1 : Int), .int .u64 (c0 : Int)] 24 (0, 0)) := by rw [setCell_heap (by omega), setCell_heap (by omega), setCell_heap (by omega), setCell_heap (by omega)]; exact h3
    rw [heap_setCell_same _ _ _ _ _ _ (heap_setCell_same _ _ _ _ _ _ e)]; simp
  · exact (((((h4.setCell (by show n0 ≤ gA; omega) _).setCell (by show n0 ≤ gA; omega) _).setCell (by show n0 ≤ gB; omega) _).setCell (by show n0 ≤ gB; omega) _).setCell (by show n0 ≤ gC; omega) _).setCell (by show n0 ≤ gC; omega) _

end Go.Proofs.YtfalhemeiengcaaDoor
