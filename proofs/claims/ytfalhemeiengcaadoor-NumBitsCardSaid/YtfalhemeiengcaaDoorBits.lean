/-
  The law NumBits, walked.
-/
import Derived.Test.YtfalhemeiengcaaDoorBitsR
import Derived.Test.YtfalhemeiengcaaDoorBitsQ
import Derived.Test.YtfalhemeiengcaaDoorBitsZ
namespace Go.Proofs.YtfalhemeiengcaaDoor
open Go.RowKit Go.Maps

/-- Two boxes of numbers. -/
def Bt (gA gB a1 a0 b1 b0 n0 : Nat) (w W : World) : Prop := W.heap[gA]? = some (.cells #[.int .u64 (a1 : Int), .int .u64 (a0 : Int)] 24 (0, 0)) ∧ W.heap[gB]? = some (.cells #[.int .u64 (b1 : Int), .int .u64 (b0 : Int)] 24 (0, 0)) ∧ Below n0 w W
theorem Bt.on {gA gB a1 a0 b1 b0 n0 : Nat} {w W w1 : World} (h : Bt gA gB a1 a0 b1 b0 n0 w W) (hb : Below W.heap.size W w1) (hn : n0 ≤ w.heap.size) : Bt gA gB a1 a0 b1 b0 n0 w w1 :=
  ⟨(hb.block gA (lt_of_block h.1)).trans h.1, (hb.block gB (lt_of_block h.2.1)).trans h.2.1, h.2.2.trans (hb.mono (Nat.le_trans hn h.2.2.size))⟩
theorem Bt.cells {gA gB a1 a0 b1 b0 n0 : Nat} {w W : World} (h : Bt gA gB a1 a0 b1 b0 n0 w W) : W.cell? ⟨gA, 0, none⟩ = some (.int .u64 (a1 : Int)) ∧ W.cell? ⟨gA, 1, none⟩ = some (.int .u64 (a0 : Int)) ∧ W.cell? ⟨gB, 0, none⟩ = some (.int .u64 (b1 : Int)) ∧ W.cell? ⟨gB, 1, none⟩ = some (.int .u64 (b0 : Int)) := by
  obtain ⟨h1, h2, -⟩ := h
  refine ⟨?_, ?_, ?_, ?_⟩ <;> simp [World.cell?, h1, h2]

set_option maxRecDepth 100000 in
set_option maxHeartbeats 16000000 in
theorem bits_any (a b : Nat) (k j : Int) (w : World) (ha : a < B * B) (hb : b < B * B) (hj : j ≤ 9223372036854775807) :
    Calls Tryd.prog 5 #[numV a, numV b, .int .i64 k, .int .i64 j] w fun e w' => e = .returned (.bool true) ∧ Below w.heap.size w w' := by
  obtain ⟨ya, za, ea, qa1, qa0⟩ := numV_parts a
  obtain ⟨yb, zb, eb, qb1, qb0⟩ := numV_parts b
  rw [ea, eb]
  have HE := Lib.hid (And.intro qa1 (And.intro qa0 (And.intro qb1 qb0)))
  have HA := Lib.hid ha
  have HB := Lib.hid hb
  have HJ := Lib.hid hj
  clear ea eb qa1 qa0 qb1 qb0 ha hb hj
  go_enter Tryd.func5, Tryd.ntmps5
  go_wp2_with fail
  have HX0 : Hid (Bt w.heap.size (w.heap.size + 1) ya za yb zb w.heap.size w ((w.alloc (.cells #[.int .u64 (ya : Int), .int .u64 (za : Int)] 24)).alloc (.cells #[.int .u64 (yb : Int), .int .u64 (zb : Int)] 24))) := by
    refine ⟨?_, ?_, ((Below.refl _ _).alloc (Nat.le_refl _) _).alloc (by simp) _⟩
    · rw [Below.heap_alloc _ _ _ (by simp), heap_new]
    · have := heap_new (w.alloc (.cells #[.int .u64 (ya : Int), .int .u64 (za : Int)] 24)) (.cells #[.int .u64 (yb : Int), .int .u64 (zb : Int)] 24)
      rw [World.size_alloc] at this
      exact this
  generalize ((w.alloc (.cells #[.int .u64 (ya : Int), .int .u64 (za : Int)] 24)).alloc (.cells #[.int .u64 (yb : Int), .int .u64 (zb : Int)] 24)) = W0 at *
  refine bitsA w.heap.size (w.heap.size + 1) a b k j W0 (Lib.hid (show _ = _ by rw [← HE.out.1]; exact HX0.out.cells.1)) (Lib.hid (show _ = _ by rw [← HE.out.2.1]; exact HX0.out.cells.2.1)) (Lib.hid (show _ = _ by rw [← HE.out.2.2.1]; exact HX0.out.cells.2.2.1)) (Lib.hid (show _ = _ by rw [← HE.out.2.2.2]; exact HX0.out.cells.2.2.2)) HA HB HJ _ _ _ _ _ _ _ _ _ _ _ _ _ _ _ _ _ _ _ _ _ _ _ _ _ _ _ _ _ _ _ _ _ _ _ _ _ _ _ _ _ _ _ _ _ _ _ _ _ _ _ _ _ _ _ _ _ _ _ _ _ _ _ _ _ _ _ _ _ _ _ _ _ _ _ _ _ _ _ _ _ _ _ _ _ _ _ _ _ _ _ _ _ _ _ _ _ _ _ _ _ _ _ _ _ _ _ _ _ _ _ _ _ _ _ _ _ _ _ _ _ _ _ _ _ _ _ _ _ _ _ _ _ _ _ _ _ _ _ _ _ _ _ _ _ _ _ _ _ _ _ _ _ ?_
  intro w1 hb1
  dsimp only
  have HX1 : Hid (Bt w.heap.size (w.heap.size + 1) ya za yb zb w.heap.size w w1) := Bt.on HX0.out hb1 (Nat.le_refl _)
  clear hb1 HX0
  go_wp2_with fail
  refine bitsB w.heap.size (w.heap.size + 1) a b k j w1 (Lib.hid (show _ = _ by rw [← HE.out.1]; exact HX1.out.cells.1)) (Lib.hid (show _ = _ by rw [← HE.out.2.1]; exact HX1.out.cells.2.1)) (Lib.hid (show _ = _ by rw [← HE.out.2.2.1]; exact HX1.out.cells.2.2.1)) (Lib.hid (show _ = _ by rw [← HE.out.2.2.2]; exact HX1.out.cells.2.2.2)) HA HB HJ _ _ _ _ _ _ _ _ _ _ _ _ _ _ _ _ _ _ _ _ _ _ _ _ _ _ _ _ _ _ _ _ _ _ _ _ _ _ _ _ _ _ _ _ _ _ _ _ _ _ _ _ _ _ _ _ _ _ _ _ _ _ _ _ _ _ _ _ _ _ _ _ _ _ _ _ _ _ _ _ _ _ _ _ _ _ _ _ _ _ _ _ _ _ _ _ _ _ _ _ _ _ _ _ _ _ _ _ _ _ _ _ _ _ _ _ _ _ _ _ _ _ _ _ _ _ _ _ _ _ _ _ _ _ _ _ _ _ _ _ _ _ _ _ _ _ _ _ _ _ _ _ _ ?_
  intro w2 hb2
  dsimp only
  have HX2 : Hid (Bt w.heap.size (w.heap.size + 1) ya za yb zb w.heap.size w w2) := Bt.on HX1.out hb2 (Nat.le_refl _)
  clear hb2 HX1
  go_wp2_with fail
  refine bitsC w.heap.size (w.heap.size + 1) a b k j w2 (Lib.hid (show _ = _ by rw [← HE.out.1]; exact HX2.out.cells.1)) (Lib.hid (show _ = _ by rw [← HE.out.2.1]; exact HX2.out.cells.2.1)) (Lib.hid (show _ = _ by rw [← HE.out.2.2.1]; exact HX2.out.cells.2.2.1)) (Lib.hid (show _ = _ by rw [← HE.out.2.2.2]; exact HX2.out.cells.2.2.2)) HA HB HJ _ _ _ _ _ _ _ _ _ _ _ _ _ _ _ _ _ _ _ _ _ _ _ _ _ _ _ _ _ _ _ _ _ _ _ _ _ _ _ _ _ _ _ _ _ _ _ _ _ _ _ _ _ _ _ _ _ _ _ _ _ _ _ _ _ _ _ _ _ _ _ _ _ _ _ _ _ _ _ _ _ _ _ _ _ _ _ _ _ _ _ _ _ _ _ _ _ _ _ _ _ _ _ _ _ _ _ _ _ _ _ _ _ _ _ _ _ _ _ _ _ _ _ _ _ _ _ _ _ _ _ _ _ _ _ _ _ _ _ _ _ _ _ _ _ _ _ _ _ _ _ _ _ ?_
  intro w3 hb3
  dsimp only
  have HX3 : Hid (Bt w.heap.size (w.heap.size + 1) ya za yb zb w.heap.size w w3) := Bt.on HX2.out hb3 (Nat.le_refl _)
  clear hb3 HX2
  go_wp2_with fail
  refine bitsD w.heap.size (w.heap.size + 1) a b k j w3 (Lib.hid (show _ = _ by rw [← HE.out.1]; exact HX3.out.cells.1)) (Lib.hid (show _ = _ by rw [← HE.out.2.1]; exact HX3.out.cells.2.1)) (Lib.hid (show _ = _ by rw [← HE.out.2.2.1]; exact HX3.out.cells.2.2.1)) (Lib.hid (show _ = _ by rw [← HE.out.2.2.2]; exact HX3.out.cells.2.2.2)) HA HB HJ _ _ _ _ _ _ _ _ _ _ _ _ _ _ _ _ _ _ _ _ _ _ _ _ _ _ _ _ _ _ _ _ _ _ _ _ _ _ _ _ _ _ _ _ _ _ _ _ _ _ _ _ _ _ _ _ _ _ _ _ _ _ _ _ _ _ _ _ _ _ _ _ _ _ _ _ _ _ _ _ _ _ _ _ _ _ _ _ _ _ _ _ _ _ _ _ _ _ _ _ _ _ _ _ _ _ _ _ _ _ _ _ _ _ _ _ _ _ _ _ _ _ _ _ _ _ _ _ _ _ _ _ _ _ _ _ _ _ _ _ _ _ _ _ _ _ _ _ _ _ _ _ _ ?_
  intro w4 hb4
  dsimp only
  have HX4 : Hid (Bt w.heap.size (w.heap.size + 1) ya za yb zb w.heap.size w w4) := Bt.on HX3.out hb4 (Nat.le_refl _)
  clear hb4 HX3
  go_wp2_with fail
  exact bodyPost_ret (v := .bool true) (by simp [results, Tryd.results5, go_sem]) rfl ⟨rfl, HX4.out.2.2⟩

end Go.Proofs.YtfalhemeiengcaaDoor
