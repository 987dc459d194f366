/-
  The contract of quillonref01.Sub.
-/
import Derived.Test.YtfalhemeiengcaaDoorRefAdd
import Derived.Test.YtfalhemeiengcaaDoorRefNot
import Derived.Test.YtfalhemeiengcaaDoorRefOf
import Derived.Deep.RegionHeld3
namespace Go.Proofs.YtfalhemeiengcaaDoor
open Go.RowKit

/-- A difference of 128 bits, cut. -/
def subN (a b : Nat) (c : Int) : Nat := (a + (2 ^ 128 - b)) % 2 ^ 128 % 2 ^ sh c
theorem sh128 : sh 128 = 128 := by unfold sh; omega

theorem not_num {b : Nat} (hb : b < 2 ^ 128) : (b % 2 ^ sh 128) ^^^ (2 ^ sh 128 - 1) = 2 ^ 128 - 1 - b := by
  rw [sh128, Nat.mod_eq_of_lt hb]
  apply Nat.eq_of_testBit_eq
  intro i
  rw [Nat.testBit_xor, Nat.testBit_two_pow_sub_one, show 2 ^ 128 - 1 - b = 2 ^ 128 - (b + 1) by omega, Nat.testBit_two_pow_sub_succ hb]
  by_cases h : i < 128
  · simp [h]
  · have := Nat.testBit_lt_two_pow (Nat.lt_of_lt_of_le hb (Nat.pow_le_pow_right (by omega) (by omega : 128 ≤ i)))
    simp [h, this]

theorem sub_num {a b : Nat} (c : Int) (ha : a < 2 ^ 128) (hb : b < 2 ^ 128) : ((a + ((b % 2 ^ sh 128) ^^^ (2 ^ sh 128 - 1))) % 2 ^ 128 % 2 ^ sh 128 + 1) % 2 ^ 128 % 2 ^ sh c = subN a b c := by
  rw [not_num hb, sh128, Nat.mod_mod]
  unfold subN
  congr 1
  rw [Nat.mod_add_mod]
  congr 1
  omega

theorem heldE {w W w1 : World} {v0 v1 v2 v3 : Value} (hb : Below W.heap.size W w1) (h : Below w.heap.size w W ∧ W.cell? ⟨w.heap.size, 0, none⟩ = some v0 ∧ W.cell? ⟨w.heap.size, 1, none⟩ = some v1 ∧ W.cell? ⟨w.heap.size + 1, 0, none⟩ = some v2 ∧ W.cell? ⟨w.heap.size + 1, 1, none⟩ = some v3 ∧ (∃ x, W.cell? ⟨w.heap.size + 1 + 1, 0, none⟩ = some x) ∧ (∃ x, W.cell? ⟨w.heap.size + 1 + 1, 1, none⟩ = some x) ∧ W.frozen? ⟨w.heap.size + 1 + 1, 0, none⟩ = false ∧ W.frozen? ⟨w.heap.size + 1 + 1, 1, none⟩ = false) :
    Below w.heap.size w w1 ∧ w1.cell? ⟨w.heap.size, 0, none⟩ = some v0 ∧ w1.cell? ⟨w.heap.size, 1, none⟩ = some v1 ∧ w1.cell? ⟨w.heap.size + 1, 0, none⟩ = some v2 ∧ w1.cell? ⟨w.heap.size + 1, 1, none⟩ = some v3 ∧ (∃ x, w1.cell? ⟨w.heap.size + 1 + 1, 0, none⟩ = some x) ∧ (∃ x, w1.cell? ⟨w.heap.size + 1 + 1, 1, none⟩ = some x) ∧ w1.frozen? ⟨w.heap.size + 1 + 1, 0, none⟩ = false ∧ w1.frozen? ⟨w.heap.size + 1 + 1, 1, none⟩ = false := by
  obtain ⟨q, q0, q1, q2, q3, ⟨x4, q4⟩, ⟨x5, q5⟩, q6, q7⟩ := h
  exact ⟨q.trans (hb.mono q.size), (hb.cell (cell_there q0).1).trans q0, (hb.cell (cell_there q1).1).trans q1, (hb.cell (cell_there q2).1).trans q2, (hb.cell (cell_there q3).1).trans q3, ⟨x4, (hb.cell (cell_there q4).1).trans q4⟩, ⟨x5, (hb.cell (cell_there q5).1).trans q5⟩, (hb.frozen (cell_there q4).1).trans q6, (hb.frozen (cell_there q5).1).trans q7⟩
theorem heldSet {w W : World} {v0 v1 v2 v3 : Value} (a b : Value) (h : Below w.heap.size w W ∧ W.cell? ⟨w.heap.size, 0, none⟩ = some v0 ∧ W.cell? ⟨w.heap.size, 1, none⟩ = some v1 ∧ W.cell? ⟨w.heap.size + 1, 0, none⟩ = some v2 ∧ W.cell? ⟨w.heap.size + 1, 1, none⟩ = some v3 ∧ (∃ x, W.cell? ⟨w.heap.size + 1 + 1, 0, none⟩ = some x) ∧ (∃ x, W.cell? ⟨w.heap.size + 1 + 1, 1, none⟩ = some x) ∧ W.frozen? ⟨w.heap.size + 1 + 1, 0, none⟩ = false ∧ W.frozen? ⟨w.heap.size + 1 + 1, 1, none⟩ = false) :
    Below w.heap.size w ((W.setCell ⟨w.heap.size + 1 + 1, 0, none⟩ a).setCell ⟨w.heap.size + 1 + 1, 1, none⟩ b) ∧ ((W.setCell ⟨w.heap.size + 1 + 1, 0, none⟩ a).setCell ⟨w.heap.size + 1 + 1, 1, none⟩ b).cell? ⟨w.heap.size, 0, none⟩ = some v0 ∧ ((W.setCell ⟨w.heap.size + 1 + 1, 0, none⟩ a).setCell ⟨w.heap.size + 1 + 1, 1, none⟩ b).cell? ⟨w.heap.size, 1, none⟩ = some v1 ∧ ((W.setCell ⟨w.heap.size + 1 + 1, 0, none⟩ a).setCell ⟨w.heap.size + 1 + 1, 1, none⟩ b).cell? ⟨w.heap.size + 1, 0, none⟩ = some v2 ∧ ((W.setCell ⟨w.heap.size + 1 + 1, 0, none⟩ a).setCell ⟨w.heap.size + 1 + 1, 1, none⟩ b).cell? ⟨w.heap.size + 1, 1, none⟩ = some v3 ∧ (∃ x, ((W.setCell ⟨w.heap.size + 1 + 1, 0, none⟩ a).setCell ⟨w.heap.size + 1 + 1, 1, none⟩ b).cell? ⟨w.heap.size + 1 + 1, 0, none⟩ = some x) ∧ (∃ x, ((W.setCell ⟨w.heap.size + 1 + 1, 0, none⟩ a).setCell ⟨w.heap.size + 1 + 1, 1, none⟩ b).cell? ⟨w.heap.size + 1 + 1, 1, none⟩ = some x) ∧ ((W.setCell ⟨w.heap.size + 1 + 1, 0, none⟩ a).setCell ⟨w.heap.size + 1 + 1, 1, none⟩ b).frozen? ⟨w.heap.size + 1 + 1, 0, none⟩ = false ∧ ((W.setCell ⟨w.heap.size + 1 + 1, 0, none⟩ a).setCell ⟨w.heap.size + 1 + 1, 1, none⟩ b).frozen? ⟨w.heap.size + 1 + 1, 1, none⟩ = false := by
  obtain ⟨q, q0, q1, q2, q3, ⟨x4, q4⟩, ⟨x5, q5⟩, q6, q7⟩ := h
  have e : ∀ p : Addr, p.block ≠ w.heap.size + 1 + 1 → ((W.setCell ⟨w.heap.size + 1 + 1, 0, none⟩ a).setCell ⟨w.heap.size + 1 + 1, 1, none⟩ b).cell? p = W.cell? p := fun p hp => by
    rw [World.cell?_setCell_other _ _ _ _ (by rintro rfl; exact hp rfl), World.cell?_setCell_other _ _ _ _ (by rintro rfl; exact hp rfl)]
  refine ⟨(q.setCell (by show w.heap.size ≤ w.heap.size + 1 + 1; omega) _).setCell (by show w.heap.size ≤ w.heap.size + 1 + 1; omega) _, (e _ (by show w.heap.size ≠ w.heap.size + 1 + 1; omega)).trans q0, (e _ (by show w.heap.size ≠ w.heap.size + 1 + 1; omega)).trans q1, (e _ (by show w.heap.size + 1 ≠ w.heap.size + 1 + 1; omega)).trans q2, (e _ (by show w.heap.size + 1 ≠ w.heap.size + 1 + 1; omega)).trans q3, ⟨a, ?_⟩, ⟨b, ?_⟩, ?_, ?_⟩
  · rw [World.cell?_setCell_other _ _ _ _ (by simp)]
    exact World.cell?_setCell_same _ _ _ q4
  · exact World.cell?_setCell_same _ _ _ (by rw [World.cell?_setCell_other _ _ _ _ (by simp)]; exact q5)
  · rw [World.frozen?_setCell, World.frozen?_setCell]; exact q6
  · rw [World.frozen?_setCell, World.frozen?_setCell]; exact q7

set_option maxRecDepth 100000 in
set_option maxHeartbeats 4000000 in
theorem refSub_any (a b : Nat) (c : Int) (ha : a < B * B) (hb : b < B * B) (w : World) :
    Calls Tryd.prog 34 #[numV a, numV b, .int .i64 c] w (RetNum w (subN a b c)) := by
  have l1 : (b % 2 ^ sh 128) ^^^ (2 ^ sh 128 - 1) < B * B := by rw [BB_pow2] at hb ⊢; rw [not_num hb]; omega
  have l2 : (a + ((b % 2 ^ sh 128) ^^^ (2 ^ sh 128 - 1))) % 2 ^ 128 % 2 ^ sh 128 < B * B := by rw [BB_pow2]; exact Nat.lt_of_le_of_lt (Nat.mod_le _ _) (Nat.mod_lt _ (Nat.two_pow_pos _))
  have hnot : ∀ W, Calls Tryd.prog 32 #[numV b, .int .i64 128] W (RetNum W ((b % 2 ^ sh 128) ^^^ (2 ^ sh 128 - 1))) := fun W => refNot_any b 128 hb W
  have hadd : ∀ W, Calls Tryd.prog 33 #[numV a, numV ((b % 2 ^ sh 128) ^^^ (2 ^ sh 128 - 1)), .int .i64 128] W (RetNum W ((a + ((b % 2 ^ sh 128) ^^^ (2 ^ sh 128 - 1))) % 2 ^ 128 % 2 ^ sh 128)) := fun W => refAdd_any _ _ 128 ha l1 W
  have hof : ∀ W, Calls Tryd.prog 25 #[.int .u64 1] W (RetNum W 1) := fun W => refOf_any 1 (by unfold B; omega) W
  have hadd2 : ∀ W, Calls Tryd.prog 33 #[numV ((a + ((b % 2 ^ sh 128) ^^^ (2 ^ sh 128 - 1))) % 2 ^ 128 % 2 ^ sh 128), numV 1, .int .i64 c] W (RetNum W (subN a b c)) := fun W => by
    have h := refAdd_any _ 1 c l2 (by rw [BB_pow2]; omega) W
    rw [sub_num c (by rw [← BB_pow2]; exact ha) (by rw [← BB_pow2]; exact hb)] at h
    exact h
  obtain ⟨h1, k1, e1, -, -⟩ := numV_parts a
  obtain ⟨h2, k2, e2, -, -⟩ := numV_parts b
  obtain ⟨h3, k3, e3, -, -⟩ := numV_parts ((b % 2 ^ sh 128) ^^^ (2 ^ sh 128 - 1))
  obtain ⟨h4, k4, e4, -, -⟩ := numV_parts ((a + ((b % 2 ^ sh 128) ^^^ (2 ^ sh 128 - 1))) % 2 ^ 128 % 2 ^ sh 128)
  obtain ⟨h5, k5, e5, -, -⟩ := numV_parts 1
  obtain ⟨h6, k6, e6, -, -⟩ := numV_parts (subN a b c)
  have HE6 := Lib.hid e6
  unfold RetNum at hnot hadd hof hadd2
  rw [e2, e3] at hnot
  rw [e1, e3, e4] at hadd
  rw [e5] at hof
  rw [e4, e5, e6] at hadd2
  rw [e1, e2]
  have HNOT := Lib.hid hnot
  have HADD := Lib.hid hadd
  have HOF := Lib.hid hof
  have HADD2 := Lib.hid hadd2
  clear hnot hadd hof hadd2 e1 e2 e3 e4 e5 e6 l1 l2 ha hb
  go_enter Tryd.func34, Tryd.ntmps34
  go_wp2_with fail
  obtain ⟨W0, hW0⟩ : ∃ W0, W0 = ((w.alloc (.cells #[.int .u64 (h1 : Int), .int .u64 (k1 : Int)] 24)).alloc (.cells #[.int .u64 (h2 : Int), .int .u64 (k2 : Int)] 24)).alloc (.cells #[.int .u64 0, .int .u64 0] 24) := ⟨_, rfl⟩
  have hbW : Below w.heap.size w W0 := by rw [hW0]; exact (by repeat (first | exact Below.refl _ _ | assumption | refine Below.drew ?_ | refine Below.alloc ?_ (by first | omega | (simp <;> omega)) _ | refine Below.setCell ?_ (by first | omega | (simp <;> omega)) _ | refine Below.trans ?_ (Below.mono (by assumption) (by first | omega | (simp <;> omega)))))
  have z0 : w.heap.size < W0.heap.size := by rw [hW0]; simp <;> omega
  have z1 : w.heap.size + 1 < W0.heap.size := by rw [hW0]; simp
  have z2 : w.heap.size + 1 + 1 < W0.heap.size := by rw [hW0]; simp
  have c0 : W0.cell? ⟨w.heap.size, 0, none⟩ = some (.int .u64 (h1 : Int)) := by rw [hW0]; simp [go_sem]
  have c1 : W0.cell? ⟨w.heap.size, 1, none⟩ = some (.int .u64 (k1 : Int)) := by rw [hW0]; simp [go_sem]
  have c2 : W0.cell? ⟨w.heap.size + 1, 0, none⟩ = some (.int .u64 (h2 : Int)) := by rw [hW0]; simp [go_sem]
  have c3 : W0.cell? ⟨w.heap.size + 1, 1, none⟩ = some (.int .u64 (k2 : Int)) := by rw [hW0]; simp [go_sem]
  have c4 : W0.cell? ⟨w.heap.size + 1 + 1, 0, none⟩ = some (.int .u64 0) := by rw [hW0]; simp [go_sem]
  have c5 : W0.cell? ⟨w.heap.size + 1 + 1, 1, none⟩ = some (.int .u64 0) := by rw [hW0]; simp [go_sem]
  have f4 : W0.frozen? ⟨w.heap.size + 1 + 1, 0, none⟩ = false := by rw [hW0]; simp [go_sem]
  have f5 : W0.frozen? ⟨w.heap.size + 1 + 1, 1, none⟩ = false := by rw [hW0]; simp [go_sem]
  have cr : W0.heap[w.heap.size + 1 + 1]? = some (.cells #[.int .u64 0, .int .u64 0] 24 (0, 0)) := by
    rw [hW0]
    have := heap_new ((w.alloc (.cells #[.int .u64 (h1 : Int), .int .u64 (k1 : Int)] 24)).alloc (.cells #[.int .u64 (h2 : Int), .int .u64 (k2 : Int)] 24)) (.cells #[.int .u64 0, .int .u64 0] 24)
    simp only [World.size_alloc] at this
    exact this
  rw [← hW0]
  have HBW0 := Lib.hid hbW
  have HCR := Lib.hid cr
  clear hW0 hbW cr
  go_region_held3 (fun w' => Below w.heap.size w w' ∧ w'.cell? ⟨w.heap.size, 0, none⟩ = some (.int .u64 (h1 : Int)) ∧ w'.cell? ⟨w.heap.size, 1, none⟩ = some (.int .u64 (k1 : Int)) ∧ w'.cell? ⟨w.heap.size + 1, 0, none⟩ = some (.int .u64 (h2 : Int)) ∧ w'.cell? ⟨w.heap.size + 1, 1, none⟩ = some (.int .u64 (k2 : Int)) ∧ (∃ x, w'.cell? ⟨w.heap.size + 1 + 1, 0, none⟩ = some x) ∧ (∃ x, w'.cell? ⟨w.heap.size + 1 + 1, 1, none⟩ = some x) ∧ w'.frozen? ⟨w.heap.size + 1 + 1, 0, none⟩ = false ∧ w'.frozen? ⟨w.heap.size + 1 + 1, 1, none⟩ = false)
    (first | exact ⟨below_drewN HBW0.out 1, c0, c1, c2, c3, ⟨_, c4⟩, ⟨_, c5⟩, f4, f5⟩ | exact heldE hb1 (by assumption) | exact heldSet _ _ (by assumption))
    (first
      | (go_at_call 32; refine (HNOT.out _).mono ?_; rintro e w1 ⟨rfl, hb1⟩)
      | (go_at_call 25; refine (HOF.out _).mono ?_; rintro e w1 ⟨rfl, hb1⟩)
      | (go_at_call 33; (with_reducible refine (HADD.out _).mono ?_); rintro e w1 ⟨rfl, hb1⟩)
      | (go_at_call 33; (with_reducible refine (HADD2.out _).mono ?_); rintro e w1 ⟨rfl, hb1⟩; obtain ⟨-, -, -, -, -, ⟨x4, g4⟩, ⟨x5, g5⟩, g6, g7⟩ := heldE hb1 (by assumption)))
  rename_i hS
  have HBF := Lib.hid hS.1
  clear hS
  have y5 : (w1.setCell ⟨w.heap.size + 1 + 1, 0, none⟩ (.int .u64 (h6 : Int))).cell? ⟨w.heap.size + 1 + 1, 1, none⟩ = some x5 := by rw [World.cell?_setCell_other _ _ _ _ (by simp)]; exact g5
  have y0 : ((w1.setCell ⟨w.heap.size + 1 + 1, 0, none⟩ (.int .u64 (h6 : Int))).setCell ⟨w.heap.size + 1 + 1, 1, none⟩ (.int .u64 (k6 : Int))).cell? ⟨w.heap.size + 1 + 1, 0, none⟩ = some (.int .u64 (h6 : Int)) := by
    rw [World.cell?_setCell_other _ _ _ _ (by simp)]
    exact World.cell?_setCell_same _ _ _ g4
  have y1 : ((w1.setCell ⟨w.heap.size + 1 + 1, 0, none⟩ (.int .u64 (h6 : Int))).setCell ⟨w.heap.size + 1 + 1, 1, none⟩ (.int .u64 (k6 : Int))).cell? ⟨w.heap.size + 1 + 1, 1, none⟩ = some (.int .u64 (k6 : Int)) := World.cell?_setCell_same _ _ _ y5
  clear y5 g4 g5 g6 g7 c0 c1 c2 c3 c4 c5 f4 f5
  generalize (w1.setCell ⟨w.heap.size + 1 + 1, 0, none⟩ (.int .u64 (h6 : Int))).setCell ⟨w.heap.size + 1 + 1, 1, none⟩ (.int .u64 (k6 : Int)) = WF at *
  go_wp2_with fail
  exact bodyPost_ret (v := .agg #[.int .u64 (h6 : Int), .int .u64 (k6 : Int)]) (by simp [results, Tryd.results34, go_sem, y0, y1]) rfl ⟨by rw [HE6.out], HBF.out⟩

end Go.Proofs.YtfalhemeiengcaaDoor
