/-
  Fits, of the program and of the document.
-/
import Derived.Test.YtfalhemeiengcaaDoorBitsM
namespace Go.Proofs.YtfalhemeiengcaaDoor
open Go.RowKit

theorem pair_eq (n m : Nat) : (decide (n / B = m / B) && decide (n % B = m % B)) = decide (n = m) := by
  by_cases h : n = m
  · simp [h]
  · rw [decide_eq_false h]
    by_cases h1 : n / B = m / B
    · have h2 : ¬ n % B = m % B := fun e => h (by rw [← Nat.div_add_mod n B, ← Nat.div_add_mod m B, h1, e])
      simp [h2]
    · simp [h1]

set_option maxRecDepth 100000 in
set_option maxHeartbeats 1000000 in
theorem numFits_all (n : Nat) (k : Int) (w : World) (hn : n < B * B) : Calls Tryd.prog 17 #[numV n, .int .i64 k] w fun e w' => e = .returned (.bool (decide (n % 2 ^ sh k = n))) ∧ Below w.heap.size w w' := by
  have HC0 : ∀ W, Calls Tryd.prog 11 #[numV n, .int .i64 k] W (RetNum W (n % 2 ^ sh k)) := fun W => numCut_any n k W hn
  obtain ⟨y, z, he, ey, ez⟩ := numV_parts n
  obtain ⟨y1, z1, he1, ey1, ez1⟩ := numV_parts (n % 2 ^ sh k)
  obtain ⟨X, hX⟩ : ∃ X, X = (decide (y1 = y) && decide (z1 = z)) := ⟨_, rfl⟩
  have HX : Hid (X = decide (n % 2 ^ sh k = n)) := by show X = _; rw [hX, ey, ez, ey1, ez1, pair_eq]
  unfold RetNum at HC0
  rw [he, he1] at HC0
  rw [he]
  have HC := Lib.hid HC0
  have heq : ∀ W, (Go.binOp .eql 24 (.agg #[.int .u64 (y1 : Int), .int .u64 (z1 : Int)]) (.agg #[.int .u64 (y : Int), .int .u64 (z : Int)])).run Tryd.prog W = .ok (.bool X) W := fun W => by rw [hX]; exact eql_pair W
  clear HC0 he he1 hn hX ey ez ey1 ez1
  go_enter Tryd.func17, Tryd.ntmps17
  go_wp2_with fail
  have hbx : Below w.heap.size w (w.alloc (.cells #[.int .u64 (y : Int), .int .u64 (z : Int)] 24)) := (Below.refl _ _).alloc (Nat.le_refl _) _
  have hx : Hid (Below w.heap.size w (w.alloc (.cells #[.int .u64 (y : Int), .int .u64 (z : Int)] 24)).drew ∧ (w.alloc (.cells #[.int .u64 (y : Int), .int .u64 (z : Int)] 24)).drew.cell? ⟨w.heap.size, 0, none⟩ = some (.int .u64 (y : Int)) ∧ (w.alloc (.cells #[.int .u64 (y : Int), .int .u64 (z : Int)] 24)).drew.cell? ⟨w.heap.size, 1, none⟩ = some (.int .u64 (z : Int))) := ⟨below_drewN hbx 1, by simp [go_sem], by simp [go_sem]⟩
  clear hbx
  go_region_held3 (fun Wk => Below (w.heap.size) (w) Wk ∧ Wk.cell? ⟨w.heap.size, 0, none⟩ = some (.int .u64 (y : Int)) ∧ Wk.cell? ⟨w.heap.size, 1, none⟩ = some (.int .u64 (z : Int)))
    (first | exact hx.out | exact held_2_0 hb1 (by assumption) | assumption)
    (first
    | (go_at_call 11; (with_reducible refine (HC.out _).mono ?_); rintro e w1 ⟨rfl, hb1⟩))
  rename_i hS
  have HB := Lib.hid hS.1
  clear hS
  go_wp2_with fail
  exact bodyPost_ret (v := .bool X) (by simp [results, Tryd.results17, go_sem]) rfl ⟨by rw [HX.out], HB.out⟩

set_option maxRecDepth 100000 in
set_option maxHeartbeats 1000000 in
theorem refFits_any (n : Nat) (k : Int) (w : World) (hn : n < B * B) : Calls Tryd.prog 24 #[numV n, .int .i64 k] w fun e w' => e = .returned (.bool (decide (n % 2 ^ sh k = n))) ∧ Below w.heap.size w w' := by
  have HC0 : ∀ W, Calls Tryd.prog 23 #[numV n, .int .i64 k] W (RetNum W (n % 2 ^ sh k)) := fun W => refCut_any n k hn W
  obtain ⟨y, z, he, ey, ez⟩ := numV_parts n
  obtain ⟨y1, z1, he1, ey1, ez1⟩ := numV_parts (n % 2 ^ sh k)
  obtain ⟨X, hX⟩ : ∃ X, X = (decide (y1 = y) && decide (z1 = z)) := ⟨_, rfl⟩
  have HX : Hid (X = decide (n % 2 ^ sh k = n)) := by show X = _; rw [hX, ey, ez, ey1, ez1, pair_eq]
  unfold RetNum at HC0
  rw [he, he1] at HC0
  rw [he]
  have HC := Lib.hid HC0
  have heq : ∀ W, (Go.binOp .eql 24 (.agg #[.int .u64 (y1 : Int), .int .u64 (z1 : Int)]) (.agg #[.int .u64 (y : Int), .int .u64 (z : Int)])).run Tryd.prog W = .ok (.bool X) W := fun W => by rw [hX]; exact eql_pair W
  clear HC0 he he1 hn hX ey ez ey1 ez1
  go_enter Tryd.func24, Tryd.ntmps24
  go_wp2_with fail
  have hbx : Below w.heap.size w (w.alloc (.cells #[.int .u64 (y : Int), .int .u64 (z : Int)] 24)) := (Below.refl _ _).alloc (Nat.le_refl _) _
  have hx : Hid (Below w.heap.size w (w.alloc (.cells #[.int .u64 (y : Int), .int .u64 (z : Int)] 24)).drew ∧ (w.alloc (.cells #[.int .u64 (y : Int), .int .u64 (z : Int)] 24)).drew.cell? ⟨w.heap.size, 0, none⟩ = some (.int .u64 (y : Int)) ∧ (w.alloc (.cells #[.int .u64 (y : Int), .int .u64 (z : Int)] 24)).drew.cell? ⟨w.heap.size, 1, none⟩ = some (.int .u64 (z : Int))) := ⟨below_drewN hbx 1, by simp [go_sem], by simp [go_sem]⟩
  clear hbx
  go_region_held3 (fun Wk => Below (w.heap.size) (w) Wk ∧ Wk.cell? ⟨w.heap.size, 0, none⟩ = some (.int .u64 (y : Int)) ∧ Wk.cell? ⟨w.heap.size, 1, none⟩ = some (.int .u64 (z : Int)))
    (first | exact hx.out | exact held_2_0 hb1 (by assumption) | assumption)
    (first
    | (go_at_call 23; (with_reducible refine (HC.out _).mono ?_); rintro e w1 ⟨rfl, hb1⟩))
  rename_i hS
  have HB := Lib.hid hS.1
  clear hS
  go_wp2_with fail
  exact bodyPost_ret (v := .bool X) (by simp [results, Tryd.results24, go_sem]) rfl ⟨by rw [HX.out], HB.out⟩

end Go.Proofs.YtfalhemeiengcaaDoor
