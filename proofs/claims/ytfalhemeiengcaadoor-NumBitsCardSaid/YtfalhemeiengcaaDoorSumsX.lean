/-
  What single operations yield; num.Fits.
-/
import Derived.Test.YtfalhemeiengcaaDoorVals
import Derived.Test.YtfalhemeiengcaaDoorParseR
import Derived.Test.YtfalhemeiengcaaDoorSumsP
import Derived.Test.YtfalhemeiengcaaDoorHeldT
import Derived.Deep.RegionHeld3
namespace Go.Proofs.YtfalhemeiengcaaDoor
open Go.RowKit Go.Maps

section
variable {P : Program} {o : Oper} {w : World} {ev : Operand → Value}
theorem ex_neqN {x y : Operand} {a b : Nat} (h : o.op = .binOp .neq 24 x y 24) (hx : ev x = numV a) (hy : ev y = numV b) (e : a = b) : (execOp ev o).run Tryd.prog w = .ok (.value (.bool false)) w := by
  subst e
  have hneq : ∀ W, (Go.binOp .neq 24 (.agg #[.int .u64 ((a / B : Nat) : Int), .int .u64 ((a % B : Nat) : Int)]) (.agg #[.int .u64 ((a / B : Nat) : Int), .int .u64 ((a % B : Nat) : Int)])).run Tryd.prog W = .ok (.bool false) W := fun W => by simp [go_sem]
  unfold execOp; rw [h]; dsimp only; rw [hx, hy]; unfold numV; go_simp
theorem ex_neqB {x y : Operand} {a b : Bool} (h : o.op = .binOp .neq 4 x y 4) (hx : ev x = .bool a) (hy : ev y = .bool b) (e : a = b) : (execOp ev o).run Tryd.prog w = .ok (.value (.bool false)) w := by
  subst e
  unfold execOp; rw [h]; dsimp only; rw [hx, hy]; cases a <;> go_simp
theorem ex_lss0 {x : Operand} {n : Int} (h : o.op = .binOp .lss 3 x (.const (.int .i64 0)) 3) (hx : ev x = .int .i64 n) (hc : ev (.const (.int .i64 0)) = .int .i64 0 := by rfl) : (execOp ev o).run Tryd.prog w = .ok (.value (.bool (decide (n < 0)))) w := by
  unfold execOp; rw [h]; dsimp only; rw [hx, hc]; go_simp
theorem ex_gtr0 {x : Operand} {n : Int} (h : o.op = .binOp .gtr 3 x (.const (.int .i64 0)) 3) (hx : ev x = .int .i64 n) (hc : ev (.const (.int .i64 0)) = .int .i64 0 := by rfl) : (execOp ev o).run Tryd.prog w = .ok (.value (.bool (decide (0 < n)))) w := by
  unfold execOp; rw [h]; dsimp only; rw [hx, hc]; go_simp
theorem ex_not {x : Operand} (h : o.op = .unOp .not 4 x) (hx : ev x = .bool true) : (execOp ev o).run Tryd.prog w = .ok (.value (.bool false)) w := by
  unfold execOp; rw [h]; dsimp only; rw [hx]; go_simp
theorem ex_sub1 {x : Operand} {n : Int} (h : o.op = .binOp .sub 3 x (.const (.int .i64 1)) 3) (hx : ev x = .int .i64 n) (h0 : 0 ≤ n) (h1 : n < 1000) (hc : ev (.const (.int .i64 1)) = .int .i64 1 := by rfl) : (execOp ev o).run Tryd.prog w = .ok (.value (.int .i64 (n - 1))) w := by
  have q : IntKind.i64.wrap (n - 1) = n - 1 := by rw [IntKind.wrap_i64]; omega
  unfold execOp; rw [h]; dsimp only; rw [hx, hc]; go_simp
end

set_option maxRecDepth 100000 in
set_option maxHeartbeats 1000000 in
/-- A number that fits. -/
theorem numFits_any (n : Nat) (k : Int) (w : World) (hn : n < B * B) (hf : n % 2 ^ sh k = n) : Calls Tryd.prog 17 #[numV n, .int .i64 k] w fun e w' => e = .returned (.bool true) ∧ Below w.heap.size w w' := by
  have HC0 : ∀ W, Calls Tryd.prog 11 #[numV n, .int .i64 k] W (RetNum W (n % 2 ^ sh k)) := fun W => numCut_any n k W hn
  rw [hf] at HC0
  obtain ⟨y, z, he, -, -⟩ := numV_parts n
  unfold RetNum at HC0
  rw [he] at HC0 ⊢
  have HC := Lib.hid HC0
  have heq : ∀ W, (Go.binOp .eql 24 (.agg #[.int .u64 (y : Int), .int .u64 (z : Int)]) (.agg #[.int .u64 (y : Int), .int .u64 (z : Int)])).run Tryd.prog W = .ok (.bool true) W := fun W => by simp [go_sem]
  clear HC0 he hf hn
  go_enter Tryd.func17, Tryd.ntmps17
  go_wp2_with fail
  have hbx : Below w.heap.size w (w.alloc (.cells #[.int .u64 (y : Int), .int .u64 (z : Int)] 24)) := (Below.refl _ _).alloc (Nat.le_refl _) _
  have hx : Hid (Below w.heap.size w (w.alloc (.cells #[.int .u64 (y : Int), .int .u64 (z : Int)] 24)).drew ∧ (w.alloc (.cells #[.int .u64 (y : Int), .int .u64 (z : Int)] 24)).drew.cell? ⟨w.heap.size, 0, none⟩ = some (.int .u64 (y : Int)) ∧ (w.alloc (.cells #[.int .u64 (y : Int), .int .u64 (z : Int)] 24)).drew.cell? ⟨w.heap.size, 1, none⟩ = some (.int .u64 (z : Int))) := ⟨below_drewN hbx 1, by simp [go_sem], by simp [go_sem]⟩
  clear hbx
  go_region_held3 (fun Wk => Below (w.heap.size) (w) Wk ∧ Wk.cell? ⟨w.heap.size, 0, none⟩ = some (.int .u64 (y : Int)) ∧ Wk.cell? ⟨w.heap.size, 1, none⟩ = some (.int .u64 (z : Int)))
    (first | exact hx.out | exact held_2_0 hb1 (by assumption) | assumption)
    (first
    | (go_at_call 11; (with_reducible refine (HC.out _).mono ?_); rintro e w1 ⟨rfl, hb1⟩))
  rename_i hS
  have HB := Lib.hid hS.1
  clear hS
  go_wp2_with fail
  exact bodyPost_ret (v := .bool true) (by simp [results, Tryd.results17, go_sem]) rfl ⟨rfl, HB.out⟩

end Go.Proofs.YtfalhemeiengcaaDoor
