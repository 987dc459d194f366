/-
  What single operations of the law NumBits yield.
-/
import Derived.Test.YtfalhemeiengcaaDoorBitsF
import Derived.Test.YtfalhemeiengcaaDoorRefAnd
import Derived.Test.YtfalhemeiengcaaDoorRefOr
import Derived.Test.YtfalhemeiengcaaDoorRefXor
import Derived.Test.YtfalhemeiengcaaDoorRefShr
import Derived.Test.YtfalhemeiengcaaDoorSumsX
namespace Go.Proofs.YtfalhemeiengcaaDoor
open Go.RowKit Go.Maps

section
variable {P : Program} {o : Oper} {w : World} {ev : Operand → Value}
theorem ex_eqlN {x y : Operand} {a b : Nat} (h : o.op = .binOp .eql 24 x y 24) (hx : ev x = numV a) (hy : ev y = numV b) (e : a = b) : (execOp ev o).run Tryd.prog w = .ok (.value (.bool true)) w := by
  subst e
  have heql : ∀ W, (Go.binOp .eql 24 (.agg #[.int .u64 ((a / B : Nat) : Int), .int .u64 ((a % B : Nat) : Int)]) (.agg #[.int .u64 ((a / B : Nat) : Int), .int .u64 ((a % B : Nat) : Int)])).run Tryd.prog W = .ok (.bool true) W := fun W => by simp [go_sem]
  unfold execOp; rw [h]; dsimp only; rw [hx, hy]; unfold numV; go_simp
theorem ex_eqlB {x y : Operand} {a : Bool} (h : o.op = .binOp .eql 4 x y 4) (hx : ev x = .bool a) (hy : ev y = .bool a) : (execOp ev o).run Tryd.prog w = .ok (.value (.bool true)) w := by
  unfold execOp; rw [h]; dsimp only; rw [hx, hy]; cases a <;> go_simp
theorem ex_neqI {x y : Operand} {a : Int} (h : o.op = .binOp .neq 3 x y 3) (hx : ev x = .int .i64 a) (hy : ev y = .int .i64 a) : (execOp ev o).run Tryd.prog w = .ok (.value (.bool false)) w := by
  unfold execOp; rw [h]; dsimp only; rw [hx, hy]; go_simp
theorem ex_lo {x : Operand} {g : Nat} (h : o.op = .fieldAddr 24 x 1) (hx : ev x = .pointer (some ⟨g, 0, none⟩)) : (execOp ev o).run Tryd.prog w = .ok (.value (.pointer (some ⟨g, 1, none⟩))) w := by
  unfold execOp; rw [h]; dsimp only; rw [hx]; go_simp
theorem ex_load_u {x : Operand} {g i : Nat} {a : Int} (h : o.op = .load 22 x) (hx : ev x = .pointer (some ⟨g, i, none⟩)) (h0 : w.cell? ⟨g, i, none⟩ = some (.int .u64 a)) : (execOp ev o).run Tryd.prog w = .ok (.value (.int .u64 a)) w := by
  unfold execOp; rw [h]; dsimp only; rw [hx]; go_simp
end

end Go.Proofs.YtfalhemeiengcaaDoor
