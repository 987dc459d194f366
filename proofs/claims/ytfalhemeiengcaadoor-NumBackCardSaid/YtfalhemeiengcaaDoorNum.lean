/-
  Contracts of package num (and of the reference's Of), over the seat's program: what each returns, as natural numbers' own operations.
-/
import Derived.Test.YtfalhemeiengcaaDoorLib
import Derived.Test.YtfalhemeiengcaaDoorNumP
import Derived.Deep.QuietTactic
import Derived.BigQuiet
import Derived.StillTailTactics
import Derived.RegionTactic
import Derived.BigRegion
namespace Go.Proofs.YtfalhemeiengcaaDoor
open Go.RowKit

/-- A number is handed back; nothing that was has changed. -/
def RetNum (w : World) (n : Nat) (e : Ending) (w' : World) : Prop := e = .returned (numV n) ∧ Below w.heap.size w w'

theorem zero_eq_numV : Value.agg #[.int .u64 0, .int .u64 0] = numV 0 := rfl

set_option maxRecDepth 100000 in
set_option maxHeartbeats 400000 in
theorem or1_any (a b : Int) (w : World) :
    Calls Tryd.prog 57 #[.int .u64 a, .int .u64 b] w fun e w' => e = .returned (.int .u64 (bits BinOp.or IntKind.u64 a b)) ∧ w' = w := by
  go_enter Tryd.func57, Tryd.ntmps57
  go_wp2
  go_ret
  exact ⟨rfl, rfl⟩

set_option maxRecDepth 100000 in
set_option maxHeartbeats 400000 in
theorem both_or (a b c d : Int) (w : World) :
    Calls Tryd.prog 55 #[.agg #[.int .u64 a, .int .u64 b], .agg #[.int .u64 c, .int .u64 d], .func (Fn.func 57) #[] #[]] w fun e w' => e = .returned (.agg #[.int .u64 (bits BinOp.or IntKind.u64 a c), .int .u64 (bits BinOp.or IntKind.u64 b d)]) ∧ Below w.heap.size w w' := by
  go_enter Tryd.func55, Tryd.ntmps55
  go_wp2
  refine wp_region_still_tail 13 (by kernel_rfl) (by kernel_rfl) ?_
  simp only [List.take_succ_cons, List.take_zero, List.drop_succ_cons, List.drop_zero]
  change wpStill _ _ (World.drew _) _ _ _
  repeat (first | still_step | still_call (or1_any _ _ _))
  refine wpStill_nil ?_
  change wpList _ _ _ _ _ (World.drew _)
  go_wp2
  exact bodyPost_ret (v := .agg #[.int .u64 (bits BinOp.or IntKind.u64 a c), .int .u64 (bits BinOp.or IntKind.u64 b d)]) (by simp [results, Tryd.results55, go_sem]) rfl ⟨rfl, (by repeat (first | exact Below.refl _ _ | assumption | refine Below.drew ?_ | refine Below.alloc ?_ (by first | omega | (simp <;> omega)) _ | refine Below.setCell ?_ (by first | omega | (simp <;> omega)) _ | refine Below.trans ?_ (Below.mono (by assumption) (by first | omega | (simp <;> omega)))))⟩

set_option maxRecDepth 100000 in
set_option maxHeartbeats 400000 in
theorem or_any (a b c d : Int) (w : World) :
    Calls Tryd.prog 28 #[.agg #[.int .u64 a, .int .u64 b], .agg #[.int .u64 c, .int .u64 d]] w fun e w' => e = .returned (.agg #[.int .u64 (bits BinOp.or IntKind.u64 a c), .int .u64 (bits BinOp.or IntKind.u64 b d)]) ∧ Below w.heap.size w w' := by
  go_enter Tryd.func28, Tryd.ntmps28
  go_wp2_with (go_at_call 55; refine (both_or _ _ _ _ _).mono ?_; rintro e w1 ⟨rfl, hb⟩; obtain ⟨hc, hf⟩ := bcell hb; have hz := hb.size; simp at hz)
  exact bodyPost_ret (v := .agg #[.int .u64 (bits BinOp.or IntKind.u64 a c), .int .u64 (bits BinOp.or IntKind.u64 b d)]) (by simp [results, Tryd.results28, go_sem, hc, hf, hz]) rfl ⟨rfl, (by repeat (first | exact Below.refl _ _ | assumption | refine Below.drew ?_ | refine Below.alloc ?_ (by first | omega | (simp <;> omega)) _ | refine Below.setCell ?_ (by first | omega | (simp <;> omega)) _ | refine Below.trans ?_ (Below.mono (by assumption) (by first | omega | (simp <;> omega)))))⟩

theorem numOr_any (a b : Nat) (w : World) (ha : a < B * B) (hb : b < B * B) : Calls Tryd.prog 28 #[numV a, numV b] w (RetNum w (a ||| b)) :=
  (or_any _ _ _ _ w).mono fun e w' ⟨h1, h2⟩ => ⟨by rw [h1, or_num a b ha hb], h2⟩

set_option maxRecDepth 100000 in
set_option maxHeartbeats 400000 in
theorem and1_any (a b : Int) (w : World) :
    Calls Tryd.prog 56 #[.int .u64 a, .int .u64 b] w fun e w' => e = .returned (.int .u64 (bits BinOp.and IntKind.u64 a b)) ∧ w' = w := by
  go_enter Tryd.func56, Tryd.ntmps56
  go_wp2
  go_ret
  exact ⟨rfl, rfl⟩

set_option maxRecDepth 100000 in
set_option maxHeartbeats 400000 in
theorem both_and (a b c d : Int) (w : World) :
    Calls Tryd.prog 55 #[.agg #[.int .u64 a, .int .u64 b], .agg #[.int .u64 c, .int .u64 d], .func (Fn.func 56) #[] #[]] w fun e w' => e = .returned (.agg #[.int .u64 (bits BinOp.and IntKind.u64 a c), .int .u64 (bits BinOp.and IntKind.u64 b d)]) ∧ Below w.heap.size w w' := by
  go_enter Tryd.func55, Tryd.ntmps55
  go_wp2
  refine wp_region_still_tail 13 (by kernel_rfl) (by kernel_rfl) ?_
  simp only [List.take_succ_cons, List.take_zero, List.drop_succ_cons, List.drop_zero]
  change wpStill _ _ (World.drew _) _ _ _
  repeat (first | still_step | still_call (and1_any _ _ _))
  refine wpStill_nil ?_
  change wpList _ _ _ _ _ (World.drew _)
  go_wp2
  exact bodyPost_ret (v := .agg #[.int .u64 (bits BinOp.and IntKind.u64 a c), .int .u64 (bits BinOp.and IntKind.u64 b d)]) (by simp [results, Tryd.results55, go_sem]) rfl ⟨rfl, (by repeat (first | exact Below.refl _ _ | assumption | refine Below.drew ?_ | refine Below.alloc ?_ (by first | omega | (simp <;> omega)) _ | refine Below.setCell ?_ (by first | omega | (simp <;> omega)) _ | refine Below.trans ?_ (Below.mono (by assumption) (by first | omega | (simp <;> omega)))))⟩

set_option maxRecDepth 100000 in
set_option maxHeartbeats 400000 in
theorem and_any (a b c d : Int) (w : World) :
    Calls Tryd.prog 26 #[.agg #[.int .u64 a, .int .u64 b], .agg #[.int .u64 c, .int .u64 d]] w fun e w' => e = .returned (.agg #[.int .u64 (bits BinOp.and IntKind.u64 a c), .int .u64 (bits BinOp.and IntKind.u64 b d)]) ∧ Below w.heap.size w w' := by
  go_enter Tryd.func26, Tryd.ntmps26
  go_wp2_with (go_at_call 55; refine (both_and _ _ _ _ _).mono ?_; rintro e w1 ⟨rfl, hb⟩; obtain ⟨hc, hf⟩ := bcell hb; have hz := hb.size; simp at hz)
  exact bodyPost_ret (v := .agg #[.int .u64 (bits BinOp.and IntKind.u64 a c), .int .u64 (bits BinOp.and IntKind.u64 b d)]) (by simp [results, Tryd.results26, go_sem, hc, hf, hz]) rfl ⟨rfl, (by repeat (first | exact Below.refl _ _ | assumption | refine Below.drew ?_ | refine Below.alloc ?_ (by first | omega | (simp <;> omega)) _ | refine Below.setCell ?_ (by first | omega | (simp <;> omega)) _ | refine Below.trans ?_ (Below.mono (by assumption) (by first | omega | (simp <;> omega)))))⟩

theorem numAnd_any (a b : Nat) (w : World) (ha : a < B * B) (hb : b < B * B) : Calls Tryd.prog 26 #[numV a, numV b] w (RetNum w (a &&& b)) :=
  (and_any _ _ _ _ w).mono fun e w' ⟨h1, h2⟩ => ⟨by rw [h1, and_num a b ha hb], h2⟩

end Go.Proofs.YtfalhemeiengcaaDoor
