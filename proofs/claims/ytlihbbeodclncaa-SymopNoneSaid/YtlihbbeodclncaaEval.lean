/-
  Contracts of bdd.New, Holds of a constant, symbv.Eval, symbv.Is, num.Bit.
-/
import Derived.Test.YtlihbbeodclncaaNumSh
import Derived.Test.YtlihbbeodclncaaVecNil
namespace Go.Proofs.Ytlihbbeodclncaa
open Go.RowKit

set_option maxHeartbeats 400000 in
theorem eval_nil (va bits : Value) (xs : List Int) (w : World) (ha : IVec w va xs) (hxl : xs.length ≤ 1000000) :
    Calls Try.prog 24 #[.pointer none, va, bits] w (RetNum w 0) := by
  obtain ⟨pa, ca, rfl, ha3, ha4, ha5⟩ := ha.shape
  clear ha
  have HA := Lib.hid ha5; clear ha5
  go_enter Try.func24, Try.ntmps24
  go_wp2_with fail
  go_loop [11] (fun i => ∃ k : Nat, k ≤ xs.length ∧ i = .int .i64 k) (fun i => xs.length - (intOf i).toNat)
  case atStart => exact ⟨0, Nat.zero_le _, rfl⟩
  case round =>
    obtain ⟨k, hk, rfl⟩ := hrel
    by_cases hlt : k < xs.length
    · obtain ⟨ba, oa, rfl, ha2, ha5⟩ := HA.out (by omega)
      have ga := ha5 k hlt
      clear ha5
      go_wp2_with (go_at_call 47; refine (holds_nil _ _ _).mono ?_; rintro e w1 ⟨rfl, rfl⟩)
      go_round
      case rel => exact ⟨k + 1, by omega, by go_num⟩
      case measure => simp [intOf]; omega
    · obtain rfl : k = xs.length := by omega
      go_wp2_with fail
      exact bodyPost_ret (v := .agg #[.int .u64 0, .int .u64 0]) (by simp [results, Try.results24, go_sem]) rfl ⟨rfl, (by repeat (first | exact Below.refl _ _ | assumption | refine Below.drew ?_ | refine Below.alloc ?_ (by first | omega | (simp <;> omega)) _ | refine Below.setCell ?_ (by first | omega | (simp <;> omega)) _ | refine Below.trans ?_ (Below.mono (by assumption) (by first | omega | (simp <;> omega)))))⟩

set_option maxHeartbeats 400000 in
theorem is_nil (w : World) :
    Calls Try.prog 23 #[.pointer none, .slice none 0 0] w fun e w' => e = .returned (.tuple #[numV 0, .bool false]) ∧ Below w.heap.size w w' := by
  have HZ := Lib.hid zero_eq_numV
  go_enter Try.func23, Try.ntmps23
  go_wp2_with fail
  refine wp_loop_rounds 1 ?_
  rw [rounds_succ]
  go_wp2_with fail
  refine (eval_nil _ _ [] _ (IVec.nil _) (by simp)).mono ?_
  rintro e w1 ⟨rfl, hb⟩
  obtain ⟨hc, hf⟩ := bcell hb
  rw [← HZ.out]
  go_wp2_with fail
  exact bodyPost_ret (v := .tuple #[.agg #[.int .u64 0, .int .u64 0], .bool false]) (by simp [results, Try.results23, go_sem, hc, hf]) rfl ⟨by rw [HZ.out], (by repeat (first | exact Below.refl _ _ | assumption | refine Below.drew ?_ | refine Below.alloc ?_ (by first | omega | (simp <;> omega)) _ | refine Below.setCell ?_ (by first | omega | (simp <;> omega)) _ | refine Below.trans ?_ (Below.mono (by assumption) (by first | omega | (simp <;> omega)))))⟩

end Go.Proofs.Ytlihbbeodclncaa
