/-
  The contract of quillonref01.Of.
-/
import Derived.Test.YtfalhemeiengcaaDoorNumSh
namespace Go.Proofs.YtfalhemeiengcaaDoor
open Go.RowKit

theorem refOf_val (n : Nat) (hn : n < B) : Value.agg #[.int .u64 0, .int .u64 (n : Int)] = numV n := numOf_val n hn

set_option maxRecDepth 100000 in
set_option maxHeartbeats 400000 in
theorem refOf_any (n : Nat) (hn : n < B) (w : World) :
    Calls Tryd.prog 25 #[.int .u64 (n : Int)] w (RetNum w n) := by
  have H := Lib.hid (numOf_val n hn); clear hn
  go_enter Tryd.func25, Tryd.ntmps25
  go_wp2
  exact bodyPost_ret (v := .agg #[.int .u64 0, .int .u64 (n : Int)]) (by simp [results, Tryd.results25, go_sem]) rfl ⟨by rw [H.out], (by repeat (first | exact Below.refl _ _ | assumption | refine Below.drew ?_ | refine Below.alloc ?_ (by first | omega | (simp <;> omega)) _ | refine Below.setCell ?_ (by first | omega | (simp <;> omega)) _ | refine Below.trans ?_ (Below.mono (by assumption) (by first | omega | (simp <;> omega)))))⟩

end Go.Proofs.YtfalhemeiengcaaDoor
