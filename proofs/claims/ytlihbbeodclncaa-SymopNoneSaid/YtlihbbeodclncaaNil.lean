/-
  Contracts of the store's methods at a store that is not there: each hands back 0, nothing that was has changed.
-/
import Derived.Test.YtlihbbeodclncaaLib
namespace Go.Proofs.Ytlihbbeodclncaa
open Go.RowKit

/-- An int is handed back; nothing that was has changed. -/
def RetInt (w : World) (n : Int) (e : Ending) (w' : World) : Prop := e = .returned (.int .i64 n) ∧ Below w.heap.size w w'

set_option maxHeartbeats 400000 in
theorem none_nil (w : World) :
    Calls Try.prog 51 #[.pointer none] w fun e w' => e = .returned (.bool true) ∧ w = w' := by
  go_enter Try.func51, Try.ntmps51
  go_wp2
  go_ret
  exact ⟨rfl, rfl⟩

set_option maxHeartbeats 400000 in
theorem full_nil (w : World) :
    Calls Try.prog 54 #[.pointer none] w fun e w' => e = .returned (.bool true) ∧ w = w' := by
  go_enter Try.func54, Try.ntmps54
  go_wp2
  go_ret
  exact ⟨rfl, rfl⟩

set_option maxHeartbeats 400000 in
theorem made_nil (f : Value) (w : World) :
    Calls Try.prog 26 #[.pointer none, f] w (RetInt w 0) := by
  go_enter Try.func26, Try.ntmps26
  go_wp2
  exact bodyPost_ret (v := .int .i64 0) (by simp [results, Try.results26, go_sem]) rfl ⟨rfl, (by repeat (first | exact Below.refl _ _ | assumption | refine Below.drew ?_ | refine Below.alloc ?_ (by first | omega | (simp <;> omega)) _ | refine Below.setCell ?_ (by first | omega | (simp <;> omega)) _ | refine Below.trans ?_ (Below.mono (by assumption) (by first | omega | (simp <;> omega)))))⟩

set_option maxHeartbeats 400000 in
theorem var_nil (v : Int) (w : World) :
    Calls Try.prog 7 #[.pointer none, .int .i64 v] w (RetInt w 0) := by
  go_enter Try.func7, Try.ntmps7
  go_wp2_with (go_at_call 26; refine (made_nil _ _).mono ?_; rintro e w1 ⟨rfl, hb⟩)
  all_goals go_ret
  all_goals exact ⟨rfl, (by repeat (first | exact Below.refl _ _ | assumption | refine Below.drew ?_ | refine Below.alloc ?_ (by first | omega | (simp <;> omega)) _ | refine Below.setCell ?_ (by first | omega | (simp <;> omega)) _ | refine Below.trans ?_ (Below.mono (by assumption) (by first | omega | (simp <;> omega)))))⟩

set_option maxHeartbeats 400000 in
theorem ite_nil (c a b : Int) (w : World) :
    Calls Try.prog 38 #[.pointer none, .int .i64 c, .int .i64 a, .int .i64 b] w (RetInt w 0) := by
  go_enter Try.func38, Try.ntmps38
  go_wp2_with (go_at_call 26; refine (made_nil _ _).mono ?_; rintro e w1 ⟨rfl, hb⟩)
  all_goals go_ret
  all_goals exact ⟨rfl, (by repeat (first | exact Below.refl _ _ | assumption | refine Below.drew ?_ | refine Below.alloc ?_ (by first | omega | (simp <;> omega)) _ | refine Below.setCell ?_ (by first | omega | (simp <;> omega)) _ | refine Below.trans ?_ (Below.mono (by assumption) (by first | omega | (simp <;> omega)))))⟩

set_option maxHeartbeats 400000 in
theorem not_nil (a : Int) (w : World) :
    Calls Try.prog 34 #[.pointer none, .int .i64 a] w (RetInt w 0) := by
  go_enter Try.func34, Try.ntmps34
  go_wp2_with (go_at_call 38; refine (ite_nil _ _ _ _).mono ?_; rintro e w1 ⟨rfl, hb⟩)
  all_goals go_ret
  all_goals exact ⟨rfl, (by repeat (first | exact Below.refl _ _ | assumption | refine Below.drew ?_ | refine Below.alloc ?_ (by first | omega | (simp <;> omega)) _ | refine Below.setCell ?_ (by first | omega | (simp <;> omega)) _ | refine Below.trans ?_ (Below.mono (by assumption) (by first | omega | (simp <;> omega)))))⟩

set_option maxHeartbeats 400000 in
theorem and_nil (a b : Int) (w : World) :
    Calls Try.prog 36 #[.pointer none, .int .i64 a, .int .i64 b] w (RetInt w 0) := by
  go_enter Try.func36, Try.ntmps36
  go_wp2_with (go_at_call 38; refine (ite_nil _ _ _ _).mono ?_; rintro e w1 ⟨rfl, hb⟩)
  all_goals go_ret
  all_goals exact ⟨rfl, (by repeat (first | exact Below.refl _ _ | assumption | refine Below.drew ?_ | refine Below.alloc ?_ (by first | omega | (simp <;> omega)) _ | refine Below.setCell ?_ (by first | omega | (simp <;> omega)) _ | refine Below.trans ?_ (Below.mono (by assumption) (by first | omega | (simp <;> omega)))))⟩

set_option maxHeartbeats 400000 in
theorem or_nil (a b : Int) (w : World) :
    Calls Try.prog 40 #[.pointer none, .int .i64 a, .int .i64 b] w (RetInt w 0) := by
  go_enter Try.func40, Try.ntmps40
  go_wp2_with (go_at_call 38; refine (ite_nil _ _ _ _).mono ?_; rintro e w1 ⟨rfl, hb⟩)
  all_goals go_ret
  all_goals exact ⟨rfl, (by repeat (first | exact Below.refl _ _ | assumption | refine Below.drew ?_ | refine Below.alloc ?_ (by first | omega | (simp <;> omega)) _ | refine Below.setCell ?_ (by first | omega | (simp <;> omega)) _ | refine Below.trans ?_ (Below.mono (by assumption) (by first | omega | (simp <;> omega)))))⟩

set_option maxHeartbeats 400000 in
theorem xor_nil (a b : Int) (w : World) :
    Calls Try.prog 35 #[.pointer none, .int .i64 a, .int .i64 b] w (RetInt w 0) := by
  go_enter Try.func35, Try.ntmps35
  go_wp2_with fail
  refine (not_nil _ _).mono ?_
  rintro e w1 ⟨rfl, hb⟩
  go_wp2_with fail
  refine (ite_nil _ _ _ _).mono ?_
  rintro e w2 ⟨rfl, hb2⟩
  go_wp2_with fail
  all_goals go_ret
  all_goals exact ⟨rfl, hb.trans (hb2.mono hb.size)⟩

set_option maxHeartbeats 400000 in
theorem holds_nil (a : Int) (v : Value) (w : World) :
    Calls Try.prog 47 #[.pointer none, .int .i64 a, v] w fun e w' => e = .returned (.bool false) ∧ w = w' := by
  go_enter Try.func47, Try.ntmps47
  go_wp2_with (go_at_call 51; refine (none_nil _).mono ?_; rintro e w1 ⟨rfl, rfl⟩)
  go_ret
  exact ⟨rfl, rfl⟩

end Go.Proofs.Ytlihbbeodclncaa
