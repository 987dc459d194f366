/-
  The law SymopPlays holds of the given program: for every input the call answers true, and each argument reads behind the call as it read before. No condition.
  (The frame of this text was written by the kit's program proof-skeleton.)
-/
import Derived.Test.YtlnkflmnjkmhkaaRows
import Derived.Test.YtlnkflmnjkmhkaaJQ34
import Derived.Test.YtlnkflmnjkmhkaaJQ35
import Derived.WalkKit
import Derived.ProofKit
import Derived.OpenShut
import Derived.ShutString
import Derived.ChangeOld
import Derived.Below

namespace Go.Proofs.Ytlnkflmnjkmhkaa.symopPlays
open Go.ChangeShapes Go.WideShapes Go.ChangeAt Go.RowKit
open Go.ChangeMaps (open_string shut_string)

theorem own : ownKnob Try.prog.godebug = none := by kernel_rfl
theorem laidOut : laidOutB Try.prog = true := by kernel_rfl

theorem ops_at {w : World} {va : Value} {n : Nat} (h : ∃ pa cap, va = .slice pa n cap ∧ n ≤ maxLen ∧ (0 < n → ∃ d off, pa = some ⟨d, off, none⟩ ∧ d < w.heap.size ∧ ∀ k, k < n →
  ∃ (kind oa ob : Int) (v0 v1 m0 m1 : Nat), v0 < 18446744073709551616 ∧ v1 < 18446744073709551616 ∧ m0 < 18446744073709551616 ∧ m1 < 18446744073709551616 ∧ w.cell? ⟨d, off + k * 7, none⟩ = some (.int .i64 kind) ∧ w.cell? ⟨d, off + k * 7 + 1, none⟩ = some (.int .i64 oa) ∧ w.cell? ⟨d, off + k * 7 + 2, none⟩ = some (.int .i64 ob) ∧
    w.cell? ⟨d, off + k * 7 + 3, none⟩ = some (.int .u64 (v0 : Int)) ∧ w.cell? ⟨d, off + k * 7 + 4, none⟩ = some (.int .u64 (v1 : Int)) ∧ w.cell? ⟨d, off + k * 7 + 5, none⟩ = some (.int .u64 (m0 : Int)) ∧ w.cell? ⟨d, off + k * 7 + 6, none⟩ = some (.int .u64 (m1 : Int)))) : OpsAt w va n := by
  unfold OpsAt B
  exact h

/-! ### THE ROW's STEP: WRITTEN OUT: LEAVE IT -/
set_option maxRecDepth 100000 in
theorem lifted (os : Os) (started : os.Started) (H : Type) (enc : TypeId × Value → H) :
    ReturnsInHanded {} Try.checked os 3 .any (Rows.symopPlaysSpec.pre6 enc Try.prog Try.f3 Rows.symopPlaysRow.domain false) (Rows.symopPlaysSpec.post enc Try.prog Try.f3 false true false false) := by
  refine returnsInHanded_of_change (C := Try.checked) own started (by kernel_rfl) Try.func3
    (ChangeSpec.witness6 (enc := enc) (C := Try.checked) false ⟨#[], #[.int .i64 0, .slice none 0 0], []⟩ 8 (by kernel_rfl) (by kernel_rfl) (by kernel_rfl) (by kernel_rfl)) ?_
  intro W base args ds gs before hval0 hW hcnd _
  have hval : ∀ (j : Nat) t v, Try.f3.params[j]? = some t → args[j]? = some v → Value.okWide Try.prog W .any base t v := hval0
  have hW' := hW
  obtain ⟨p, q, hA0, hV, rfl, hfz, hnd⟩ := hW
  have hA : DataW.TrodAll enc Try.prog W 0 (fun _ => true) true Try.f3.params.toList args.toList ds p := hA0
  rw [Try.params3] at hA hval
  obtain ⟨v0, vs0, d0, ds0, p0, q0, hargs, rfl, rfl, h0, r0⟩ := trodAll_cons hA
  obtain ⟨v1, vs1, d1, ds1, p1, q1, rfl, rfl, rfl, h1, r1⟩ := trodAll_cons r0
  obtain ⟨rfl, rfl, rfl⟩ := trodAll_nil r1
  obtain rfl : args = #[v0, v1] := by cases args; simp_all
  obtain ⟨rfl, rfl⟩ := trodVars_none hV
  have k0 := h0
  have lt0 : ∀ x ∈ p0, x.block < W.heap.size := by obtain ⟨m, hm⟩ := k0; exact DataW.trod_lt m _ _ _ hm
  have k1 := h1
  have lt1 : ∀ x ∈ p1, x.block < W.heap.size := by obtain ⟨m, hm⟩ := k1; exact DataW.trod_lt m _ _ _ hm
  obtain ⟨a0, rfl, w0⟩ := open_int (hval 0 3 v0 rfl rfl)
  obtain ⟨n, hops⟩ := open_ops (hval 1 22 v1 rfl rfl) k1
  clear hA0 hval0
  refine (law18p a0 v1 n W (ops_at hops)).mono fun e W' ⟨he, bel⟩ => ?_
  subst he
  exact ⟨_, rfl, _, _, _, [], _, [], hW', trodAll_mk1 (shut_bool Try.underlying4 _), (trodAll_cons_mk (Below.trod laidOut (by kernel_rfl) (of_decide_eq_true (by kernel_rfl)) k0 bel lt0) (trodAll_cons_mk (Below.trod laidOut (by kernel_rfl) (of_decide_eq_true (by kernel_rfl)) k1 bel lt1) trodAll_mk0)), rfl, bel.frame _, fun h => by cases h⟩

theorem over : Rows.symopPlaysRow.holds Try.pinned (OpenSpec.ofChange Rows.symopPlaysSpec) :=
  OpenClaim.holds_of_wide 3 Try.f3 rfl rfl rfl rfl rfl rfl rfl ⟨rfl, rfl, rfl, rfl, rfl⟩ rfl rfl rfl rfl rfl (by kernel_rfl) Try.func3 (by kernel_rfl)
    (of_decide_eq_true (by kernel_rfl)) (by unfold Func.isWrapper; first | (rw [if_pos (by decide +kernel)]; kernel_rfl) | (rw [if_neg (by decide +kernel)]; exact ⟨rfl, rfl⟩))
    (fun os started H enc _ => lifted os started H enc)

/-- ████ THE STATEMENT ████ -/
theorem proved : Rows.SymopPlaysSaid := over
#print axioms proved
end Go.Proofs.Ytlnkflmnjkmhkaa.symopPlays
