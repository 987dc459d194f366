/-
  The law SymbvPlays holds of the given program: for every input the call answers true, and each argument reads behind the call as it read before. No condition.
  (The frame of this text was written by the kit's program proof-skeleton.)
-/
import Derived.Test.YtlnkflmnjkmhkaaRows
import Derived.Test.YtlnkflmnjkmhkaaJR39
import Derived.WalkKit
import Derived.ProofKit
import Derived.OpenShut
import Derived.ShutString
import Derived.ChangeOld
import Derived.Below

namespace Go.Proofs.Ytlnkflmnjkmhkaa.symbvPlays
open Go.ChangeShapes Go.WideShapes Go.ChangeAt Go.RowKit
open Go.ChangeMaps (open_string shut_string)

theorem own : ownKnob Try.prog.godebug = none := by kernel_rfl
theorem laidOut : laidOutB Try.prog = true := by kernel_rfl

theorem ops_at {w : World} {va : Value} {n : Nat} (h : ∃ pa cap, va = .slice pa n cap ∧ n ≤ maxLen ∧ (0 < n → ∃ d off, pa = some ⟨d, off, none⟩ ∧ d < w.heap.size ∧ ∀ k, k < n →
  ∃ (kind oa ob oc ok ol : Int) (n0 n1 : Nat), n0 < 18446744073709551616 ∧ n1 < 18446744073709551616 ∧ (-9223372036854775808 ≤ ok ∧ ok ≤ 9223372036854775807) ∧ w.cell? ⟨d, off + k * 8, none⟩ = some (.int .i64 kind) ∧ w.cell? ⟨d, off + k * 8 + 1, none⟩ = some (.int .i64 oa) ∧ w.cell? ⟨d, off + k * 8 + 2, none⟩ = some (.int .i64 ob) ∧
    w.cell? ⟨d, off + k * 8 + 3, none⟩ = some (.int .i64 oc) ∧ w.cell? ⟨d, off + k * 8 + 4, none⟩ = some (.int .i64 ok) ∧ w.cell? ⟨d, off + k * 8 + 5, none⟩ = some (.int .i64 ol) ∧ w.cell? ⟨d, off + k * 8 + 6, none⟩ = some (.int .u64 (n0 : Int)) ∧ w.cell? ⟨d, off + k * 8 + 7, none⟩ = some (.int .u64 (n1 : Int)))) : OpsAt17 w va n := by
  unfold OpsAt17 B
  exact h

/-! ### THE ROW's STEP: WRITTEN OUT: LEAVE IT -/
set_option maxRecDepth 100000 in
theorem lifted (os : Os) (started : os.Started) (H : Type) (enc : TypeId × Value → H) :
    ReturnsInHanded {} Try.checked os 5 .any (Rows.symbvPlaysSpec.pre6 enc Try.prog Try.f5 Rows.symbvPlaysRow.domain false) (Rows.symbvPlaysSpec.post enc Try.prog Try.f5 false true false false) := by
  refine returnsInHanded_of_change (C := Try.checked) own started (by kernel_rfl) Try.func5
    (ChangeSpec.witness6 (enc := enc) (C := Try.checked) false ⟨#[], #[.int .i64 0, .slice none 0 0, .slice none 0 0], []⟩ 8 (by kernel_rfl) (by kernel_rfl) (by kernel_rfl) (by kernel_rfl)) ?_
  intro W base args ds gs before hval0 hW hcnd _
  have hval : ∀ (j : Nat) t v, Try.f5.params[j]? = some t → args[j]? = some v → Value.okWide Try.prog W .any base t v := hval0
  have hW' := hW
  obtain ⟨p, q, hA0, hV, rfl, hfz, hnd⟩ := hW
  have hA : DataW.TrodAll enc Try.prog W 0 (fun _ => true) true Try.f5.params.toList args.toList ds p := hA0
  rw [Try.params5] at hA hval
  obtain ⟨v0, vs0, d0, ds0, p0, q0, hargs, rfl, rfl, h0, r0⟩ := trodAll_cons hA
  obtain ⟨v1, vs1, d1, ds1, p1, q1, rfl, rfl, rfl, h1, r1⟩ := trodAll_cons r0
  obtain ⟨v2, vs2, d2, ds2, p2, q2, rfl, rfl, rfl, h2, r2⟩ := trodAll_cons r1
  obtain ⟨rfl, rfl, rfl⟩ := trodAll_nil r2
  obtain rfl : args = #[v0, v1, v2] := by cases args; simp_all
  obtain ⟨rfl, rfl⟩ := trodVars_none hV
  have k0 := h0
  have lt0 : ∀ x ∈ p0, x.block < W.heap.size := by obtain ⟨m, hm⟩ := k0; exact DataW.trod_lt m _ _ _ hm
  have k1 := h1
  have lt1 : ∀ x ∈ p1, x.block < W.heap.size := by obtain ⟨m, hm⟩ := k1; exact DataW.trod_lt m _ _ _ hm
  have k2 := h2
  have lt2 : ∀ x ∈ p2, x.block < W.heap.size := by obtain ⟨m, hm⟩ := k2; exact DataW.trod_lt m _ _ _ hm
  obtain ⟨a0, rfl, w0⟩ := open_int (hval 0 3 v0 rfl rfl)
  obtain ⟨n, hops⟩ := open_ops17 (hval 1 67 v1 rfl rfl) k1
  obtain ⟨bs, hbs⟩ := open_bools (hval 2 58 v2 rfl rfl) k2
  clear hA0 hval0
  refine (law17p a0 v1 v2 n bs W (ops_at hops) hbs).mono fun e W' ⟨he, bel⟩ => ?_
  subst he
  exact ⟨_, rfl, _, _, _, [], _, [], hW', trodAll_mk1 (shut_bool Try.underlying4 _), (trodAll_cons_mk (Below.trod laidOut (by kernel_rfl) (of_decide_eq_true (by kernel_rfl)) k0 bel lt0) (trodAll_cons_mk (Below.trod laidOut (by kernel_rfl) (of_decide_eq_true (by kernel_rfl)) k1 bel lt1) (trodAll_cons_mk (Below.trod laidOut (by kernel_rfl) (of_decide_eq_true (by kernel_rfl)) k2 bel lt2) trodAll_mk0))), rfl, bel.frame _, fun h => by cases h⟩

theorem over : Rows.symbvPlaysRow.holds Try.pinned (OpenSpec.ofChange Rows.symbvPlaysSpec) :=
  OpenClaim.holds_of_wide 5 Try.f5 rfl rfl rfl rfl rfl rfl rfl ⟨rfl, rfl, rfl, rfl, rfl⟩ rfl rfl rfl rfl rfl (by kernel_rfl) Try.func5 (by kernel_rfl)
    (of_decide_eq_true (by kernel_rfl)) (by unfold Func.isWrapper; first | (rw [if_pos (by decide +kernel)]; kernel_rfl) | (rw [if_neg (by decide +kernel)]; exact ⟨rfl, rfl⟩))
    (fun os started H enc _ => lifted os started H enc)

/-- ████ THE STATEMENT ████ -/
theorem proved : Rows.SymbvPlaysSaid := over
#print axioms proved
end Go.Proofs.Ytlnkflmnjkmhkaa.symbvPlays
