/-
  The law ActionSums holds of the given program: for every input the call answers true, and each argument reads behind the call as it read before. No condition.
  (The frame of this text was written by the kit's program proof-skeleton.)
-/
import Derived.Test.YtnknpgfconfgjaaRows
import Derived.Test.YtnknpgfconfgjaaJA21
import Derived.WalkKit
import Derived.ProofKit
import Derived.OpenShut
import Derived.ShutString
import Derived.ChangeOld
import Derived.Below

namespace Go.Proofs.Ytnknpgfconfgjaa.actionSums
open Go.ChangeShapes Go.WideShapes Go.ChangeAt Go.RowKit
open Go.ChangeMaps (open_string shut_string)

theorem own : ownKnob Try.prog.godebug = none := by kernel_rfl
theorem laidOut : laidOutB Try.prog = true := by kernel_rfl

theorem arr_two {cs : Array Value} {x y : Value} (h : cs.size = 2) (hx : cs[0]? = some x) (hy : cs[1]? = some y) : cs = #[x, y] := by
  apply Array.ext
  · simp [h]
  · intro i hi1 hi2
    rw [h] at hi1
    have h0 : i = 0 ∨ i = 1 := by omega
    rcases h0 with rfl | rfl
    · rw [Array.getElem?_eq_getElem (by omega)] at hx; simpa using hx
    · rw [Array.getElem?_eq_getElem (by omega)] at hy; simpa using hy
set_option maxRecDepth 100000 in
theorem cell_u64 {W : World} {v : Value} (hc : Cell.okWide Try.prog W .any 0 22 v) : ∃ n : Nat, v = .int .u64 (n : Int) ∧ n < B := by
  simp only [Cell.okWide, Try.underlying22] at hc
  obtain ⟨n, rfl, hn⟩ : ∃ n : Int, v = .int .u64 n ∧ IntKind.u64.has n := by cases v <;> simp_all [Cell.ok]
  obtain ⟨h0, h1⟩ := hn
  have m0 : IntKind.u64.min = 0 := by decide
  have m1 : IntKind.u64.max = 18446744073709551615 := by decide
  rw [m0] at h0
  rw [m1] at h1
  obtain ⟨m, rfl⟩ := Int.eq_ofNat_of_zero_le h0
  exact ⟨m, rfl, by unfold B; omega⟩
theorem two_parts {n0 n1 : Nat} (b0 : n0 < B) (b1 : n1 < B) : n0 * B + n1 < B * B := by
  have : n0 * B ≤ (B - 1) * B := Nat.mul_le_mul_right _ (by omega)
  have e2 : (B - 1) * B = B * B - B := by rw [Nat.sub_mul, Nat.one_mul]
  have e3 : B ≤ B * B := Nat.le_mul_of_pos_left _ B_pos
  omega
set_option maxRecDepth 100000 in
/-- A number that came in. -/
theorem open_num {W : World} {v : Value} (h : Value.okWide Try.prog W .any 0 24 v) : ∃ n : Nat, v = numV n ∧ n < B * B := by
  simp only [Value.okWide, Try.underlying24] at h
  obtain ⟨cs, rfl, h1, ts, h2, -, h4⟩ := h
  have e1 : Try.prog.cellsOf 24 = 2 := by kernel_rfl
  have e2 : Try.prog.cellTypes Try.prog.depth 24 = some [22, 22] := by kernel_rfl
  rw [e1] at h1
  rw [e2] at h2
  cases h2
  have q0 : cs[0]? = some (cs[0]'(by rw [h1]; decide)) := Array.getElem?_eq_getElem (by rw [h1]; decide)
  have q1 : cs[1]? = some (cs[1]'(by rw [h1]; decide)) := Array.getElem?_eq_getElem (by rw [h1]; decide)
  obtain ⟨t0, ht0, hc0⟩ := h4 0 _ q0
  obtain ⟨t1, ht1, hc1⟩ := h4 1 _ q1
  cases ht0
  cases ht1
  obtain ⟨n0, e0, b0⟩ := cell_u64 hc0
  obtain ⟨n1, e1', b1⟩ := cell_u64 hc1
  exact ⟨n0 * B + n1, (congrArg Value.agg (arr_two h1 (q0.trans (congrArg some e0)) (q1.trans (congrArg some e1')))).trans (numV_mk n0 n1 b1), two_parts b0 b1⟩

/-! ### THE ROW's STEP: WRITTEN OUT: LEAVE IT -/
set_option maxRecDepth 100000 in
theorem lifted (os : Os) (started : os.Started) (H : Type) (enc : TypeId × Value → H) :
    ReturnsInHanded {} Try.checked os 3 .any (Rows.actionSumsSpec.pre6 enc Try.prog Try.f3 Rows.actionSumsRow.domain false) (Rows.actionSumsSpec.post enc Try.prog Try.f3 false true false false) := by
  refine returnsInHanded_of_change (C := Try.checked) own started (by kernel_rfl) Try.func3
    (ChangeSpec.witness6 (enc := enc) (C := Try.checked) false ⟨#[], #[.agg #[.int .u64 0, .int .u64 0], .agg #[.int .u64 0, .int .u64 0], .int .i64 0, .int .i64 0], []⟩ 8 (by kernel_rfl) (by kernel_rfl) (by kernel_rfl) (by kernel_rfl)) ?_
  intro W base args ds gs before hval0 hW hcnd _
  have hval : ∀ (j : Nat) t v, Try.f3.params[j]? = some t → args[j]? = some v → Value.okWide Try.prog W .any base t v := hval0
  have hW' := hW
  obtain ⟨p, q, hA0, hV, rfl, hfz, hnd⟩ := hW
  have hA : DataW.TrodAll enc Try.prog W 0 (fun _ => true) true Try.f3.params.toList args.toList ds p := hA0
  rw [Try.params3] at hA hval
  obtain ⟨v0, vs0, d0, ds0, p0, q0, hargs, rfl, rfl, h0, r0⟩ := trodAll_cons hA
  obtain ⟨v1, vs1, d1, ds1, p1, q1, rfl, rfl, rfl, h1, r1⟩ := trodAll_cons r0
  obtain ⟨v2, vs2, d2, ds2, p2, q2, rfl, rfl, rfl, h2, r2⟩ := trodAll_cons r1
  obtain ⟨v3, vs3, d3, ds3, p3, q3, rfl, rfl, rfl, h3, r3⟩ := trodAll_cons r2
  obtain ⟨rfl, rfl, rfl⟩ := trodAll_nil r3
  obtain rfl : args = #[v0, v1, v2, v3] := by cases args; simp_all
  obtain ⟨rfl, rfl⟩ := trodVars_none hV
  have k0 := h0
  have lt0 : ∀ x ∈ p0, x.block < W.heap.size := by obtain ⟨m, hm⟩ := k0; exact DataW.trod_lt m _ _ _ hm
  obtain ⟨a, rfl, ha⟩ := open_num (hval 0 24 v0 rfl rfl)
  have k1 := h1
  have lt1 : ∀ x ∈ p1, x.block < W.heap.size := by obtain ⟨m, hm⟩ := k1; exact DataW.trod_lt m _ _ _ hm
  obtain ⟨b, rfl, hb⟩ := open_num (hval 1 24 v1 rfl rfl)
  obtain ⟨a2, rfl, rfl, rfl, w2⟩ := open_int Try.underlying3 (hval 2 3 v2 rfl rfl) h2
  obtain ⟨a3, rfl, rfl, rfl, w3⟩ := open_int Try.underlying3 (hval 3 3 v3 rfl rfl) h3
  clear hA0 hval0
  refine (law21 a b a2 a3 W ha hb).mono fun e W' ⟨he, bel⟩ => ?_
  subst he
  exact ⟨_, rfl, _, _, _, [], _, [], hW', trodAll_mk1 (shut_bool Try.underlying4 _), (trodAll_cons_mk (Below.trod laidOut (by kernel_rfl) (of_decide_eq_true (by kernel_rfl)) k0 bel lt0) (trodAll_cons_mk (Below.trod laidOut (by kernel_rfl) (of_decide_eq_true (by kernel_rfl)) k1 bel lt1) (trodAll_cons_mk (shut_int Try.underlying3 w2) (trodAll_cons_mk (shut_int Try.underlying3 w3) trodAll_mk0)))), rfl, bel.frame _, fun h => by cases h⟩

theorem over : Rows.actionSumsRow.holds Try.pinned (OpenSpec.ofChange Rows.actionSumsSpec) :=
  OpenClaim.holds_of_wide 3 Try.f3 rfl rfl rfl rfl rfl rfl rfl ⟨rfl, rfl, rfl, rfl, rfl⟩ rfl rfl rfl rfl rfl (by kernel_rfl) Try.func3 (by kernel_rfl)
    (of_decide_eq_true (by kernel_rfl)) (by unfold Func.isWrapper; first | (rw [if_pos (by decide +kernel)]; kernel_rfl) | (rw [if_neg (by decide +kernel)]; exact ⟨rfl, rfl⟩))
    (fun os started H enc _ => lifted os started H enc)

/-- ████ THE STATEMENT ████ -/
theorem proved : Rows.ActionSumsSaid := over
#print axioms proved
end Go.Proofs.Ytnknpgfconfgjaa.actionSums
