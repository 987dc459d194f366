/-
  The law SymopMeans holds of the given program: for every input the call answers true, and each argument reads behind the call as it read before. No condition.
  (The frame of this text was written by the kit's program proof-skeleton.)
-/
import Derived.Test.YtlnkflmnjkmhkaaRows
import Derived.Test.YtlnkflmnjkmhkaaJO31
import Derived.WalkKit
import Derived.ProofKit
import Derived.OpenShut
import Derived.ShutString
import Derived.ChangeOld
import Derived.Below

namespace Go.Proofs.Ytlnkflmnjkmhkaa.symopMeans
open Go.ChangeShapes Go.WideShapes Go.ChangeAt Go.RowKit
open Go.ChangeMaps (open_string shut_string)

theorem own : ownKnob Try.prog.godebug = none := by kernel_rfl
theorem laidOut : laidOutB Try.prog = true := by kernel_rfl

set_option maxRecDepth 100000 in
theorem open_pat {W : World} {v : Value} (h : Value.okWide Try.prog W .any 0 43 v) : ∃ v0 v1 m0 m1, v = .agg #[.int .u64 v0, .int .u64 v1, .int .u64 m0, .int .u64 m1] ∧ IntKind.u64.has v0 ∧ IntKind.u64.has v1 ∧ IntKind.u64.has m0 ∧ IntKind.u64.has m1 := by
  simp only [Value.okWide, Try.underlying43] at h
  obtain ⟨cs, rfl, h1, ts, h2, -, h4⟩ := h
  have e1 : Try.prog.cellsOf 43 = 4 := by kernel_rfl
  have e2 : Try.prog.cellTypes Try.prog.depth 43 = some [38, 38, 38, 38] := by kernel_rfl
  rw [e1] at h1
  rw [e2] at h2
  cases h2
  have key : ∀ i v, cs[i]? = some v → i < 4 → ∃ n, v = .int .u64 n ∧ IntKind.u64.has n := by
    intro i v hi hl
    obtain ⟨u, hu, hc⟩ := h4 i v hi
    have : u = 38 := by
      match i, hl, hu with
      | 0, _, hu => simpa using hu.symm
      | 1, _, hu => simpa using hu.symm
      | 2, _, hu => simpa using hu.symm
      | 3, _, hu => simpa using hu.symm
    subst this
    simp only [Cell.okWide, Try.underlying38] at hc
    cases v <;> simp_all [Cell.ok]
  obtain ⟨n0, e0, b0⟩ := key 0 cs[0] (by simp [h1]) (by omega)
  obtain ⟨n1, e1', b1⟩ := key 1 cs[1] (by simp [h1]) (by omega)
  obtain ⟨n2, e2', b2⟩ := key 2 cs[2] (by simp [h1]) (by omega)
  obtain ⟨n3, e3, b3⟩ := key 3 cs[3] (by simp [h1]) (by omega)
  refine ⟨n0, n1, n2, n3, ?_, b0, b1, b2, b3⟩
  congr 1
  apply Array.ext
  · simp [h1]
  · intro i hi1 hi2
    match i, hi1 with
    | 0, _ => simpa using e0
    | 1, _ => simpa using e1'
    | 2, _ => simpa using e2'
    | 3, _ => simpa using e3

set_option maxRecDepth 100000 in
theorem open_u8 {W : World} {v : Value} (h : Value.okWide Try.prog W .any 0 5 v) : ∃ n, v = .int .u8 n ∧ IntKind.u8.has n := by
  simp only [Value.okWide, Cell.okWide, Try.underlying5] at h
  cases v <;> simp_all [Cell.ok]

set_option maxRecDepth 100000 in
theorem u8_nat {x : Int} (h : IntKind.u8.has x) : ∃ n : Nat, x = (n : Int) ∧ n < 256 := by
  obtain ⟨h0, h1⟩ := h
  have m0 : IntKind.u8.min = 0 := by decide
  have m1 : IntKind.u8.max = 255 := by decide
  rw [m0] at h0
  rw [m1] at h1
  obtain ⟨n, rfl⟩ := Int.eq_ofNat_of_zero_le h0
  exact ⟨n, rfl, by omega⟩

theorem u64_nat {x : Int} (h : IntKind.u64.has x) : ∃ n : Nat, x = (n : Int) ∧ n < B := by
  obtain ⟨h0, h1⟩ := h
  have m0 : IntKind.u64.min = 0 := by decide
  have m1 : IntKind.u64.max = 18446744073709551615 := by decide
  rw [m0] at h0
  rw [m1] at h1
  obtain ⟨n, rfl⟩ := Int.eq_ofNat_of_zero_le h0
  exact ⟨n, rfl, by unfold B; omega⟩
theorem two_lt {n m : Nat} (hn : n < B) (hm : m < B) : n * B + m < B * B := by
  have : n * B ≤ (B - 1) * B := Nat.mul_le_mul_right _ (by omega)
  have e2 : (B - 1) * B = B * B - B := by rw [Nat.sub_mul, Nat.one_mul]
  have e3 : B ≤ B * B := Nat.le_mul_of_pos_left _ B_pos
  omega

set_option maxRecDepth 100000 in
theorem walk (a b v0 v1 m0 m1 : Int) (w : World) (ha : IntKind.u8.has a) (hb : IntKind.u8.has b) (h0 : IntKind.u64.has v0) (h1 : IntKind.u64.has v1) (h2 : IntKind.u64.has m0) (h3 : IntKind.u64.has m1) :
    Calls Try.prog 6 #[.int .u8 a, .int .u8 b, .agg #[.int .u64 v0, .int .u64 v1, .int .u64 m0, .int .u64 m1]] w fun e w' => e = .returned (.bool true) ∧ Below w.heap.size w w' := by
  obtain ⟨a, rfl, ha'⟩ := u8_nat ha
  obtain ⟨b, rfl, hb'⟩ := u8_nat hb
  obtain ⟨v0, rfl, b0⟩ := u64_nat h0
  obtain ⟨v1, rfl, b1⟩ := u64_nat h1
  obtain ⟨m0, rfl, b2⟩ := u64_nat h2
  obtain ⟨m1, rfl, b3⟩ := u64_nat h3
  exact law18m a b (v0 * B + v1) (m0 * B + m1) v0 v1 m0 m1 (two_lt b0 b1) (two_lt b2 b3) (Lib.hid (numV_mk v0 v1 b1).symm) (Lib.hid (numV_mk m0 m1 b3).symm) ha' hb' w

/-! ### THE ROW's STEP: WRITTEN OUT: LEAVE IT -/
set_option maxRecDepth 100000 in
theorem lifted (os : Os) (started : os.Started) (H : Type) (enc : TypeId × Value → H) :
    ReturnsInHanded {} Try.checked os 6 .any (Rows.symopMeansSpec.pre6 enc Try.prog Try.f6 Rows.symopMeansRow.domain false) (Rows.symopMeansSpec.post enc Try.prog Try.f6 false true false false) := by
  refine returnsInHanded_of_change (C := Try.checked) own started (by kernel_rfl) Try.func6
    (ChangeSpec.witness6 (enc := enc) (C := Try.checked) false ⟨#[], #[.int .u8 0, .int .u8 0, .agg #[.int .u64 0, .int .u64 0, .int .u64 0, .int .u64 0]], []⟩ 8 (by kernel_rfl) (by kernel_rfl) (by kernel_rfl) (by kernel_rfl)) ?_
  intro W base args ds gs before hval0 hW hcnd _
  have hval : ∀ (j : Nat) t v, Try.f6.params[j]? = some t → args[j]? = some v → Value.okWide Try.prog W .any base t v := hval0
  have hW' := hW
  obtain ⟨p, q, hA0, hV, rfl, hfz, hnd⟩ := hW
  have hA : DataW.TrodAll enc Try.prog W 0 (fun _ => true) true Try.f6.params.toList args.toList ds p := hA0
  rw [Try.params6] at hA hval
  obtain ⟨v0, vs0, d0, ds0, p0, q0, hargs, rfl, rfl, h0, r0⟩ := trodAll_cons hA
  obtain ⟨v1, vs1, d1, ds1, p1, q1, rfl, rfl, rfl, h1, r1⟩ := trodAll_cons r0
  obtain ⟨v2, vs2, d2, ds2, p2, q2, rfl, rfl, rfl, h2, r2⟩ := trodAll_cons r1
  obtain ⟨rfl, rfl, rfl⟩ := trodAll_nil r2
  obtain rfl : args = #[v0, v1, v2] := by cases args; simp_all
  obtain ⟨rfl, rfl⟩ := trodVars_none hV
  have k0 := h0
  have lt0 : ∀ x ∈ p0, x.block < W.heap.size := by obtain ⟨m, hm⟩ := k0; exact DataW.trod_lt m _ _ _ hm
  have k1 := h1
  have lt1 : ∀ x ∈ p1, x.block < W.heap.size := by obtain ⟨m, hm⟩ := k1; exact DataW.trod_lt m _ _ _ hm
  have k2 := h2
  have lt2 : ∀ x ∈ p2, x.block < W.heap.size := by obtain ⟨m, hm⟩ := k2; exact DataW.trod_lt m _ _ _ hm
  obtain ⟨a0, rfl, w0⟩ := open_u8 (hval 0 5 v0 rfl rfl)
  obtain ⟨a1, rfl, w1⟩ := open_u8 (hval 1 5 v1 rfl rfl)
  obtain ⟨e0, e1, m0, m1, rfl, w2, w3, w4, w5⟩ := open_pat (hval 2 43 v2 rfl rfl)
  clear hA0 hval0
  refine (walk a0 a1 e0 e1 m0 m1 W w0 w1 w2 w3 w4 w5).mono fun e W' ⟨he, bel⟩ => ?_
  subst he
  exact ⟨_, rfl, _, _, _, [], _, [], hW', trodAll_mk1 (shut_bool Try.underlying4 _), (trodAll_cons_mk (Below.trod laidOut (by kernel_rfl) (of_decide_eq_true (by kernel_rfl)) k0 bel lt0) (trodAll_cons_mk (Below.trod laidOut (by kernel_rfl) (of_decide_eq_true (by kernel_rfl)) k1 bel lt1) (trodAll_cons_mk (Below.trod laidOut (by kernel_rfl) (of_decide_eq_true (by kernel_rfl)) k2 bel lt2) trodAll_mk0))), rfl, bel.frame _, fun h => by cases h⟩

theorem over : Rows.symopMeansRow.holds Try.pinned (OpenSpec.ofChange Rows.symopMeansSpec) :=
  OpenClaim.holds_of_wide 6 Try.f6 rfl rfl rfl rfl rfl rfl rfl ⟨rfl, rfl, rfl, rfl, rfl⟩ rfl rfl rfl rfl rfl (by kernel_rfl) Try.func6 (by kernel_rfl)
    (of_decide_eq_true (by kernel_rfl)) (by unfold Func.isWrapper; first | (rw [if_pos (by decide +kernel)]; kernel_rfl) | (rw [if_neg (by decide +kernel)]; exact ⟨rfl, rfl⟩))
    (fun os started H enc _ => lifted os started H enc)

/-- ████ THE STATEMENT ████ -/
theorem proved : Rows.SymopMeansSaid := over
#print axioms proved
end Go.Proofs.Ytlnkflmnjkmhkaa.symopMeans
