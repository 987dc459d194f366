/-
  The law SymbvMeans holds of the given program: for every input the call answers true, and each argument reads behind the call as it read before. No condition.
  (The frame of this text was written by the kit's program proof-skeleton.)
-/
import Derived.Test.YtlnkflmnjkmhkaaRows
import Derived.Test.YtlnkflmnjkmhkaaJM23
import Derived.WalkKit
import Derived.ProofKit
import Derived.OpenShut
import Derived.ShutString
import Derived.ChangeOld
import Derived.Below

namespace Go.Proofs.Ytlnkflmnjkmhkaa.symbvMeans
open Go.ChangeShapes Go.WideShapes Go.ChangeAt Go.RowKit
open Go.ChangeMaps (open_string shut_string)

theorem own : ownKnob Try.prog.godebug = none := by kernel_rfl
theorem laidOut : laidOutB Try.prog = true := by kernel_rfl

set_option maxRecDepth 100000 in
theorem open_num {W : World} {v : Value} (h : Value.okWide Try.prog W .any 0 41 v) : ∃ v0 v1, v = .agg #[.int .u64 v0, .int .u64 v1] ∧ IntKind.u64.has v0 ∧ IntKind.u64.has v1 := by
  simp only [Value.okWide, Try.underlying41] at h
  obtain ⟨cs, rfl, h1, ts, h2, -, h4⟩ := h
  have e1 : Try.prog.cellsOf 41 = 2 := by kernel_rfl
  have e2 : Try.prog.cellTypes Try.prog.depth 41 = some [38, 38] := by kernel_rfl
  rw [e1] at h1
  rw [e2] at h2
  cases h2
  have key : ∀ i v, cs[i]? = some v → i < 2 → ∃ n, v = .int .u64 n ∧ IntKind.u64.has n := by
    intro i v hi hl
    obtain ⟨u, hu, hc⟩ := h4 i v hi
    have : u = 38 := by
      match i, hl, hu with
      | 0, _, hu => simpa using hu.symm
      | 1, _, hu => simpa using hu.symm
    subst this
    simp only [Cell.okWide, Try.underlying38] at hc
    cases v <;> simp_all [Cell.ok]
  obtain ⟨n0, e0, b0⟩ := key 0 cs[0] (by simp [h1]) (by omega)
  obtain ⟨n1, e1', b1⟩ := key 1 cs[1] (by simp [h1]) (by omega)
  refine ⟨n0, n1, ?_, b0, b1⟩
  clear b0 b1 h4 key
  congr 1
  apply Array.ext
  · simp [h1]
  · intro i hi1 hi2
    match i, hi1 with
    | 0, _ => simpa using e0
    | 1, _ => simpa using e1'

set_option maxRecDepth 100000 in
theorem open_u8 {W : World} {v : Value} (h : Value.okWide Try.prog W .any 0 5 v) : ∃ n, v = .int .u8 n ∧ IntKind.u8.has n := by
  simp only [Value.okWide, Cell.okWide, Try.underlying5] at h
  cases v <;> simp_all [Cell.ok]

set_option maxRecDepth 100000 in
theorem u8_nat {x : Int} (h : IntKind.u8.has x) : ∃ n : Nat, x = (n : Int) ∧ n < 256 := by
  obtain ⟨h0, h1⟩ := h
  have m0 : IntKind.u8.min = 0 := by decide
  have m1 : IntKind.u8.max = 255 := by decide
  rw [m0] at h0
  rw [m1] at h1
  obtain ⟨n, rfl⟩ := Int.eq_ofNat_of_zero_le h0
  exact ⟨n, rfl, by omega⟩

set_option maxRecDepth 100000 in
theorem walk (a b c x y : Int) (w : World) (ha : IntKind.u8.has a) (hb : IntKind.u8.has b) (hc : IntKind.u8.has c) (hx : IntKind.u64.has x) (hy : IntKind.u64.has y) :
    Calls Try.prog 4 #[.int .u8 a, .int .u8 b, .agg #[.int .u64 x, .int .u64 y], .int .u8 c] w fun e w' => e = .returned (.bool true) ∧ Below w.heap.size w w' := by
  obtain ⟨a, rfl, ha'⟩ := u8_nat ha
  obtain ⟨b, rfl, hb'⟩ := u8_nat hb
  obtain ⟨c, rfl, hc'⟩ := u8_nat hc
  obtain ⟨hx0, hx1⟩ := hx
  obtain ⟨hy0, hy1⟩ := hy
  have m0 : IntKind.u64.min = 0 := by decide
  have m1 : IntKind.u64.max = 18446744073709551615 := by decide
  rw [m0] at hx0 hy0
  rw [m1] at hx1 hy1
  obtain ⟨n, rfl⟩ := Int.eq_ofNat_of_zero_le hx0
  obtain ⟨m, rfl⟩ := Int.eq_ofNat_of_zero_le hy0
  have hn : n < B := by unfold B; omega
  have hm : m < B := by unfold B; omega
  have e := numV_mk n m hm
  have hlt : n * B + m < B * B := by
    have : n * B ≤ (B - 1) * B := Nat.mul_le_mul_right _ (by omega)
    have e2 : (B - 1) * B = B * B - B := by rw [Nat.sub_mul, Nat.one_mul]
    have e3 : B ≤ B * B := Nat.le_mul_of_pos_left _ B_pos
    omega
  exact law17m a b c (n * B + m) n m hlt (Lib.hid e.symm) ha' hb' hc' w

/-! ### THE ROW's STEP: WRITTEN OUT: LEAVE IT -/
set_option maxRecDepth 100000 in
theorem lifted (os : Os) (started : os.Started) (H : Type) (enc : TypeId × Value → H) :
    ReturnsInHanded {} Try.checked os 4 .any (Rows.symbvMeansSpec.pre6 enc Try.prog Try.f4 Rows.symbvMeansRow.domain false) (Rows.symbvMeansSpec.post enc Try.prog Try.f4 false true false false) := by
  refine returnsInHanded_of_change (C := Try.checked) own started (by kernel_rfl) Try.func4
    (ChangeSpec.witness6 (enc := enc) (C := Try.checked) false ⟨#[], #[.int .u8 0, .int .u8 0, .agg #[.int .u64 0, .int .u64 0], .int .u8 0], []⟩ 8 (by kernel_rfl) (by kernel_rfl) (by kernel_rfl) (by kernel_rfl)) ?_
  intro W base args ds gs before hval0 hW hcnd _
  have hval : ∀ (j : Nat) t v, Try.f4.params[j]? = some t → args[j]? = some v → Value.okWide Try.prog W .any base t v := hval0
  have hW' := hW
  obtain ⟨p, q, hA0, hV, rfl, hfz, hnd⟩ := hW
  have hA : DataW.TrodAll enc Try.prog W 0 (fun _ => true) true Try.f4.params.toList args.toList ds p := hA0
  rw [Try.params4] at hA hval
  obtain ⟨v0, vs0, d0, ds0, p0, q0, hargs, rfl, rfl, h0, r0⟩ := trodAll_cons hA
  obtain ⟨v1, vs1, d1, ds1, p1, q1, rfl, rfl, rfl, h1, r1⟩ := trodAll_cons r0
  obtain ⟨v2, vs2, d2, ds2, p2, q2, rfl, rfl, rfl, h2, r2⟩ := trodAll_cons r1
  obtain ⟨v3, vs3, d3, ds3, p3, q3, rfl, rfl, rfl, h3, r3⟩ := trodAll_cons r2
  obtain ⟨rfl, rfl, rfl⟩ := trodAll_nil r3
  obtain rfl : args = #[v0, v1, v2, v3] := by cases args; simp_all
  obtain ⟨rfl, rfl⟩ := trodVars_none hV
  have k0 := h0
  have lt0 : ∀ x ∈ p0, x.block < W.heap.size := by obtain ⟨m, hm⟩ := k0; exact DataW.trod_lt m _ _ _ hm
  have k1 := h1
  have lt1 : ∀ x ∈ p1, x.block < W.heap.size := by obtain ⟨m, hm⟩ := k1; exact DataW.trod_lt m _ _ _ hm
  have k2 := h2
  have lt2 : ∀ x ∈ p2, x.block < W.heap.size := by obtain ⟨m, hm⟩ := k2; exact DataW.trod_lt m _ _ _ hm
  have k3 := h3
  have lt3 : ∀ x ∈ p3, x.block < W.heap.size := by obtain ⟨m, hm⟩ := k3; exact DataW.trod_lt m _ _ _ hm
  obtain ⟨a0, rfl, w0⟩ := open_u8 (hval 0 5 v0 rfl rfl)
  obtain ⟨a1, rfl, w1⟩ := open_u8 (hval 1 5 v1 rfl rfl)
  obtain ⟨x2, y2, rfl, w2, w2'⟩ := open_num (hval 2 41 v2 rfl rfl)
  obtain ⟨a3, rfl, w3⟩ := open_u8 (hval 3 5 v3 rfl rfl)
  clear hA0 hval0
  refine (walk a0 a1 a3 x2 y2 W w0 w1 w3 w2 w2').mono fun e W' ⟨he, bel⟩ => ?_
  subst he
  exact ⟨_, rfl, _, _, _, [], _, [], hW', trodAll_mk1 (shut_bool Try.underlying4 _), (trodAll_cons_mk (Below.trod laidOut (by kernel_rfl) (of_decide_eq_true (by kernel_rfl)) k0 bel lt0) (trodAll_cons_mk (Below.trod laidOut (by kernel_rfl) (of_decide_eq_true (by kernel_rfl)) k1 bel lt1) (trodAll_cons_mk (Below.trod laidOut (by kernel_rfl) (of_decide_eq_true (by kernel_rfl)) k2 bel lt2) (trodAll_cons_mk (Below.trod laidOut (by kernel_rfl) (of_decide_eq_true (by kernel_rfl)) k3 bel lt3) trodAll_mk0)))), rfl, bel.frame _, fun h => by cases h⟩

theorem over : Rows.symbvMeansRow.holds Try.pinned (OpenSpec.ofChange Rows.symbvMeansSpec) :=
  OpenClaim.holds_of_wide 4 Try.f4 rfl rfl rfl rfl rfl rfl rfl ⟨rfl, rfl, rfl, rfl, rfl⟩ rfl rfl rfl rfl rfl (by kernel_rfl) Try.func4 (by kernel_rfl)
    (of_decide_eq_true (by kernel_rfl)) (by unfold Func.isWrapper; first | (rw [if_pos (by decide +kernel)]; kernel_rfl) | (rw [if_neg (by decide +kernel)]; exact ⟨rfl, rfl⟩))
    (fun os started H enc _ => lifted os started H enc)

/-- ████ THE STATEMENT ████ -/
theorem proved : Rows.SymbvMeansSaid := over
#print axioms proved
end Go.Proofs.Ytlnkflmnjkmhkaa.symbvMeans
