/-
  The law SymopNone holds of the given program: for every input the call answers true, and each argument reads behind the call as it read before. No condition.
  (The frame of this text was written by the kit's program proof-skeleton.)
-/
import Derived.Test.YtlihbbeodclncaaRows
import Derived.Test.YtlihbbeodclncaaLaw18
import Derived.WalkKit
import Derived.ProofKit
import Derived.OpenShut
import Derived.ShutString
import Derived.ChangeOld
import Derived.Below
namespace Go.Proofs.Ytlihbbeodclncaa.symopNone
open Go.ChangeShapes Go.WideShapes Go.ChangeAt Go.RowKit
open Go.ChangeMaps (open_string shut_string)

theorem own : ownKnob Try.prog.godebug = none := by kernel_rfl
theorem laidOut : laidOutB Try.prog = true := by kernel_rfl

/-- WHAT THE WALK IS TOLD OF A SLICE OF INTEGERS THAT CAME IN: it is nil; or it leads to a row of 'cap' cells, the numbers 'zs' (the first 'len' are its elements, the rest its spare room), each fitting its kind. -/
def IsRow (k : IntKind) (w : World) (a : Option Addr) (len cap : Nat) (zs : List Int) : Prop :=
  (a = none ∧ len = 0 ∧ cap = 0 ∧ zs = []) ∨
  ∃ x, a = some x ∧ len ≤ cap ∧ cap ≤ maxLen ∧ zs.length = cap ∧ (∀ i, i < zs.length → w.cell? (x.add i) = some (.int k (zs.getD i 0))) ∧ ∀ n ∈ zs, (Lit.int k n).wf = true

theorem walk (a0 : Option Addr) (len0 cap0 : Nat) (z0 : List Int) (a1 : Option Addr) (len1 cap1 : Nat) (z1 : List Int) (v0 v1 m0 m1 : Int) (w : World) (w0 : IsRow .i64 w a0 len0 cap0 z0) (w1 : IsRow .i64 w a1 len1 cap1 z1) (w2 : IntKind.u64.has v0 ∧ IntKind.u64.has v1 ∧ IntKind.u64.has m0 ∧ IntKind.u64.has m1) :
    Calls Try.prog 3 #[.slice a0 len0 cap0, .slice a1 len1 cap1, .agg #[.int .u64 v0, .int .u64 v1, .int .u64 m0, .int .u64 m1]] w fun e w' => e = .returned (.bool true) ∧ Below w.heap.size w w' := by
  obtain ⟨ha, hl0⟩ := IVec.of_row w0
  obtain ⟨hb, hl1⟩ := IVec.of_row w1
  have q0 : len0 ≤ maxLen := by
    rcases w0 with ⟨-, rfl, -, -⟩ | ⟨x, -, h1, h2, -, -⟩
    · exact Nat.zero_le _
    · omega
  have q1 : len1 ≤ maxLen := by
    rcases w1 with ⟨-, rfl, -, -⟩ | ⟨x, -, h1, h2, -, -⟩
    · exact Nat.zero_le _
    · omega
  by_cases h : 300 < len0 ∨ 300 < len1
  · exact law18_long a0 a1 len0 len1 cap0 cap1 v0 v1 m0 m1 w h q0 q1
  · have bits : ∀ x y : Int, IntKind.u64.has x → IntKind.u64.has y → ∃ f, BitsAre x y f := by
      intro x y hx hy
      obtain ⟨hx0, hx1⟩ := hx
      obtain ⟨hy0, hy1⟩ := hy
      have m0 : IntKind.u64.min = 0 := by decide
      have m1 : IntKind.u64.max = 18446744073709551615 := by decide
      rw [m0] at hx0 hy0
      rw [m1] at hx1 hy1
      obtain ⟨n, rfl⟩ := Int.eq_ofNat_of_zero_le hx0
      obtain ⟨m, rfl⟩ := Int.eq_ofNat_of_zero_le hy0
      have hn : n < B := by unfold B; omega
      have hm : m < B := by unfold B; omega
      have e := numV_mk n m hm
      have hlt : n * B + m < B * B := by
        have : n * B ≤ (B - 1) * B := Nat.mul_le_mul_right _ (by omega)
        have e2 : (B - 1) * B = B * B - B := by rw [Nat.sub_mul, Nat.one_mul]
        have e3 : B ≤ B * B := Nat.le_mul_of_pos_left _ B_pos
        omega
      refine ⟨bitB (n * B + m), fun i W => ?_⟩
      rw [e]
      exact numBit_any (n * B + m) i W hlt
    obtain ⟨fv, hv⟩ := bits v0 v1 w2.1 w2.2.1
    obtain ⟨fm, hm⟩ := bits m0 m1 w2.2.2.1 w2.2.2.2
    exact law18_short _ _ _ _ v0 v1 m0 m1 fv fm (Lib.hid hv) (Lib.hid hm) w ha hb (by omega) (by omega)

/-- A pattern that came in. -/
theorem open_pat {W : World} {v : Value} (h : Value.okWide Try.prog W .any 0 28 v) : ∃ v0 v1 m0 m1, v = .agg #[.int .u64 v0, .int .u64 v1, .int .u64 m0, .int .u64 m1] ∧ IntKind.u64.has v0 ∧ IntKind.u64.has v1 ∧ IntKind.u64.has m0 ∧ IntKind.u64.has m1 := by
  simp only [Value.okWide, Try.underlying28] at h
  obtain ⟨cs, rfl, h1, ts, h2, -, h4⟩ := h
  have e1 : Try.prog.cellsOf 28 = 4 := by kernel_rfl
  have e2 : Try.prog.cellTypes Try.prog.depth 28 = some [24, 24, 24, 24] := by kernel_rfl
  rw [e1] at h1
  rw [e2] at h2
  cases h2
  have key : ∀ i v, cs[i]? = some v → i < 4 → ∃ n, v = .int .u64 n ∧ IntKind.u64.has n := by
    intro i v hi hl
    obtain ⟨u, hu, hc⟩ := h4 i v hi
    have : u = 24 := by
      match i, hl, hu with
      | 0, _, hu => simpa using hu.symm
      | 1, _, hu => simpa using hu.symm
      | 2, _, hu => simpa using hu.symm
      | 3, _, hu => simpa using hu.symm
    subst this
    simp only [Cell.okWide, Try.underlying24] at hc
    cases v <;> simp_all [Cell.ok]
  obtain ⟨n0, e0, b0⟩ := key 0 cs[0] (by simp [h1]) (by omega)
  obtain ⟨n1, e1', b1⟩ := key 1 cs[1] (by simp [h1]) (by omega)
  obtain ⟨n2, e2', b2⟩ := key 2 cs[2] (by simp [h1]) (by omega)
  obtain ⟨n3, e3, b3⟩ := key 3 cs[3] (by simp [h1]) (by omega)
  refine ⟨n0, n1, n2, n3, ?_, b0, b1, b2, b3⟩
  congr 1
  apply Array.ext
  · simp [h1]
  · intro i hi1 hi2
    match i, hi1 with
    | 0, _ => simpa using e0
    | 1, _ => simpa using e1'
    | 2, _ => simpa using e2'
    | 3, _ => simpa using e3

/-! ### THE ROW's STEP: WRITTEN OUT: LEAVE IT -/
set_option maxRecDepth 100000 in
theorem lifted (os : Os) (started : os.Started) (H : Type) (enc : TypeId × Value → H) :
    ReturnsInHanded {} Try.checked os 3 .any (Rows.symopNoneSpec.pre6 enc Try.prog Try.f3 Rows.symopNoneRow.domain false) (Rows.symopNoneSpec.post enc Try.prog Try.f3 false true false false) := by
  refine returnsInHanded_of_change (C := Try.checked) own started (by kernel_rfl) Try.func3
    (ChangeSpec.witness6 (enc := enc) (C := Try.checked) false ⟨#[], #[.slice none 0 0, .slice none 0 0, .agg #[.int .u64 0, .int .u64 0, .int .u64 0, .int .u64 0]], []⟩ 8 (by kernel_rfl) (by kernel_rfl) (by kernel_rfl) (by kernel_rfl)) ?_
  intro W base args ds gs before hval0 hW hcnd _
  have hval : ∀ (j : Nat) t v, Try.f3.params[j]? = some t → args[j]? = some v → Value.okWide Try.prog W .any base t v := hval0
  have hW' := hW
  obtain ⟨p, q, hA0, hV, rfl, hfz, hnd⟩ := hW
  have hA : DataW.TrodAll enc Try.prog W 0 (fun _ => true) true Try.f3.params.toList args.toList ds p := hA0
  rw [Try.params3] at hA hval
  obtain ⟨v0, vs0, d0, ds0, p0, q0, hargs, rfl, rfl, h0, r0⟩ := trodAll_cons hA
  obtain ⟨v1, vs1, d1, ds1, p1, q1, rfl, rfl, rfl, h1, r1⟩ := trodAll_cons r0
  obtain ⟨v2, vs2, d2, ds2, p2, q2, rfl, rfl, rfl, h2, r2⟩ := trodAll_cons r1
  obtain ⟨rfl, rfl, rfl⟩ := trodAll_nil r2
  obtain rfl : args = #[v0, v1, v2] := by cases args; simp_all
  obtain ⟨rfl, rfl⟩ := trodVars_none hV
  obtain ⟨a0, len0, cap0, rfl⟩ := okWide_slice Try.underlying23 (hval 0 23 v0 rfl rfl)
  have k0 := h0
  have lt0 : ∀ x ∈ p0, x.block < W.heap.size := by obtain ⟨m, hm⟩ := k0; exact DataW.trod_lt m _ _ _ hm
  obtain ⟨z0, w0⟩ : ∃ zs, IsRow .i64 W a0 len0 cap0 zs := by
    obtain ⟨fuel, hf⟩ := h0
    rcases open_ints Try.underlying23 Try.underlying3 (by kernel_rfl) hf with ⟨hcs, _⟩ | ⟨x, l, c, zs, hcs, _, hl, hm, hz, _, hcell, hwz⟩
    · simp [Value.cells] at hcs
      obtain ⟨rfl, rfl, rfl⟩ := hcs
      exact ⟨[], .inl ⟨rfl, rfl, rfl, rfl⟩⟩
    · simp [Value.cells] at hcs
      obtain ⟨rfl, rfl, rfl⟩ := hcs
      exact ⟨zs, .inr ⟨_, rfl, hl, hm, by simpa using hz, hcell, hwz⟩⟩
  obtain ⟨a1, len1, cap1, rfl⟩ := okWide_slice Try.underlying23 (hval 1 23 v1 rfl rfl)
  have k1 := h1
  have lt1 : ∀ x ∈ p1, x.block < W.heap.size := by obtain ⟨m, hm⟩ := k1; exact DataW.trod_lt m _ _ _ hm
  obtain ⟨z1, w1⟩ : ∃ zs, IsRow .i64 W a1 len1 cap1 zs := by
    obtain ⟨fuel, hf⟩ := h1
    rcases open_ints Try.underlying23 Try.underlying3 (by kernel_rfl) hf with ⟨hcs, _⟩ | ⟨x, l, c, zs, hcs, _, hl, hm, hz, _, hcell, hwz⟩
    · simp [Value.cells] at hcs
      obtain ⟨rfl, rfl, rfl⟩ := hcs
      exact ⟨[], .inl ⟨rfl, rfl, rfl, rfl⟩⟩
    · simp [Value.cells] at hcs
      obtain ⟨rfl, rfl, rfl⟩ := hcs
      exact ⟨zs, .inr ⟨_, rfl, hl, hm, by simpa using hz, hcell, hwz⟩⟩
  have k2 := h2
  have lt2 : ∀ x ∈ p2, x.block < W.heap.size := by obtain ⟨m, hm⟩ := k2; exact DataW.trod_lt m _ _ _ hm
  obtain ⟨v0, v1, m0, m1, rfl, w2⟩ := open_pat (hval 2 28 v2 rfl rfl)
  clear hA0 hval0
  refine (walk a0 len0 cap0 z0 a1 len1 cap1 z1 v0 v1 m0 m1 W w0 w1 w2).mono fun e W' ⟨he, bel⟩ => ?_
  subst he
  exact ⟨_, rfl, _, _, _, [], _, [], hW', trodAll_mk1 (shut_bool Try.underlying4 _), (trodAll_cons_mk (Below.trod laidOut (by kernel_rfl) (of_decide_eq_true (by kernel_rfl)) k0 bel lt0) (trodAll_cons_mk (Below.trod laidOut (by kernel_rfl) (of_decide_eq_true (by kernel_rfl)) k1 bel lt1) (trodAll_cons_mk (Below.trod laidOut (by kernel_rfl) (of_decide_eq_true (by kernel_rfl)) k2 bel lt2) trodAll_mk0))), rfl, bel.frame _, fun h => by cases h⟩

theorem over : Rows.symopNoneRow.holds Try.pinned (OpenSpec.ofChange Rows.symopNoneSpec) :=
  OpenClaim.holds_of_wide 3 Try.f3 rfl rfl rfl rfl rfl rfl rfl ⟨rfl, rfl, rfl, rfl, rfl⟩ rfl rfl rfl rfl rfl (by kernel_rfl) Try.func3 (by kernel_rfl)
    (of_decide_eq_true (by kernel_rfl)) (by unfold Func.isWrapper; first | (rw [if_pos (by decide +kernel)]; kernel_rfl) | (rw [if_neg (by decide +kernel)]; exact ⟨rfl, rfl⟩))
    (fun os started H enc _ => lifted os started H enc)

/-- ████ THE STATEMENT ████ -/
theorem proved : Rows.SymopNoneSaid := over
#print axioms proved
end Go.Proofs.Ytlihbbeodclncaa.symopNone
