/-
  A region that draws its order: thirteen values, three boxes of numbers, three stores: what holds of it whatever has been done.
-/
import Derived.Test.YtlnkflmnjkmhkaaJR16
import Derived.Test.YtlnkflmnjkmhkaaJR17

namespace Go.Proofs.Ytlnkflmnjkmhkaa
open Go.RowKit

variable {e0 e1 e2 e3 e4 e5 e6 e7 e8 e9 e10 e11 e12 a0 b0 a1 b1 a2 b2 : Value} {WB : World} {L : Array Bool} {u0 u1 u2 u3 u4 u5 u6 u7 u8 u9 u10 u11 u12 v0 v1 v2 : Value} {w w' : World}

structure G3 (e0 e1 e2 e3 e4 e5 e6 e7 e8 e9 e10 e11 e12 a0 b0 a1 b1 a2 b2 : Value) (WB : World) (L : Array Bool) (u0 u1 u2 u3 u4 u5 u6 u7 u8 u9 u10 u11 u12 v0 v1 v2 : Value) (w : World) : Prop where
  below : Below WB.heap.size WB w
  h0 : did L 0 = true → u0 = e0
  h1 : did L 1 = true → u1 = e1
  h2 : did L 2 = true → u2 = e2
  h3 : did L 3 = true → u3 = e3
  h4 : did L 4 = true → u4 = e4
  h5 : did L 5 = true → u5 = e5
  h6 : did L 6 = true → u6 = e6
  h7 : did L 7 = true → u7 = e7
  h8 : did L 8 = true → u8 = e8
  h9 : did L 9 = true → u9 = e9
  h10 : did L 10 = true → u10 = e10
  h11 : did L 11 = true → u11 = e11
  h12 : did L 12 = true → u12 = e12
  b0 : did L 13 = true → ∃ g, v0 = .pointer (some ⟨g, 0, none⟩) ∧ WB.heap.size ≤ g ∧ w.heap[g]? = some (.cells (if did L 16 then #[a0, b0] else #[.int .u64 0, .int .u64 0]) 41 (0, 0))
  b1 : did L 14 = true → ∃ g, v1 = .pointer (some ⟨g, 0, none⟩) ∧ WB.heap.size ≤ g ∧ w.heap[g]? = some (.cells (if did L 17 then #[a1, b1] else #[.int .u64 0, .int .u64 0]) 41 (0, 0))
  b2 : did L 15 = true → ∃ g, v2 = .pointer (some ⟨g, 0, none⟩) ∧ WB.heap.size ≤ g ∧ w.heap[g]? = some (.cells (if did L 18 then #[a2, b2] else #[.int .u64 0, .int .u64 0]) 41 (0, 0))
  o0 : did L 16 = true → did L 13 = true
  o1 : did L 17 = true → did L 14 = true
  o2 : did L 18 = true → did L 15 = true
  d01 : did L 13 = true → did L 14 = true → v0 ≠ v1
  d02 : did L 13 = true → did L 15 = true → v0 ≠ v2
  d12 : did L 14 = true → did L 15 = true → v1 ≠ v2

theorem G3.init (h : did L = fun _ => false) (hb : Below WB.heap.size WB w) : G3 e0 e1 e2 e3 e4 e5 e6 e7 e8 e9 e10 e11 e12 a0 b0 a1 b1 a2 b2 WB L u0 u1 u2 u3 u4 u5 u6 u7 u8 u9 u10 u11 u12 v0 v1 v2 w := by
  constructor <;> first | exact hb | (intro h1; rw [h] at h1; cases h1)

theorem dset {i j : Nat} (hL : L.size = 19) (hi : i < 19) (hij : j ≠ i) (h : did (L.setIfInBounds i true) j = true) : did L j = true := by
  rw [did_set (by omega)] at h
  have : decide (j = i) = false := decide_eq_false hij
  rwa [this, Bool.false_or] at h
theorem dsame {i j : Nat} (hL : L.size = 19) (hi : i < 19) (hij : j ≠ i) : did (L.setIfInBounds i true) j = did L j := by
  rw [did_set (by omega)]
  have : decide (j = i) = false := decide_eq_false hij
  rw [this, Bool.false_or]
theorem dput {i : Nat} (hL : L.size = 19) (hi : i < 19) : did (L.setIfInBounds i true) i = true := by
  rw [did_set (by omega)]; simp

theorem G3.below' (h : G3 e0 e1 e2 e3 e4 e5 e6 e7 e8 e9 e10 e11 e12 a0 b0 a1 b1 a2 b2 WB L u0 u1 u2 u3 u4 u5 u6 u7 u8 u9 u10 u11 u12 v0 v1 v2 w) (hb : Below w.heap.size w w') : G3 e0 e1 e2 e3 e4 e5 e6 e7 e8 e9 e10 e11 e12 a0 b0 a1 b1 a2 b2 WB L u0 u1 u2 u3 u4 u5 u6 u7 u8 u9 u10 u11 u12 v0 v1 v2 w' := by
  refine ⟨h.below.trans (hb.mono h.below.size), h.h0, h.h1, h.h2, h.h3, h.h4, h.h5, h.h6, h.h7, h.h8, h.h9, h.h10, h.h11, h.h12, fun d => ?_, fun d => ?_, fun d => ?_, h.o0, h.o1, h.o2, h.d01, h.d02, h.d12⟩
  · obtain ⟨g, q1, q2, q3⟩ := h.b0 d
    exact ⟨g, q1, q2, (hb.block g (lt_of_block q3)).trans q3⟩
  · obtain ⟨g, q1, q2, q3⟩ := h.b1 d
    exact ⟨g, q1, q2, (hb.block g (lt_of_block q3)).trans q3⟩
  · obtain ⟨g, q1, q2, q3⟩ := h.b2 d
    exact ⟨g, q1, q2, (hb.block g (lt_of_block q3)).trans q3⟩

theorem G3.s0 (hL : L.size = 19) (h : G3 e0 e1 e2 e3 e4 e5 e6 e7 e8 e9 e10 e11 e12 a0 b0 a1 b1 a2 b2 WB L u0 u1 u2 u3 u4 u5 u6 u7 u8 u9 u10 u11 u12 v0 v1 v2 w) : G3 e0 e1 e2 e3 e4 e5 e6 e7 e8 e9 e10 e11 e12 a0 b0 a1 b1 a2 b2 WB (L.setIfInBounds 0 true) e0 u1 u2 u3 u4 u5 u6 u7 u8 u9 u10 u11 u12 v0 v1 v2 w := by
  refine ⟨h.below, fun _ => rfl, fun d => h.h1 (dset hL (by omega) (by omega) d), fun d => h.h2 (dset hL (by omega) (by omega) d), fun d => h.h3 (dset hL (by omega) (by omega) d), fun d => h.h4 (dset hL (by omega) (by omega) d), fun d => h.h5 (dset hL (by omega) (by omega) d), fun d => h.h6 (dset hL (by omega) (by omega) d), fun d => h.h7 (dset hL (by omega) (by omega) d), fun d => h.h8 (dset hL (by omega) (by omega) d), fun d => h.h9 (dset hL (by omega) (by omega) d), fun d => h.h10 (dset hL (by omega) (by omega) d), fun d => h.h11 (dset hL (by omega) (by omega) d), fun d => h.h12 (dset hL (by omega) (by omega) d), ?_, ?_, ?_, ?_, ?_, ?_, ?_, ?_, ?_⟩
  · rw [dsame hL (by omega) (by omega), dsame hL (by omega) (by omega)]; exact h.b0
  · rw [dsame hL (by omega) (by omega), dsame hL (by omega) (by omega)]; exact h.b1
  · rw [dsame hL (by omega) (by omega), dsame hL (by omega) (by omega)]; exact h.b2
  · rw [dsame hL (by omega) (by omega), dsame hL (by omega) (by omega)]; exact h.o0
  · rw [dsame hL (by omega) (by omega), dsame hL (by omega) (by omega)]; exact h.o1
  · rw [dsame hL (by omega) (by omega), dsame hL (by omega) (by omega)]; exact h.o2
  · rw [dsame hL (by omega) (by omega), dsame hL (by omega) (by omega)]; exact h.d01
  · rw [dsame hL (by omega) (by omega), dsame hL (by omega) (by omega)]; exact h.d02
  · rw [dsame hL (by omega) (by omega), dsame hL (by omega) (by omega)]; exact h.d12

theorem G3.s1 (hL : L.size = 19) (h : G3 e0 e1 e2 e3 e4 e5 e6 e7 e8 e9 e10 e11 e12 a0 b0 a1 b1 a2 b2 WB L u0 u1 u2 u3 u4 u5 u6 u7 u8 u9 u10 u11 u12 v0 v1 v2 w) : G3 e0 e1 e2 e3 e4 e5 e6 e7 e8 e9 e10 e11 e12 a0 b0 a1 b1 a2 b2 WB (L.setIfInBounds 1 true) u0 e1 u2 u3 u4 u5 u6 u7 u8 u9 u10 u11 u12 v0 v1 v2 w := by
  refine ⟨h.below, fun d => h.h0 (dset hL (by omega) (by omega) d), fun _ => rfl, fun d => h.h2 (dset hL (by omega) (by omega) d), fun d => h.h3 (dset hL (by omega) (by omega) d), fun d => h.h4 (dset hL (by omega) (by omega) d), fun d => h.h5 (dset hL (by omega) (by omega) d), fun d => h.h6 (dset hL (by omega) (by omega) d), fun d => h.h7 (dset hL (by omega) (by omega) d), fun d => h.h8 (dset hL (by omega) (by omega) d), fun d => h.h9 (dset hL (by omega) (by omega) d), fun d => h.h10 (dset hL (by omega) (by omega) d), fun d => h.h11 (dset hL (by omega) (by omega) d), fun d => h.h12 (dset hL (by omega) (by omega) d), ?_, ?_, ?_, ?_, ?_, ?_, ?_, ?_, ?_⟩
  · rw [dsame hL (by omega) (by omega), dsame hL (by omega) (by omega)]; exact h.b0
  · rw [dsame hL (by omega) (by omega), dsame hL (by omega) (by omega)]; exact h.b1
  · rw [dsame hL (by omega) (by omega), dsame hL (by omega) (by omega)]; exact h.b2
  · rw [dsame hL (by omega) (by omega), dsame hL (by omega) (by omega)]; exact h.o0
  · rw [dsame hL (by omega) (by omega), dsame hL (by omega) (by omega)]; exact h.o1
  · rw [dsame hL (by omega) (by omega), dsame hL (by omega) (by omega)]; exact h.o2
  · rw [dsame hL (by omega) (by omega), dsame hL (by omega) (by omega)]; exact h.d01
  · rw [dsame hL (by omega) (by omega), dsame hL (by omega) (by omega)]; exact h.d02
  · rw [dsame hL (by omega) (by omega), dsame hL (by omega) (by omega)]; exact h.d12

theorem G3.s2 (hL : L.size = 19) (h : G3 e0 e1 e2 e3 e4 e5 e6 e7 e8 e9 e10 e11 e12 a0 b0 a1 b1 a2 b2 WB L u0 u1 u2 u3 u4 u5 u6 u7 u8 u9 u10 u11 u12 v0 v1 v2 w) : G3 e0 e1 e2 e3 e4 e5 e6 e7 e8 e9 e10 e11 e12 a0 b0 a1 b1 a2 b2 WB (L.setIfInBounds 2 true) u0 u1 e2 u3 u4 u5 u6 u7 u8 u9 u10 u11 u12 v0 v1 v2 w := by
  refine ⟨h.below, fun d => h.h0 (dset hL (by omega) (by omega) d), fun d => h.h1 (dset hL (by omega) (by omega) d), fun _ => rfl, fun d => h.h3 (dset hL (by omega) (by omega) d), fun d => h.h4 (dset hL (by omega) (by omega) d), fun d => h.h5 (dset hL (by omega) (by omega) d), fun d => h.h6 (dset hL (by omega) (by omega) d), fun d => h.h7 (dset hL (by omega) (by omega) d), fun d => h.h8 (dset hL (by omega) (by omega) d), fun d => h.h9 (dset hL (by omega) (by omega) d), fun d => h.h10 (dset hL (by omega) (by omega) d), fun d => h.h11 (dset hL (by omega) (by omega) d), fun d => h.h12 (dset hL (by omega) (by omega) d), ?_, ?_, ?_, ?_, ?_, ?_, ?_, ?_, ?_⟩
  · rw [dsame hL (by omega) (by omega), dsame hL (by omega) (by omega)]; exact h.b0
  · rw [dsame hL (by omega) (by omega), dsame hL (by omega) (by omega)]; exact h.b1
  · rw [dsame hL (by omega) (by omega), dsame hL (by omega) (by omega)]; exact h.b2
  · rw [dsame hL (by omega) (by omega), dsame hL (by omega) (by omega)]; exact h.o0
  · rw [dsame hL (by omega) (by omega), dsame hL (by omega) (by omega)]; exact h.o1
  · rw [dsame hL (by omega) (by omega), dsame hL (by omega) (by omega)]; exact h.o2
  · rw [dsame hL (by omega) (by omega), dsame hL (by omega) (by omega)]; exact h.d01
  · rw [dsame hL (by omega) (by omega), dsame hL (by omega) (by omega)]; exact h.d02
  · rw [dsame hL (by omega) (by omega), dsame hL (by omega) (by omega)]; exact h.d12

theorem G3.s3 (hL : L.size = 19) (h : G3 e0 e1 e2 e3 e4 e5 e6 e7 e8 e9 e10 e11 e12 a0 b0 a1 b1 a2 b2 WB L u0 u1 u2 u3 u4 u5 u6 u7 u8 u9 u10 u11 u12 v0 v1 v2 w) : G3 e0 e1 e2 e3 e4 e5 e6 e7 e8 e9 e10 e11 e12 a0 b0 a1 b1 a2 b2 WB (L.setIfInBounds 3 true) u0 u1 u2 e3 u4 u5 u6 u7 u8 u9 u10 u11 u12 v0 v1 v2 w := by
  refine ⟨h.below, fun d => h.h0 (dset hL (by omega) (by omega) d), fun d => h.h1 (dset hL (by omega) (by omega) d), fun d => h.h2 (dset hL (by omega) (by omega) d), fun _ => rfl, fun d => h.h4 (dset hL (by omega) (by omega) d), fun d => h.h5 (dset hL (by omega) (by omega) d), fun d => h.h6 (dset hL (by omega) (by omega) d), fun d => h.h7 (dset hL (by omega) (by omega) d), fun d => h.h8 (dset hL (by omega) (by omega) d), fun d => h.h9 (dset hL (by omega) (by omega) d), fun d => h.h10 (dset hL (by omega) (by omega) d), fun d => h.h11 (dset hL (by omega) (by omega) d), fun d => h.h12 (dset hL (by omega) (by omega) d), ?_, ?_, ?_, ?_, ?_, ?_, ?_, ?_, ?_⟩
  · rw [dsame hL (by omega) (by omega), dsame hL (by omega) (by omega)]; exact h.b0
  · rw [dsame hL (by omega) (by omega), dsame hL (by omega) (by omega)]; exact h.b1
  · rw [dsame hL (by omega) (by omega), dsame hL (by omega) (by omega)]; exact h.b2
  · rw [dsame hL (by omega) (by omega), dsame hL (by omega) (by omega)]; exact h.o0
  · rw [dsame hL (by omega) (by omega), dsame hL (by omega) (by omega)]; exact h.o1
  · rw [dsame hL (by omega) (by omega), dsame hL (by omega) (by omega)]; exact h.o2
  · rw [dsame hL (by omega) (by omega), dsame hL (by omega) (by omega)]; exact h.d01
  · rw [dsame hL (by omega) (by omega), dsame hL (by omega) (by omega)]; exact h.d02
  · rw [dsame hL (by omega) (by omega), dsame hL (by omega) (by omega)]; exact h.d12

theorem G3.s4 (hL : L.size = 19) (h : G3 e0 e1 e2 e3 e4 e5 e6 e7 e8 e9 e10 e11 e12 a0 b0 a1 b1 a2 b2 WB L u0 u1 u2 u3 u4 u5 u6 u7 u8 u9 u10 u11 u12 v0 v1 v2 w) : G3 e0 e1 e2 e3 e4 e5 e6 e7 e8 e9 e10 e11 e12 a0 b0 a1 b1 a2 b2 WB (L.setIfInBounds 4 true) u0 u1 u2 u3 e4 u5 u6 u7 u8 u9 u10 u11 u12 v0 v1 v2 w := by
  refine ⟨h.below, fun d => h.h0 (dset hL (by omega) (by omega) d), fun d => h.h1 (dset hL (by omega) (by omega) d), fun d => h.h2 (dset hL (by omega) (by omega) d), fun d => h.h3 (dset hL (by omega) (by omega) d), fun _ => rfl, fun d => h.h5 (dset hL (by omega) (by omega) d), fun d => h.h6 (dset hL (by omega) (by omega) d), fun d => h.h7 (dset hL (by omega) (by omega) d), fun d => h.h8 (dset hL (by omega) (by omega) d), fun d => h.h9 (dset hL (by omega) (by omega) d), fun d => h.h10 (dset hL (by omega) (by omega) d), fun d => h.h11 (dset hL (by omega) (by omega) d), fun d => h.h12 (dset hL (by omega) (by omega) d), ?_, ?_, ?_, ?_, ?_, ?_, ?_, ?_, ?_⟩
  · rw [dsame hL (by omega) (by omega), dsame hL (by omega) (by omega)]; exact h.b0
  · rw [dsame hL (by omega) (by omega), dsame hL (by omega) (by omega)]; exact h.b1
  · rw [dsame hL (by omega) (by omega), dsame hL (by omega) (by omega)]; exact h.b2
  · rw [dsame hL (by omega) (by omega), dsame hL (by omega) (by omega)]; exact h.o0
  · rw [dsame hL (by omega) (by omega), dsame hL (by omega) (by omega)]; exact h.o1
  · rw [dsame hL (by omega) (by omega), dsame hL (by omega) (by omega)]; exact h.o2
  · rw [dsame hL (by omega) (by omega), dsame hL (by omega) (by omega)]; exact h.d01
  · rw [dsame hL (by omega) (by omega), dsame hL (by omega) (by omega)]; exact h.d02
  · rw [dsame hL (by omega) (by omega), dsame hL (by omega) (by omega)]; exact h.d12

theorem G3.s5 (hL : L.size = 19) (h : G3 e0 e1 e2 e3 e4 e5 e6 e7 e8 e9 e10 e11 e12 a0 b0 a1 b1 a2 b2 WB L u0 u1 u2 u3 u4 u5 u6 u7 u8 u9 u10 u11 u12 v0 v1 v2 w) : G3 e0 e1 e2 e3 e4 e5 e6 e7 e8 e9 e10 e11 e12 a0 b0 a1 b1 a2 b2 WB (L.setIfInBounds 5 true) u0 u1 u2 u3 u4 e5 u6 u7 u8 u9 u10 u11 u12 v0 v1 v2 w := by
  refine ⟨h.below, fun d => h.h0 (dset hL (by omega) (by omega) d), fun d => h.h1 (dset hL (by omega) (by omega) d), fun d => h.h2 (dset hL (by omega) (by omega) d), fun d => h.h3 (dset hL (by omega) (by omega) d), fun d => h.h4 (dset hL (by omega) (by omega) d), fun _ => rfl, fun d => h.h6 (dset hL (by omega) (by omega) d), fun d => h.h7 (dset hL (by omega) (by omega) d), fun d => h.h8 (dset hL (by omega) (by omega) d), fun d => h.h9 (dset hL (by omega) (by omega) d), fun d => h.h10 (dset hL (by omega) (by omega) d), fun d => h.h11 (dset hL (by omega) (by omega) d), fun d => h.h12 (dset hL (by omega) (by omega) d), ?_, ?_, ?_, ?_, ?_, ?_, ?_, ?_, ?_⟩
  · rw [dsame hL (by omega) (by omega), dsame hL (by omega) (by omega)]; exact h.b0
  · rw [dsame hL (by omega) (by omega), dsame hL (by omega) (by omega)]; exact h.b1
  · rw [dsame hL (by omega) (by omega), dsame hL (by omega) (by omega)]; exact h.b2
  · rw [dsame hL (by omega) (by omega), dsame hL (by omega) (by omega)]; exact h.o0
  · rw [dsame hL (by omega) (by omega), dsame hL (by omega) (by omega)]; exact h.o1
  · rw [dsame hL (by omega) (by omega), dsame hL (by omega) (by omega)]; exact h.o2
  · rw [dsame hL (by omega) (by omega), dsame hL (by omega) (by omega)]; exact h.d01
  · rw [dsame hL (by omega) (by omega), dsame hL (by omega) (by omega)]; exact h.d02
  · rw [dsame hL (by omega) (by omega), dsame hL (by omega) (by omega)]; exact h.d12

theorem G3.s6 (hL : L.size = 19) (h : G3 e0 e1 e2 e3 e4 e5 e6 e7 e8 e9 e10 e11 e12 a0 b0 a1 b1 a2 b2 WB L u0 u1 u2 u3 u4 u5 u6 u7 u8 u9 u10 u11 u12 v0 v1 v2 w) : G3 e0 e1 e2 e3 e4 e5 e6 e7 e8 e9 e10 e11 e12 a0 b0 a1 b1 a2 b2 WB (L.setIfInBounds 6 true) u0 u1 u2 u3 u4 u5 e6 u7 u8 u9 u10 u11 u12 v0 v1 v2 w := by
  refine ⟨h.below, fun d => h.h0 (dset hL (by omega) (by omega) d), fun d => h.h1 (dset hL (by omega) (by omega) d), fun d => h.h2 (dset hL (by omega) (by omega) d), fun d => h.h3 (dset hL (by omega) (by omega) d), fun d => h.h4 (dset hL (by omega) (by omega) d), fun d => h.h5 (dset hL (by omega) (by omega) d), fun _ => rfl, fun d => h.h7 (dset hL (by omega) (by omega) d), fun d => h.h8 (dset hL (by omega) (by omega) d), fun d => h.h9 (dset hL (by omega) (by omega) d), fun d => h.h10 (dset hL (by omega) (by omega) d), fun d => h.h11 (dset hL (by omega) (by omega) d), fun d => h.h12 (dset hL (by omega) (by omega) d), ?_, ?_, ?_, ?_, ?_, ?_, ?_, ?_, ?_⟩
  · rw [dsame hL (by omega) (by omega), dsame hL (by omega) (by omega)]; exact h.b0
  · rw [dsame hL (by omega) (by omega), dsame hL (by omega) (by omega)]; exact h.b1
  · rw [dsame hL (by omega) (by omega), dsame hL (by omega) (by omega)]; exact h.b2
  · rw [dsame hL (by omega) (by omega), dsame hL (by omega) (by omega)]; exact h.o0
  · rw [dsame hL (by omega) (by omega), dsame hL (by omega) (by omega)]; exact h.o1
  · rw [dsame hL (by omega) (by omega), dsame hL (by omega) (by omega)]; exact h.o2
  · rw [dsame hL (by omega) (by omega), dsame hL (by omega) (by omega)]; exact h.d01
  · rw [dsame hL (by omega) (by omega), dsame hL (by omega) (by omega)]; exact h.d02
  · rw [dsame hL (by omega) (by omega), dsame hL (by omega) (by omega)]; exact h.d12

theorem G3.s7 (hL : L.size = 19) (h : G3 e0 e1 e2 e3 e4 e5 e6 e7 e8 e9 e10 e11 e12 a0 b0 a1 b1 a2 b2 WB L u0 u1 u2 u3 u4 u5 u6 u7 u8 u9 u10 u11 u12 v0 v1 v2 w) : G3 e0 e1 e2 e3 e4 e5 e6 e7 e8 e9 e10 e11 e12 a0 b0 a1 b1 a2 b2 WB (L.setIfInBounds 7 true) u0 u1 u2 u3 u4 u5 u6 e7 u8 u9 u10 u11 u12 v0 v1 v2 w := by
  refine ⟨h.below, fun d => h.h0 (dset hL (by omega) (by omega) d), fun d => h.h1 (dset hL (by omega) (by omega) d), fun d => h.h2 (dset hL (by omega) (by omega) d), fun d => h.h3 (dset hL (by omega) (by omega) d), fun d => h.h4 (dset hL (by omega) (by omega) d), fun d => h.h5 (dset hL (by omega) (by omega) d), fun d => h.h6 (dset hL (by omega) (by omega) d), fun _ => rfl, fun d => h.h8 (dset hL (by omega) (by omega) d), fun d => h.h9 (dset hL (by omega) (by omega) d), fun d => h.h10 (dset hL (by omega) (by omega) d), fun d => h.h11 (dset hL (by omega) (by omega) d), fun d => h.h12 (dset hL (by omega) (by omega) d), ?_, ?_, ?_, ?_, ?_, ?_, ?_, ?_, ?_⟩
  · rw [dsame hL (by omega) (by omega), dsame hL (by omega) (by omega)]; exact h.b0
  · rw [dsame hL (by omega) (by omega), dsame hL (by omega) (by omega)]; exact h.b1
  · rw [dsame hL (by omega) (by omega), dsame hL (by omega) (by omega)]; exact h.b2
  · rw [dsame hL (by omega) (by omega), dsame hL (by omega) (by omega)]; exact h.o0
  · rw [dsame hL (by omega) (by omega), dsame hL (by omega) (by omega)]; exact h.o1
  · rw [dsame hL (by omega) (by omega), dsame hL (by omega) (by omega)]; exact h.o2
  · rw [dsame hL (by omega) (by omega), dsame hL (by omega) (by omega)]; exact h.d01
  · rw [dsame hL (by omega) (by omega), dsame hL (by omega) (by omega)]; exact h.d02
  · rw [dsame hL (by omega) (by omega), dsame hL (by omega) (by omega)]; exact h.d12

theorem G3.s8 (hL : L.size = 19) (h : G3 e0 e1 e2 e3 e4 e5 e6 e7 e8 e9 e10 e11 e12 a0 b0 a1 b1 a2 b2 WB L u0 u1 u2 u3 u4 u5 u6 u7 u8 u9 u10 u11 u12 v0 v1 v2 w) : G3 e0 e1 e2 e3 e4 e5 e6 e7 e8 e9 e10 e11 e12 a0 b0 a1 b1 a2 b2 WB (L.setIfInBounds 8 true) u0 u1 u2 u3 u4 u5 u6 u7 e8 u9 u10 u11 u12 v0 v1 v2 w := by
  refine ⟨h.below, fun d => h.h0 (dset hL (by omega) (by omega) d), fun d => h.h1 (dset hL (by omega) (by omega) d), fun d => h.h2 (dset hL (by omega) (by omega) d), fun d => h.h3 (dset hL (by omega) (by omega) d), fun d => h.h4 (dset hL (by omega) (by omega) d), fun d => h.h5 (dset hL (by omega) (by omega) d), fun d => h.h6 (dset hL (by omega) (by omega) d), fun d => h.h7 (dset hL (by omega) (by omega) d), fun _ => rfl, fun d => h.h9 (dset hL (by omega) (by omega) d), fun d => h.h10 (dset hL (by omega) (by omega) d), fun d => h.h11 (dset hL (by omega) (by omega) d), fun d => h.h12 (dset hL (by omega) (by omega) d), ?_, ?_, ?_, ?_, ?_, ?_, ?_, ?_, ?_⟩
  · rw [dsame hL (by omega) (by omega), dsame hL (by omega) (by omega)]; exact h.b0
  · rw [dsame hL (by omega) (by omega), dsame hL (by omega) (by omega)]; exact h.b1
  · rw [dsame hL (by omega) (by omega), dsame hL (by omega) (by omega)]; exact h.b2
  · rw [dsame hL (by omega) (by omega), dsame hL (by omega) (by omega)]; exact h.o0
  · rw [dsame hL (by omega) (by omega), dsame hL (by omega) (by omega)]; exact h.o1
  · rw [dsame hL (by omega) (by omega), dsame hL (by omega) (by omega)]; exact h.o2
  · rw [dsame hL (by omega) (by omega), dsame hL (by omega) (by omega)]; exact h.d01
  · rw [dsame hL (by omega) (by omega), dsame hL (by omega) (by omega)]; exact h.d02
  · rw [dsame hL (by omega) (by omega), dsame hL (by omega) (by omega)]; exact h.d12

theorem G3.s9 (hL : L.size = 19) (h : G3 e0 e1 e2 e3 e4 e5 e6 e7 e8 e9 e10 e11 e12 a0 b0 a1 b1 a2 b2 WB L u0 u1 u2 u3 u4 u5 u6 u7 u8 u9 u10 u11 u12 v0 v1 v2 w) : G3 e0 e1 e2 e3 e4 e5 e6 e7 e8 e9 e10 e11 e12 a0 b0 a1 b1 a2 b2 WB (L.setIfInBounds 9 true) u0 u1 u2 u3 u4 u5 u6 u7 u8 e9 u10 u11 u12 v0 v1 v2 w := by
  refine ⟨h.below, fun d => h.h0 (dset hL (by omega) (by omega) d), fun d => h.h1 (dset hL (by omega) (by omega) d), fun d => h.h2 (dset hL (by omega) (by omega) d), fun d => h.h3 (dset hL (by omega) (by omega) d), fun d => h.h4 (dset hL (by omega) (by omega) d), fun d => h.h5 (dset hL (by omega) (by omega) d), fun d => h.h6 (dset hL (by omega) (by omega) d), fun d => h.h7 (dset hL (by omega) (by omega) d), fun d => h.h8 (dset hL (by omega) (by omega) d), fun _ => rfl, fun d => h.h10 (dset hL (by omega) (by omega) d), fun d => h.h11 (dset hL (by omega) (by omega) d), fun d => h.h12 (dset hL (by omega) (by omega) d), ?_, ?_, ?_, ?_, ?_, ?_, ?_, ?_, ?_⟩
  · rw [dsame hL (by omega) (by omega), dsame hL (by omega) (by omega)]; exact h.b0
  · rw [dsame hL (by omega) (by omega), dsame hL (by omega) (by omega)]; exact h.b1
  · rw [dsame hL (by omega) (by omega), dsame hL (by omega) (by omega)]; exact h.b2
  · rw [dsame hL (by omega) (by omega), dsame hL (by omega) (by omega)]; exact h.o0
  · rw [dsame hL (by omega) (by omega), dsame hL (by omega) (by omega)]; exact h.o1
  · rw [dsame hL (by omega) (by omega), dsame hL (by omega) (by omega)]; exact h.o2
  · rw [dsame hL (by omega) (by omega), dsame hL (by omega) (by omega)]; exact h.d01
  · rw [dsame hL (by omega) (by omega), dsame hL (by omega) (by omega)]; exact h.d02
  · rw [dsame hL (by omega) (by omega), dsame hL (by omega) (by omega)]; exact h.d12

theorem G3.s10 (hL : L.size = 19) (h : G3 e0 e1 e2 e3 e4 e5 e6 e7 e8 e9 e10 e11 e12 a0 b0 a1 b1 a2 b2 WB L u0 u1 u2 u3 u4 u5 u6 u7 u8 u9 u10 u11 u12 v0 v1 v2 w) : G3 e0 e1 e2 e3 e4 e5 e6 e7 e8 e9 e10 e11 e12 a0 b0 a1 b1 a2 b2 WB (L.setIfInBounds 10 true) u0 u1 u2 u3 u4 u5 u6 u7 u8 u9 e10 u11 u12 v0 v1 v2 w := by
  refine ⟨h.below, fun d => h.h0 (dset hL (by omega) (by omega) d), fun d => h.h1 (dset hL (by omega) (by omega) d), fun d => h.h2 (dset hL (by omega) (by omega) d), fun d => h.h3 (dset hL (by omega) (by omega) d), fun d => h.h4 (dset hL (by omega) (by omega) d), fun d => h.h5 (dset hL (by omega) (by omega) d), fun d => h.h6 (dset hL (by omega) (by omega) d), fun d => h.h7 (dset hL (by omega) (by omega) d), fun d => h.h8 (dset hL (by omega) (by omega) d), fun d => h.h9 (dset hL (by omega) (by omega) d), fun _ => rfl, fun d => h.h11 (dset hL (by omega) (by omega) d), fun d => h.h12 (dset hL (by omega) (by omega) d), ?_, ?_, ?_, ?_, ?_, ?_, ?_, ?_, ?_⟩
  · rw [dsame hL (by omega) (by omega), dsame hL (by omega) (by omega)]; exact h.b0
  · rw [dsame hL (by omega) (by omega), dsame hL (by omega) (by omega)]; exact h.b1
  · rw [dsame hL (by omega) (by omega), dsame hL (by omega) (by omega)]; exact h.b2
  · rw [dsame hL (by omega) (by omega), dsame hL (by omega) (by omega)]; exact h.o0
  · rw [dsame hL (by omega) (by omega), dsame hL (by omega) (by omega)]; exact h.o1
  · rw [dsame hL (by omega) (by omega), dsame hL (by omega) (by omega)]; exact h.o2
  · rw [dsame hL (by omega) (by omega), dsame hL (by omega) (by omega)]; exact h.d01
  · rw [dsame hL (by omega) (by omega), dsame hL (by omega) (by omega)]; exact h.d02
  · rw [dsame hL (by omega) (by omega), dsame hL (by omega) (by omega)]; exact h.d12

theorem G3.s11 (hL : L.size = 19) (h : G3 e0 e1 e2 e3 e4 e5 e6 e7 e8 e9 e10 e11 e12 a0 b0 a1 b1 a2 b2 WB L u0 u1 u2 u3 u4 u5 u6 u7 u8 u9 u10 u11 u12 v0 v1 v2 w) : G3 e0 e1 e2 e3 e4 e5 e6 e7 e8 e9 e10 e11 e12 a0 b0 a1 b1 a2 b2 WB (L.setIfInBounds 11 true) u0 u1 u2 u3 u4 u5 u6 u7 u8 u9 u10 e11 u12 v0 v1 v2 w := by
  refine ⟨h.below, fun d => h.h0 (dset hL (by omega) (by omega) d), fun d => h.h1 (dset hL (by omega) (by omega) d), fun d => h.h2 (dset hL (by omega) (by omega) d), fun d => h.h3 (dset hL (by omega) (by omega) d), fun d => h.h4 (dset hL (by omega) (by omega) d), fun d => h.h5 (dset hL (by omega) (by omega) d), fun d => h.h6 (dset hL (by omega) (by omega) d), fun d => h.h7 (dset hL (by omega) (by omega) d), fun d => h.h8 (dset hL (by omega) (by omega) d), fun d => h.h9 (dset hL (by omega) (by omega) d), fun d => h.h10 (dset hL (by omega) (by omega) d), fun _ => rfl, fun d => h.h12 (dset hL (by omega) (by omega) d), ?_, ?_, ?_, ?_, ?_, ?_, ?_, ?_, ?_⟩
  · rw [dsame hL (by omega) (by omega), dsame hL (by omega) (by omega)]; exact h.b0
  · rw [dsame hL (by omega) (by omega), dsame hL (by omega) (by omega)]; exact h.b1
  · rw [dsame hL (by omega) (by omega), dsame hL (by omega) (by omega)]; exact h.b2
  · rw [dsame hL (by omega) (by omega), dsame hL (by omega) (by omega)]; exact h.o0
  · rw [dsame hL (by omega) (by omega), dsame hL (by omega) (by omega)]; exact h.o1
  · rw [dsame hL (by omega) (by omega), dsame hL (by omega) (by omega)]; exact h.o2
  · rw [dsame hL (by omega) (by omega), dsame hL (by omega) (by omega)]; exact h.d01
  · rw [dsame hL (by omega) (by omega), dsame hL (by omega) (by omega)]; exact h.d02
  · rw [dsame hL (by omega) (by omega), dsame hL (by omega) (by omega)]; exact h.d12

theorem G3.s12 (hL : L.size = 19) (h : G3 e0 e1 e2 e3 e4 e5 e6 e7 e8 e9 e10 e11 e12 a0 b0 a1 b1 a2 b2 WB L u0 u1 u2 u3 u4 u5 u6 u7 u8 u9 u10 u11 u12 v0 v1 v2 w) : G3 e0 e1 e2 e3 e4 e5 e6 e7 e8 e9 e10 e11 e12 a0 b0 a1 b1 a2 b2 WB (L.setIfInBounds 12 true) u0 u1 u2 u3 u4 u5 u6 u7 u8 u9 u10 u11 e12 v0 v1 v2 w := by
  refine ⟨h.below, fun d => h.h0 (dset hL (by omega) (by omega) d), fun d => h.h1 (dset hL (by omega) (by omega) d), fun d => h.h2 (dset hL (by omega) (by omega) d), fun d => h.h3 (dset hL (by omega) (by omega) d), fun d => h.h4 (dset hL (by omega) (by omega) d), fun d => h.h5 (dset hL (by omega) (by omega) d), fun d => h.h6 (dset hL (by omega) (by omega) d), fun d => h.h7 (dset hL (by omega) (by omega) d), fun d => h.h8 (dset hL (by omega) (by omega) d), fun d => h.h9 (dset hL (by omega) (by omega) d), fun d => h.h10 (dset hL (by omega) (by omega) d), fun d => h.h11 (dset hL (by omega) (by omega) d), fun _ => rfl, ?_, ?_, ?_, ?_, ?_, ?_, ?_, ?_, ?_⟩
  · rw [dsame hL (by omega) (by omega), dsame hL (by omega) (by omega)]; exact h.b0
  · rw [dsame hL (by omega) (by omega), dsame hL (by omega) (by omega)]; exact h.b1
  · rw [dsame hL (by omega) (by omega), dsame hL (by omega) (by omega)]; exact h.b2
  · rw [dsame hL (by omega) (by omega), dsame hL (by omega) (by omega)]; exact h.o0
  · rw [dsame hL (by omega) (by omega), dsame hL (by omega) (by omega)]; exact h.o1
  · rw [dsame hL (by omega) (by omega), dsame hL (by omega) (by omega)]; exact h.o2
  · rw [dsame hL (by omega) (by omega), dsame hL (by omega) (by omega)]; exact h.d01
  · rw [dsame hL (by omega) (by omega), dsame hL (by omega) (by omega)]; exact h.d02
  · rw [dsame hL (by omega) (by omega), dsame hL (by omega) (by omega)]; exact h.d12

theorem G3.s13 (hL : L.size = 19) (hn : did L 13 = false) (h : G3 e0 e1 e2 e3 e4 e5 e6 e7 e8 e9 e10 e11 e12 a0 b0 a1 b1 a2 b2 WB L u0 u1 u2 u3 u4 u5 u6 u7 u8 u9 u10 u11 u12 v0 v1 v2 w) : G3 e0 e1 e2 e3 e4 e5 e6 e7 e8 e9 e10 e11 e12 a0 b0 a1 b1 a2 b2 WB (L.setIfInBounds 13 true) u0 u1 u2 u3 u4 u5 u6 u7 u8 u9 u10 u11 u12 (.pointer (some ⟨w.heap.size, 0, none⟩)) v1 v2 (w.alloc (.cells #[.int .u64 0, .int .u64 0] 41)) := by
  have hx : did L 16 = false := by
    cases q : did L 16
    · rfl
    · exact absurd (h.o0 q) (by rw [hn]; simp)
  refine ⟨h.below.alloc h.below.size _, fun d => h.h0 (dset hL (by omega) (by omega) d), fun d => h.h1 (dset hL (by omega) (by omega) d), fun d => h.h2 (dset hL (by omega) (by omega) d), fun d => h.h3 (dset hL (by omega) (by omega) d), fun d => h.h4 (dset hL (by omega) (by omega) d), fun d => h.h5 (dset hL (by omega) (by omega) d), fun d => h.h6 (dset hL (by omega) (by omega) d), fun d => h.h7 (dset hL (by omega) (by omega) d), fun d => h.h8 (dset hL (by omega) (by omega) d), fun d => h.h9 (dset hL (by omega) (by omega) d), fun d => h.h10 (dset hL (by omega) (by omega) d), fun d => h.h11 (dset hL (by omega) (by omega) d), fun d => h.h12 (dset hL (by omega) (by omega) d), ?_, ?_, ?_, ?_, ?_, ?_, ?_, ?_, ?_⟩
  · intro d; refine ⟨w.heap.size, rfl, h.below.size, ?_⟩; rw [dsame hL (by omega) (by omega), hx]; exact heap_new w _
  · intro d; rw [dsame hL (by omega) (by omega)]; obtain ⟨g, q1, q2, q3⟩ := h.b1 (dset hL (by omega) (by omega) d); exact ⟨g, q1, q2, by have := lt_of_block q3; rw [Below.heap_alloc _ _ _ (by omega)]; exact q3⟩
  · intro d; rw [dsame hL (by omega) (by omega)]; obtain ⟨g, q1, q2, q3⟩ := h.b2 (dset hL (by omega) (by omega) d); exact ⟨g, q1, q2, by have := lt_of_block q3; rw [Below.heap_alloc _ _ _ (by omega)]; exact q3⟩
  · intro d; exact dput hL (by omega)
  · rw [dsame hL (by omega) (by omega), dsame hL (by omega) (by omega)]; exact h.o1
  · rw [dsame hL (by omega) (by omega), dsame hL (by omega) (by omega)]; exact h.o2
  · intro _ d e; obtain ⟨g, q1, q2, q3⟩ := h.b1 (dset hL (by omega) (by omega) d); have := lt_of_block q3; rw [q1] at e; (simp at e <;> omega)
  · intro _ d e; obtain ⟨g, q1, q2, q3⟩ := h.b2 (dset hL (by omega) (by omega) d); have := lt_of_block q3; rw [q1] at e; (simp at e <;> omega)
  · rw [dsame hL (by omega) (by omega), dsame hL (by omega) (by omega)]; exact h.d12

theorem G3.s14 (hL : L.size = 19) (hn : did L 14 = false) (h : G3 e0 e1 e2 e3 e4 e5 e6 e7 e8 e9 e10 e11 e12 a0 b0 a1 b1 a2 b2 WB L u0 u1 u2 u3 u4 u5 u6 u7 u8 u9 u10 u11 u12 v0 v1 v2 w) : G3 e0 e1 e2 e3 e4 e5 e6 e7 e8 e9 e10 e11 e12 a0 b0 a1 b1 a2 b2 WB (L.setIfInBounds 14 true) u0 u1 u2 u3 u4 u5 u6 u7 u8 u9 u10 u11 u12 v0 (.pointer (some ⟨w.heap.size, 0, none⟩)) v2 (w.alloc (.cells #[.int .u64 0, .int .u64 0] 41)) := by
  have hx : did L 17 = false := by
    cases q : did L 17
    · rfl
    · exact absurd (h.o1 q) (by rw [hn]; simp)
  refine ⟨h.below.alloc h.below.size _, fun d => h.h0 (dset hL (by omega) (by omega) d), fun d => h.h1 (dset hL (by omega) (by omega) d), fun d => h.h2 (dset hL (by omega) (by omega) d), fun d => h.h3 (dset hL (by omega) (by omega) d), fun d => h.h4 (dset hL (by omega) (by omega) d), fun d => h.h5 (dset hL (by omega) (by omega) d), fun d => h.h6 (dset hL (by omega) (by omega) d), fun d => h.h7 (dset hL (by omega) (by omega) d), fun d => h.h8 (dset hL (by omega) (by omega) d), fun d => h.h9 (dset hL (by omega) (by omega) d), fun d => h.h10 (dset hL (by omega) (by omega) d), fun d => h.h11 (dset hL (by omega) (by omega) d), fun d => h.h12 (dset hL (by omega) (by omega) d), ?_, ?_, ?_, ?_, ?_, ?_, ?_, ?_, ?_⟩
  · intro d; rw [dsame hL (by omega) (by omega)]; obtain ⟨g, q1, q2, q3⟩ := h.b0 (dset hL (by omega) (by omega) d); exact ⟨g, q1, q2, by have := lt_of_block q3; rw [Below.heap_alloc _ _ _ (by omega)]; exact q3⟩
  · intro d; refine ⟨w.heap.size, rfl, h.below.size, ?_⟩; rw [dsame hL (by omega) (by omega), hx]; exact heap_new w _
  · intro d; rw [dsame hL (by omega) (by omega)]; obtain ⟨g, q1, q2, q3⟩ := h.b2 (dset hL (by omega) (by omega) d); exact ⟨g, q1, q2, by have := lt_of_block q3; rw [Below.heap_alloc _ _ _ (by omega)]; exact q3⟩
  · rw [dsame hL (by omega) (by omega), dsame hL (by omega) (by omega)]; exact h.o0
  · intro d; exact dput hL (by omega)
  · rw [dsame hL (by omega) (by omega), dsame hL (by omega) (by omega)]; exact h.o2
  · intro d _ e; obtain ⟨g, q1, q2, q3⟩ := h.b0 (dset hL (by omega) (by omega) d); have := lt_of_block q3; rw [q1] at e; (simp at e <;> omega)
  · rw [dsame hL (by omega) (by omega), dsame hL (by omega) (by omega)]; exact h.d02
  · intro _ d e; obtain ⟨g, q1, q2, q3⟩ := h.b2 (dset hL (by omega) (by omega) d); have := lt_of_block q3; rw [q1] at e; (simp at e <;> omega)

theorem G3.s15 (hL : L.size = 19) (hn : did L 15 = false) (h : G3 e0 e1 e2 e3 e4 e5 e6 e7 e8 e9 e10 e11 e12 a0 b0 a1 b1 a2 b2 WB L u0 u1 u2 u3 u4 u5 u6 u7 u8 u9 u10 u11 u12 v0 v1 v2 w) : G3 e0 e1 e2 e3 e4 e5 e6 e7 e8 e9 e10 e11 e12 a0 b0 a1 b1 a2 b2 WB (L.setIfInBounds 15 true) u0 u1 u2 u3 u4 u5 u6 u7 u8 u9 u10 u11 u12 v0 v1 (.pointer (some ⟨w.heap.size, 0, none⟩)) (w.alloc (.cells #[.int .u64 0, .int .u64 0] 41)) := by
  have hx : did L 18 = false := by
    cases q : did L 18
    · rfl
    · exact absurd (h.o2 q) (by rw [hn]; simp)
  refine ⟨h.below.alloc h.below.size _, fun d => h.h0 (dset hL (by omega) (by omega) d), fun d => h.h1 (dset hL (by omega) (by omega) d), fun d => h.h2 (dset hL (by omega) (by omega) d), fun d => h.h3 (dset hL (by omega) (by omega) d), fun d => h.h4 (dset hL (by omega) (by omega) d), fun d => h.h5 (dset hL (by omega) (by omega) d), fun d => h.h6 (dset hL (by omega) (by omega) d), fun d => h.h7 (dset hL (by omega) (by omega) d), fun d => h.h8 (dset hL (by omega) (by omega) d), fun d => h.h9 (dset hL (by omega) (by omega) d), fun d => h.h10 (dset hL (by omega) (by omega) d), fun d => h.h11 (dset hL (by omega) (by omega) d), fun d => h.h12 (dset hL (by omega) (by omega) d), ?_, ?_, ?_, ?_, ?_, ?_, ?_, ?_, ?_⟩
  · intro d; rw [dsame hL (by omega) (by omega)]; obtain ⟨g, q1, q2, q3⟩ := h.b0 (dset hL (by omega) (by omega) d); exact ⟨g, q1, q2, by have := lt_of_block q3; rw [Below.heap_alloc _ _ _ (by omega)]; exact q3⟩
  · intro d; rw [dsame hL (by omega) (by omega)]; obtain ⟨g, q1, q2, q3⟩ := h.b1 (dset hL (by omega) (by omega) d); exact ⟨g, q1, q2, by have := lt_of_block q3; rw [Below.heap_alloc _ _ _ (by omega)]; exact q3⟩
  · intro d; refine ⟨w.heap.size, rfl, h.below.size, ?_⟩; rw [dsame hL (by omega) (by omega), hx]; exact heap_new w _
  · rw [dsame hL (by omega) (by omega), dsame hL (by omega) (by omega)]; exact h.o0
  · rw [dsame hL (by omega) (by omega), dsame hL (by omega) (by omega)]; exact h.o1
  · intro d; exact dput hL (by omega)
  · rw [dsame hL (by omega) (by omega), dsame hL (by omega) (by omega)]; exact h.d01
  · intro d _ e; obtain ⟨g, q1, q2, q3⟩ := h.b0 (dset hL (by omega) (by omega) d); have := lt_of_block q3; rw [q1] at e; (simp at e <;> omega)
  · intro d _ e; obtain ⟨g, q1, q2, q3⟩ := h.b1 (dset hL (by omega) (by omega) d); have := lt_of_block q3; rw [q1] at e; (simp at e <;> omega)

theorem G3.s16 (hL : L.size = 19) {g : Nat} (hd : did L 13 = true) (hn : did L 16 = false) (h : G3 e0 e1 e2 e3 e4 e5 e6 e7 e8 e9 e10 e11 e12 a0 b0 a1 b1 a2 b2 WB L u0 u1 u2 u3 u4 u5 u6 u7 u8 u9 u10 u11 u12 (.pointer (some ⟨g, 0, none⟩)) v1 v2 w) : G3 e0 e1 e2 e3 e4 e5 e6 e7 e8 e9 e10 e11 e12 a0 b0 a1 b1 a2 b2 WB (L.setIfInBounds 16 true) u0 u1 u2 u3 u4 u5 u6 u7 u8 u9 u10 u11 u12 (.pointer (some ⟨g, 0, none⟩)) v1 v2 ((w.setCell ⟨g, 0, none⟩ a0).setCell ⟨g, 1, none⟩ b0) := by
  obtain ⟨g1, p1, p2, p3⟩ := h.b0 hd
  simp only [Value.pointer.injEq, Option.some.injEq, Addr.mk.injEq, and_true] at p1
  subst p1
  rw [hn] at p3
  refine ⟨(h.below.setCell p2 _).setCell p2 _, fun d => h.h0 (dset hL (by omega) (by omega) d), fun d => h.h1 (dset hL (by omega) (by omega) d), fun d => h.h2 (dset hL (by omega) (by omega) d), fun d => h.h3 (dset hL (by omega) (by omega) d), fun d => h.h4 (dset hL (by omega) (by omega) d), fun d => h.h5 (dset hL (by omega) (by omega) d), fun d => h.h6 (dset hL (by omega) (by omega) d), fun d => h.h7 (dset hL (by omega) (by omega) d), fun d => h.h8 (dset hL (by omega) (by omega) d), fun d => h.h9 (dset hL (by omega) (by omega) d), fun d => h.h10 (dset hL (by omega) (by omega) d), fun d => h.h11 (dset hL (by omega) (by omega) d), fun d => h.h12 (dset hL (by omega) (by omega) d), ?_, ?_, ?_, ?_, ?_, ?_, ?_, ?_, ?_⟩
  · intro d; refine ⟨g, rfl, p2, ?_⟩; rw [dput hL (by omega)]; exact set_lo _ (set_hi _ p3)
  · intro d; rw [dsame hL (by omega) (by omega)]; have hj := dset hL (by omega) (by omega) d; obtain ⟨g2, q1, q2, q3⟩ := h.b1 hj; have ne : g2 ≠ g := (fun e => h.d01 hd hj (by rw [q1, e])); exact ⟨g2, q1, q2, by rw [setCell_heap ne, setCell_heap ne]; exact q3⟩
  · intro d; rw [dsame hL (by omega) (by omega)]; have hj := dset hL (by omega) (by omega) d; obtain ⟨g2, q1, q2, q3⟩ := h.b2 hj; have ne : g2 ≠ g := (fun e => h.d02 hd hj (by rw [q1, e])); exact ⟨g2, q1, q2, by rw [setCell_heap ne, setCell_heap ne]; exact q3⟩
  · intro d; rw [dsame hL (by omega) (by omega)]; exact hd
  · rw [dsame hL (by omega) (by omega), dsame hL (by omega) (by omega)]; exact h.o1
  · rw [dsame hL (by omega) (by omega), dsame hL (by omega) (by omega)]; exact h.o2
  · rw [dsame hL (by omega) (by omega), dsame hL (by omega) (by omega)]; exact h.d01
  · rw [dsame hL (by omega) (by omega), dsame hL (by omega) (by omega)]; exact h.d02
  · rw [dsame hL (by omega) (by omega), dsame hL (by omega) (by omega)]; exact h.d12

theorem G3.s17 (hL : L.size = 19) {g : Nat} (hd : did L 14 = true) (hn : did L 17 = false) (h : G3 e0 e1 e2 e3 e4 e5 e6 e7 e8 e9 e10 e11 e12 a0 b0 a1 b1 a2 b2 WB L u0 u1 u2 u3 u4 u5 u6 u7 u8 u9 u10 u11 u12 v0 (.pointer (some ⟨g, 0, none⟩)) v2 w) : G3 e0 e1 e2 e3 e4 e5 e6 e7 e8 e9 e10 e11 e12 a0 b0 a1 b1 a2 b2 WB (L.setIfInBounds 17 true) u0 u1 u2 u3 u4 u5 u6 u7 u8 u9 u10 u11 u12 v0 (.pointer (some ⟨g, 0, none⟩)) v2 ((w.setCell ⟨g, 0, none⟩ a1).setCell ⟨g, 1, none⟩ b1) := by
  obtain ⟨g1, p1, p2, p3⟩ := h.b1 hd
  simp only [Value.pointer.injEq, Option.some.injEq, Addr.mk.injEq, and_true] at p1
  subst p1
  rw [hn] at p3
  refine ⟨(h.below.setCell p2 _).setCell p2 _, fun d => h.h0 (dset hL (by omega) (by omega) d), fun d => h.h1 (dset hL (by omega) (by omega) d), fun d => h.h2 (dset hL (by omega) (by omega) d), fun d => h.h3 (dset hL (by omega) (by omega) d), fun d => h.h4 (dset hL (by omega) (by omega) d), fun d => h.h5 (dset hL (by omega) (by omega) d), fun d => h.h6 (dset hL (by omega) (by omega) d), fun d => h.h7 (dset hL (by omega) (by omega) d), fun d => h.h8 (dset hL (by omega) (by omega) d), fun d => h.h9 (dset hL (by omega) (by omega) d), fun d => h.h10 (dset hL (by omega) (by omega) d), fun d => h.h11 (dset hL (by omega) (by omega) d), fun d => h.h12 (dset hL (by omega) (by omega) d), ?_, ?_, ?_, ?_, ?_, ?_, ?_, ?_, ?_⟩
  · intro d; rw [dsame hL (by omega) (by omega)]; have hj := dset hL (by omega) (by omega) d; obtain ⟨g2, q1, q2, q3⟩ := h.b0 hj; have ne : g2 ≠ g := (fun e => h.d01 hj hd (by rw [q1, e])); exact ⟨g2, q1, q2, by rw [setCell_heap ne, setCell_heap ne]; exact q3⟩
  · intro d; refine ⟨g, rfl, p2, ?_⟩; rw [dput hL (by omega)]; exact set_lo _ (set_hi _ p3)
  · intro d; rw [dsame hL (by omega) (by omega)]; have hj := dset hL (by omega) (by omega) d; obtain ⟨g2, q1, q2, q3⟩ := h.b2 hj; have ne : g2 ≠ g := (fun e => h.d12 hd hj (by rw [q1, e])); exact ⟨g2, q1, q2, by rw [setCell_heap ne, setCell_heap ne]; exact q3⟩
  · rw [dsame hL (by omega) (by omega), dsame hL (by omega) (by omega)]; exact h.o0
  · intro d; rw [dsame hL (by omega) (by omega)]; exact hd
  · rw [dsame hL (by omega) (by omega), dsame hL (by omega) (by omega)]; exact h.o2
  · rw [dsame hL (by omega) (by omega), dsame hL (by omega) (by omega)]; exact h.d01
  · rw [dsame hL (by omega) (by omega), dsame hL (by omega) (by omega)]; exact h.d02
  · rw [dsame hL (by omega) (by omega), dsame hL (by omega) (by omega)]; exact h.d12

theorem G3.s18 (hL : L.size = 19) {g : Nat} (hd : did L 15 = true) (hn : did L 18 = false) (h : G3 e0 e1 e2 e3 e4 e5 e6 e7 e8 e9 e10 e11 e12 a0 b0 a1 b1 a2 b2 WB L u0 u1 u2 u3 u4 u5 u6 u7 u8 u9 u10 u11 u12 v0 v1 (.pointer (some ⟨g, 0, none⟩)) w) : G3 e0 e1 e2 e3 e4 e5 e6 e7 e8 e9 e10 e11 e12 a0 b0 a1 b1 a2 b2 WB (L.setIfInBounds 18 true) u0 u1 u2 u3 u4 u5 u6 u7 u8 u9 u10 u11 u12 v0 v1 (.pointer (some ⟨g, 0, none⟩)) ((w.setCell ⟨g, 0, none⟩ a2).setCell ⟨g, 1, none⟩ b2) := by
  obtain ⟨g1, p1, p2, p3⟩ := h.b2 hd
  simp only [Value.pointer.injEq, Option.some.injEq, Addr.mk.injEq, and_true] at p1
  subst p1
  rw [hn] at p3
  refine ⟨(h.below.setCell p2 _).setCell p2 _, fun d => h.h0 (dset hL (by omega) (by omega) d), fun d => h.h1 (dset hL (by omega) (by omega) d), fun d => h.h2 (dset hL (by omega) (by omega) d), fun d => h.h3 (dset hL (by omega) (by omega) d), fun d => h.h4 (dset hL (by omega) (by omega) d), fun d => h.h5 (dset hL (by omega) (by omega) d), fun d => h.h6 (dset hL (by omega) (by omega) d), fun d => h.h7 (dset hL (by omega) (by omega) d), fun d => h.h8 (dset hL (by omega) (by omega) d), fun d => h.h9 (dset hL (by omega) (by omega) d), fun d => h.h10 (dset hL (by omega) (by omega) d), fun d => h.h11 (dset hL (by omega) (by omega) d), fun d => h.h12 (dset hL (by omega) (by omega) d), ?_, ?_, ?_, ?_, ?_, ?_, ?_, ?_, ?_⟩
  · intro d; rw [dsame hL (by omega) (by omega)]; have hj := dset hL (by omega) (by omega) d; obtain ⟨g2, q1, q2, q3⟩ := h.b0 hj; have ne : g2 ≠ g := (fun e => h.d02 hj hd (by rw [q1, e])); exact ⟨g2, q1, q2, by rw [setCell_heap ne, setCell_heap ne]; exact q3⟩
  · intro d; rw [dsame hL (by omega) (by omega)]; have hj := dset hL (by omega) (by omega) d; obtain ⟨g2, q1, q2, q3⟩ := h.b1 hj; have ne : g2 ≠ g := (fun e => h.d12 hj hd (by rw [q1, e])); exact ⟨g2, q1, q2, by rw [setCell_heap ne, setCell_heap ne]; exact q3⟩
  · intro d; refine ⟨g, rfl, p2, ?_⟩; rw [dput hL (by omega)]; exact set_lo _ (set_hi _ p3)
  · rw [dsame hL (by omega) (by omega), dsame hL (by omega) (by omega)]; exact h.o0
  · rw [dsame hL (by omega) (by omega), dsame hL (by omega) (by omega)]; exact h.o1
  · intro d; rw [dsame hL (by omega) (by omega)]; exact hd
  · rw [dsame hL (by omega) (by omega), dsame hL (by omega) (by omega)]; exact h.d01
  · rw [dsame hL (by omega) (by omega), dsame hL (by omega) (by omega)]; exact h.d02
  · rw [dsame hL (by omega) (by omega), dsame hL (by omega) (by omega)]; exact h.d12

theorem G3.full (h : G3 e0 e1 e2 e3 e4 e5 e6 e7 e8 e9 e10 e11 e12 a0 b0 a1 b1 a2 b2 WB L u0 u1 u2 u3 u4 u5 u6 u7 u8 u9 u10 u11 u12 v0 v1 v2 w) (hall : ∀ i, i < 19 → did L i = true) : G3 e0 e1 e2 e3 e4 e5 e6 e7 e8 e9 e10 e11 e12 a0 b0 a1 b1 a2 b2 WB (Array.replicate 19 true) u0 u1 u2 u3 u4 u5 u6 u7 u8 u9 u10 u11 u12 v0 v1 v2 w := by
  have r : ∀ i, i < 19 → did (Array.replicate 19 true) i = did L i := fun i hi => by rw [hall i hi]; unfold did; simp [hi]
  refine ⟨h.below, fun _ => h.h0 (hall _ (by omega)), fun _ => h.h1 (hall _ (by omega)), fun _ => h.h2 (hall _ (by omega)), fun _ => h.h3 (hall _ (by omega)), fun _ => h.h4 (hall _ (by omega)), fun _ => h.h5 (hall _ (by omega)), fun _ => h.h6 (hall _ (by omega)), fun _ => h.h7 (hall _ (by omega)), fun _ => h.h8 (hall _ (by omega)), fun _ => h.h9 (hall _ (by omega)), fun _ => h.h10 (hall _ (by omega)), fun _ => h.h11 (hall _ (by omega)), fun _ => h.h12 (hall _ (by omega)), ?_, ?_, ?_, fun _ => by rw [r _ (by omega)]; exact hall _ (by omega), fun _ => by rw [r _ (by omega)]; exact hall _ (by omega), fun _ => by rw [r _ (by omega)]; exact hall _ (by omega), ?_, ?_, ?_⟩
  · rw [r _ (by omega), r _ (by omega)]; exact h.b0
  · rw [r _ (by omega), r _ (by omega)]; exact h.b1
  · rw [r _ (by omega), r _ (by omega)]; exact h.b2
  · rw [r _ (by omega), r _ (by omega)]; exact h.d01
  · rw [r _ (by omega), r _ (by omega)]; exact h.d02
  · rw [r _ (by omega), r _ (by omega)]; exact h.d12

theorem G3.ends {g0 g1 g2 : Nat} (h : G3 e0 e1 e2 e3 e4 e5 e6 e7 e8 e9 e10 e11 e12 a0 b0 a1 b1 a2 b2 WB (Array.replicate 19 true) u0 u1 u2 u3 u4 u5 u6 u7 u8 u9 u10 u11 u12 (.pointer (some ⟨g0, 0, none⟩)) (.pointer (some ⟨g1, 0, none⟩)) (.pointer (some ⟨g2, 0, none⟩)) w) : Below WB.heap.size WB w ∧ w.heap[g0]? = some (.cells #[a0, b0] 41 (0, 0)) ∧ w.heap[g1]? = some (.cells #[a1, b1] 41 (0, 0)) ∧ w.heap[g2]? = some (.cells #[a2, b2] 41 (0, 0)) := by
  have r : ∀ i, i < 19 → did (Array.replicate 19 true) i = true := fun i hi => by unfold did; simp [hi]
  refine ⟨h.below, ?_, ?_, ?_⟩
  · obtain ⟨g, p, -, q⟩ := h.b0 (r _ (by omega))
    simp only [Value.pointer.injEq, Option.some.injEq, Addr.mk.injEq, and_true] at p
    subst p
    rw [r _ (by omega)] at q
    exact q
  · obtain ⟨g, p, -, q⟩ := h.b1 (r _ (by omega))
    simp only [Value.pointer.injEq, Option.some.injEq, Addr.mk.injEq, and_true] at p
    subst p
    rw [r _ (by omega)] at q
    exact q
  · obtain ⟨g, p, -, q⟩ := h.b2 (r _ (by omega))
    simp only [Value.pointer.injEq, Option.some.injEq, Addr.mk.injEq, and_true] at p
    subst p
    rw [r _ (by omega)] at q
    exact q

end Go.Proofs.Ytlnkflmnjkmhkaa
