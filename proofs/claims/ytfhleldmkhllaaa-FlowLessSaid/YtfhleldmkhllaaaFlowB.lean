/-
  flow.forward; Weigh; SameCode and SameInsts of the same.
-/
import Derived.Test.YtfhleldmkhllaaaFlowA
namespace Go.Proofs.Ytfhleldmkhllaaa
open Go.RowKit Flow

set_option maxRecDepth 100000 in
set_option maxHeartbeats 4000000 in
theorem forward_any (v : Value) (X : Nat → Prop) (l : List Ins) (w : World) (hv : InsRow w X v l) (hl : l.length ≤ 1000000000000000) : Calls Try.prog 8 #[v] w fun e w' => (∃ b, e = .returned (.bool b) ∧ (b = true ↔ Fwd l)) ∧ Below w.heap.size w w' := by
  obtain ⟨pa, ca, rfl⟩ := hv.shape
  have HV := Lib.hid hv
  have HJ := Lib.hid jumps_any
  clear hv
  go_enter Try.func8, Try.ntmps8
  go_wp2_with fail
  go_loopw [7] (fun i wr => ∃ k : Nat, k ≤ l.length ∧ i = .int .i64 (k : Int) ∧ Hid (∀ j, j < k → jmp (at' l j) = true → (j : Int) < (at' l j).to ∧ (at' l j).to ≤ (l.length : Int)) ∧ Hid (Below w.heap.size w wr)) (fun i _ => l.length - (RowKit.intOf i).toNat)
  case atStart => exact ⟨0, Nat.zero_le _, rfl, fun j h => absurd h (Nat.not_lt_zero j), Below.refl _ _⟩
  case round =>
    obtain ⟨k, hk, rfl, HN, HB⟩ := hrel
    by_cases hlt : k < l.length
    · obtain ⟨b0, o, cap, he, hb, hn⟩ := (HV.out.below HB.out).at hlt
      cases he
      have HS : Hid (jmp (at' l k) = true → ((k : Int) < (at' l k).to ∧ (at' l k).to ≤ (l.length : Int)) → ∀ j, j < k + 1 → jmp (at' l j) = true → (j : Int) < (at' l j).to ∧ (at' l j).to ≤ (l.length : Int)) := by
        intro h1 h2 j hj hjj
        by_cases e2 : j = k
        · rw [e2]; exact h2
        · exact HN.out j (by omega) hjj
      have HS2 : Hid (jmp (at' l k) = false → ∀ j, j < k + 1 → jmp (at' l j) = true → (j : Int) < (at' l j).to ∧ (at' l j).to ≤ (l.length : Int)) := by
        intro h1 j hj hjj
        by_cases e2 : j = k
        · rw [e2, h1] at hjj; cases hjj
        · exact HN.out j (by omega) hjj
      have HS3 : Hid (jmp (at' l k) = true → ¬ ((k : Int) < (at' l k).to ∧ (at' l k).to ≤ (l.length : Int)) → ¬ Fwd l) := by
        intro h1 h2 hf
        exact h2 (hf k hlt h1)
      generalize at' l k = x at *
      obtain ⟨c0, c1, c2, ⟨ev, c3, hcv⟩, c4⟩ := hn
      have HJ1 : Hid (∀ W, Calls Try.prog 14 #[insV x ev] W fun e w' => e = .returned (.bool (jmp x)) ∧ Below W.heap.size W w') := fun W => HJ.out x ev W
      unfold insV at HJ1
      obtain ⟨pe, ce, rfl⟩ := hcv.shape
      clear hcv
      have hki : (k : Int) < (l.length : Int) := by omega
      generalize jmp x = jx at HJ1 HS HS2 HS3
      obtain ⟨xk, xa, xb, xe, xt⟩ := x
      dsimp only at *
      cases jx
      · go_wp2_with (first | (go_at_call 14; (with_reducible refine (HJ1.out _).mono ?_); rintro e1 w1 ⟨rfl, hb1⟩; have y1 := (hb1.block wr.heap.size (by simp)).trans (heap_alloc_new wr _); have v4 : w1.cell? ⟨wr.heap.size, 4, none⟩ = some (.int .i64 xt) := (by simp [World.cell?, y1]); have HB1 := Lib.hid hb1; have HBW : Hid (Below w.heap.size w w1) := (HB.out.alloc HB.out.size _).trans (hb1.mono (by have := HB.out.size; simp; omega)); clear y1 hb1))
        exact ⟨⟨k + 1, hlt, rfl, HS2.out trivial, HBW.out⟩, by simp only [RowKit.intOf]; omega⟩
      · by_cases g1 : xt ≤ (k : Int)
        · go_wp2_with (first | (go_at_call 14; (with_reducible refine (HJ1.out _).mono ?_); rintro e1 w1 ⟨rfl, hb1⟩; have y1 := (hb1.block wr.heap.size (by simp)).trans (heap_alloc_new wr _); have v4 : w1.cell? ⟨wr.heap.size, 4, none⟩ = some (.int .i64 xt) := (by simp [World.cell?, y1]); have HB1 := Lib.hid hb1; have HBW : Hid (Below w.heap.size w w1) := (HB.out.alloc HB.out.size _).trans (hb1.mono (by have := HB.out.size; simp; omega)); clear y1 hb1))
          go_ret
          exact ⟨⟨false, rfl, by simp; exact HS3.out trivial (by omega)⟩, HBW.out⟩
        · by_cases g2 : (l.length : Int) < xt
          · go_wp2_with (first | (go_at_call 14; (with_reducible refine (HJ1.out _).mono ?_); rintro e1 w1 ⟨rfl, hb1⟩; have y1 := (hb1.block wr.heap.size (by simp)).trans (heap_alloc_new wr _); have v4 : w1.cell? ⟨wr.heap.size, 4, none⟩ = some (.int .i64 xt) := (by simp [World.cell?, y1]); have HB1 := Lib.hid hb1; have HBW : Hid (Below w.heap.size w w1) := (HB.out.alloc HB.out.size _).trans (hb1.mono (by have := HB.out.size; simp; omega)); clear y1 hb1))
            go_ret
            exact ⟨⟨false, rfl, by simp; exact HS3.out trivial (by omega)⟩, HBW.out⟩
          · go_wp2_with (first | (go_at_call 14; (with_reducible refine (HJ1.out _).mono ?_); rintro e1 w1 ⟨rfl, hb1⟩; have y1 := (hb1.block wr.heap.size (by simp)).trans (heap_alloc_new wr _); have v4 : w1.cell? ⟨wr.heap.size, 4, none⟩ = some (.int .i64 xt) := (by simp [World.cell?, y1]); have HB1 := Lib.hid hb1; have HBW : Hid (Below w.heap.size w w1) := (HB.out.alloc HB.out.size _).trans (hb1.mono (by have := HB.out.size; simp; omega)); clear y1 hb1))
            exact ⟨⟨k + 1, hlt, rfl, HS.out trivial ⟨by omega, by omega⟩, HBW.out⟩, by simp only [RowKit.intOf]; omega⟩
    · obtain rfl : k = l.length := by omega
      go_wp2_with fail
      go_ret
      exact ⟨⟨true, rfl, by simp; exact fun j h1 h2 => HN.out j h1 h2⟩, HB.out⟩

set_option maxRecDepth 100000 in
set_option maxHeartbeats 4000000 in
theorem weigh_any (v : Value) (X : Nat → Prop) (l : List Ins) (w : World) (hv : InsRow w X v l) (hl : l.length ≤ 1000000000000000) : Calls Try.prog 4 #[v] w fun e w' => (∃ z : Int, e = .returned (.int .i64 z)) ∧ Below w.heap.size w w' := by
  obtain ⟨pa, ca, rfl⟩ := hv.shape
  have HV := Lib.hid hv
  clear hv
  go_enter Try.func4, Try.ntmps4
  go_wp2_with fail
  go_loopw [3, 4] (fun z i wr => ∃ (k : Nat) (zz : Int), k ≤ l.length ∧ i = .int .i64 (k : Int) ∧ z = .int .i64 zz ∧ Hid (Below w.heap.size w wr)) (fun _ i _ => l.length - (RowKit.intOf i).toNat)
  case atStart => exact ⟨0, _, Nat.zero_le _, rfl, rfl, Below.refl _ _⟩
  case round =>
    obtain ⟨k, zz, hk, rfl, rfl, HB⟩ := hrel
    by_cases hlt : k < l.length
    · obtain ⟨b0, o, cap, he, hb, hn⟩ := (HV.out.below HB.out).at hlt
      cases he
      generalize at' l k = x at *
      obtain ⟨-, -, -, ⟨ev, c3, hcv⟩, -⟩ := hn
      obtain ⟨pe, ce, rfl⟩ := hcv.shape
      clear hcv
      have hki : (k : Int) < (l.length : Int) := by omega
      go_wp2_with fail
      exact ⟨⟨k + 1, _, hlt, rfl, rfl, HB.out⟩, by simp only [RowKit.intOf]; omega⟩
    · obtain rfl : k = l.length := by omega
      go_wp2_with fail
      go_ret
      exact ⟨⟨_, rfl⟩, HB.out⟩

theorem neq_nod (a b c d e f : Int) (W : World) : (Go.binOp .neq 37 (.agg #[.int .u8 a, .int .i64 b, .int .i64 c, .int .i64 d, .int .u64 e, .int .u64 f]) (.agg #[.int .u8 a, .int .i64 b, .int .i64 c, .int .i64 d, .int .u64 e, .int .u64 f])).run Try.prog W = .ok (.bool false) W := by
  simp [go_sem]

set_option maxRecDepth 100000 in
set_option maxHeartbeats 4000000 in
theorem samecode_any (u v : Value) (X Y : Nat → Prop) (e : List Nod) (w : World) (hu : CodeAt w X u e) (hv : CodeAt w Y v e) (hl : e.length ≤ 1000000000000000) : Calls Try.prog 13 #[u, v] w fun r w' => r = .returned (.bool true) ∧ Below w.heap.size w w' := by
  obtain ⟨pu, cu, rfl⟩ := hu.shape
  obtain ⟨pv, cv, rfl⟩ := hv.shape
  have HU := Lib.hid hu
  have HV := Lib.hid hv
  clear hu hv
  go_enter Try.func13, Try.ntmps13
  go_wp2_with fail
  go_loopw [5] (fun i wr => ∃ k : Nat, k ≤ e.length ∧ i = .int .i64 (k : Int) ∧ Hid (Below w.heap.size w wr)) (fun i _ => e.length - (RowKit.intOf i).toNat)
  case atStart => exact ⟨0, Nat.zero_le _, rfl, Below.refl _ _⟩
  case round =>
    obtain ⟨k, hk, rfl, HB⟩ := hrel
    by_cases hlt : k < e.length
    · obtain ⟨b0, o0, cap0, he0, hb0, hn0⟩ := (HU.out.below HB.out).at hlt
      obtain ⟨b1, o1, cap1, he1, hb1, hn1⟩ := (HV.out.below HB.out).at hlt
      cases he0
      cases he1
      generalize e.getD k dN = nd at *
      obtain ⟨op, wi, na, nb, hi, lo⟩ := nd
      obtain ⟨c0, c1, c2, c3, c4, c5⟩ := hn0
      obtain ⟨d0, d1, d2, d3, d4, d5⟩ := hn1
      have q := neq_nod op wi na nb hi lo
      dsimp only at *
      have hki : (k : Int) < (e.length : Int) := by omega
      go_wp2_with fail
      go_region
      go_wp2_with fail
      exact ⟨⟨k + 1, hlt, rfl, below_drewN HB.out 1⟩, by simp only [RowKit.intOf]; omega⟩
    · obtain rfl : k = e.length := by omega
      go_wp2_with fail
      go_ret
      exact ⟨rfl, HB.out⟩

end Go.Proofs.Ytfhleldmkhllaaa
