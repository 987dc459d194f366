/-
  The contract of bits.Div64 by ten.
-/
import Derived.Test.YtfalhemeiengcaaDoorDiv
namespace Go.Proofs.YtfalhemeiengcaaDoor
open Go.RowKit Go.Maps Go.Lib

theorem wrapN (x : Nat) : IntKind.u64.wrap (x : Int) = ((x % 18446744073709551616 : Nat) : Int) := by rw [IntKind.wrap_u64]; omega
set_option maxRecDepth 100000 in
theorem div_or (h l : Nat) (h9 : h < 10) (hl : l < 18446744073709551616) : bits .or .u64 ((h : Int) * 1152921504606846976) ((l : Int) / 16) = ((h * 1152921504606846976 + l / 16 : Nat) : Int) := by
  rw [show (h : Int) * 1152921504606846976 = ((h * 1152921504606846976 : Nat) : Int) by omega, show (l : Int) / 16 = ((l / 16 : Nat) : Int) by omega, or_cast _ _ (by unfold B; omega) (by unfold B; omega), nat_join 60 _ _ (by rw [show (2 : Nat) ^ 60 = 1152921504606846976 by decide]; omega) (by rw [show (2 : Nat) ^ 60 = 1152921504606846976 by decide]; omega)]
theorem div_and (v : Nat) (k : Nat) (hk : k < 16) (hv : v = k * 1152921504606846976) : bits .and .u64 (v : Int) 4294967295 = 0 := by
  have h := and_cast v 4294967295 (by unfold B; omega) (by unfold B; decide)
  rw [show (((4294967295 : Nat)) : Int) = 4294967295 from rfl] at h
  rw [h, show (4294967295 : Nat) = 2 ^ 32 - 1 by decide, Nat.and_two_pow_sub_one_eq_mod, show (2 : Nat) ^ 32 = 4294967296 by decide]
  omega

set_option maxRecDepth 100000 in
set_option maxHeartbeats 4000000 in
theorem div_ten (h l : Nat) (h0 : 1 ≤ h) (h9 : h < 10) (hl : l < 18446744073709551616) (w : World) : Calls Tryd.prog 48 #[.int .u64 (h : Int), .int .u64 (l : Int), .int .u64 10] w fun e w' => e = .returned (.tuple #[.int .u64 (((h * 18446744073709551616 + l) / 10 : Nat) : Int), .int .u64 (((h * 18446744073709551616 + l) % 10 : Nat) : Int)]) ∧ Below w.heap.size w w' := by
  have HZ : Hid (∀ W, Calls Tryd.prog 79 #[.int .u64 10] W fun e w' => e = .returned (.int .i64 60) ∧ w' = W) := fun W => by
    have := Tryd.bits_LeadingZeros64 10 W (by decide) (by decide)
    exact this
  have e2 : bits BinOp.and IntKind.u64 11529215046068469760 4294967295 = 0 := by kernel_rfl
  obtain ⟨u, hu⟩ : ∃ u, u = h * 1152921504606846976 + l / 16 := ⟨_, rfl⟩
  have a1 : bits .or .u64 ((h : Int) * 1152921504606846976) ((l : Int) / 16) = (u : Int) := by rw [hu]; exact div_or h l h9 hl
  obtain ⟨k, hk⟩ : ∃ k, k = l % 16 := ⟨_, rfl⟩
  obtain ⟨v, hv⟩ : ∃ v, v = k * 1152921504606846976 := ⟨_, rfl⟩
  have a2 : IntKind.u64.wrap ((l : Int) * 1152921504606846976) = (v : Int) := by rw [IntKind.wrap_u64]; omega
  obtain ⟨v1, hv1⟩ : ∃ v, v = k * 268435456 := ⟨_, rfl⟩
  have a3 : (v : Int) / 4294967296 = (v1 : Int) := by omega
  have a4 : bits .and .u64 (v : Int) 4294967295 = 0 := div_and v k (by omega) hv
  obtain ⟨q1, hq1⟩ : ∃ q, q = u / 2684354560 := ⟨_, rfl⟩
  have a5 : IntKind.u64.wrap ((u : Int) / 2684354560) = (q1 : Int) := by rw [IntKind.wrap_u64]; omega
  obtain ⟨p1, hp1⟩ : ∃ q, q = q1 * 2684354560 := ⟨_, rfl⟩
  have a6 : IntKind.u64.wrap ((q1 : Int) * 2684354560) = (p1 : Int) := by rw [IntKind.wrap_u64]; omega
  obtain ⟨r1, hr1⟩ : ∃ q, q = u % 2684354560 := ⟨_, rfl⟩
  have a7 : IntKind.u64.wrap ((u : Int) - (p1 : Int)) = (r1 : Int) := by rw [IntKind.wrap_u64]; omega
  obtain ⟨s1, hs1⟩ : ∃ q, q = r1 * 4294967296 := ⟨_, rfl⟩
  have a8 : IntKind.u64.wrap (4294967296 * (r1 : Int)) = (s1 : Int) := by rw [IntKind.wrap_u64]; omega
  obtain ⟨m, hm⟩ : ∃ q, q = s1 + v1 := ⟨_, rfl⟩
  have a9 : IntKind.u64.wrap ((s1 : Int) + (v1 : Int)) = (m : Int) := by rw [IntKind.wrap_u64]; omega
  obtain ⟨A1, hA1⟩ : ∃ q, q = u * 4294967296 % 18446744073709551616 := ⟨_, rfl⟩
  have b1 : IntKind.u64.wrap ((u : Int) * 4294967296) = (A1 : Int) := by rw [IntKind.wrap_u64]; omega
  obtain ⟨A2, hA2⟩ : ∃ q, q = (A1 + v1) % 18446744073709551616 := ⟨_, rfl⟩
  have b2 : IntKind.u64.wrap ((A1 : Int) + (v1 : Int)) = (A2 : Int) := by rw [IntKind.wrap_u64]; omega
  obtain ⟨A3, hA3⟩ : ∃ q, q = q1 * 11529215046068469760 % 18446744073709551616 := ⟨_, rfl⟩
  have b3 : IntKind.u64.wrap ((q1 : Int) * 11529215046068469760) = (A3 : Int) := by rw [IntKind.wrap_u64]; omega
  have b4 : IntKind.u64.wrap ((A2 : Int) - (A3 : Int)) = (m : Int) := by rw [IntKind.wrap_u64]; omega
  obtain ⟨q0, hq0⟩ : ∃ q, q = m / 2684354560 := ⟨_, rfl⟩
  have c1 : IntKind.u64.wrap ((m : Int) / 2684354560) = (q0 : Int) := by rw [IntKind.wrap_u64]; omega
  obtain ⟨p0, hp0⟩ : ∃ q, q = q0 * 2684354560 := ⟨_, rfl⟩
  have c2 : IntKind.u64.wrap ((q0 : Int) * 2684354560) = (p0 : Int) := by rw [IntKind.wrap_u64]; omega
  obtain ⟨r0, hr0⟩ : ∃ q, q = m % 2684354560 := ⟨_, rfl⟩
  have c3 : IntKind.u64.wrap ((m : Int) - (p0 : Int)) = (r0 : Int) := by rw [IntKind.wrap_u64]; omega
  obtain ⟨s0, hs0⟩ : ∃ q, q = r0 * 4294967296 := ⟨_, rfl⟩
  have c4 : IntKind.u64.wrap (4294967296 * (r0 : Int)) = (s0 : Int) := by rw [IntKind.wrap_u64]; omega
  have c5 : IntKind.u64.wrap (s0 : Int) = (s0 : Int) := by rw [IntKind.wrap_u64]; omega
  obtain ⟨B1, hB1⟩ : ∃ q, q = q1 * 4294967296 := ⟨_, rfl⟩
  have d1 : IntKind.u64.wrap ((q1 : Int) * 4294967296) = (B1 : Int) := by rw [IntKind.wrap_u64]; omega
  obtain ⟨Q, hQ⟩ : ∃ q, q = (h * 18446744073709551616 + l) / 10 := ⟨_, rfl⟩
  have d2 : IntKind.u64.wrap ((B1 : Int) + (q0 : Int)) = (Q : Int) := by rw [IntKind.wrap_u64]; omega
  obtain ⟨D1, hD1⟩ : ∃ q, q = m * 4294967296 % 18446744073709551616 := ⟨_, rfl⟩
  have d3 : IntKind.u64.wrap ((m : Int) * 4294967296) = (D1 : Int) := by rw [IntKind.wrap_u64]; omega
  have d4 : IntKind.u64.wrap (D1 : Int) = (D1 : Int) := by rw [IntKind.wrap_u64]; omega
  obtain ⟨D2, hD2⟩ : ∃ q, q = q0 * 11529215046068469760 % 18446744073709551616 := ⟨_, rfl⟩
  have d5 : IntKind.u64.wrap ((q0 : Int) * 11529215046068469760) = (D2 : Int) := by rw [IntKind.wrap_u64]; omega
  obtain ⟨D3, hD3⟩ : ∃ q, q = r0 * 4294967296 := ⟨_, rfl⟩
  have d6 : IntKind.u64.wrap ((D1 : Int) - (D2 : Int)) = (D3 : Int) := by rw [IntKind.wrap_u64]; omega
  obtain ⟨R, hR⟩ : ∃ q, q = (h * 18446744073709551616 + l) % 10 := ⟨_, rfl⟩
  have d7 : (D3 : Int) / 1152921504606846976 = (R : Int) := by omega
  have x1 : decide (4294967296 ≤ (q1 : Int)) = false := by rw [decide_eq_false_iff_not]; omega
  have x2 : decide (4294967296 ≤ (q0 : Int)) = false := by rw [decide_eq_false_iff_not]; omega
  have x3 : decide ((m : Int) < 0) = false := by rw [decide_eq_false_iff_not]; omega
  have x4 : decide ((s0 : Int) < 0) = false := by rw [decide_eq_false_iff_not]; omega
  rw [← hQ, ← hR]
  clear hu hk hv hv1 hq1 hp1 hr1 hs1 hm hA1 hA2 hA3 hq0 hp0 hr0 hs0 hB1 hQ hD1 hD2 hD3 hR
  go_enter Tryd.func48, Tryd.ntmps48
  go_wp2_with (first
    | (go_at_call 79; (with_reducible refine (HZ.out _).mono ?_); rintro e w1 ⟨rfl, rfl⟩))
  clear h0 h9 hl
  go_loopw [15, 16] (fun x y wr => x = .int .u64 (q1 : Int) ∧ y = .int .u64 (r1 : Int) ∧ wr = w1) (fun _ _ _ => 0)
  case atStart => exact ⟨rfl, rfl, rfl⟩
  case round =>
    obtain ⟨rfl, rfl, rfl⟩ := hrel
    go_wp2_with fail
    go_loopw [18, 16] (fun x y wr2 => x = .int .u64 (q0 : Int) ∧ y = .int .u64 (r0 : Int) ∧ wr2 = wr) (fun _ _ _ => 0)
    case atStart => exact ⟨rfl, rfl, rfl⟩
    case round =>
      obtain ⟨rfl, rfl, rfl⟩ := hrel
      go_wp2_with fail
      exact bodyPost_ret (v := .tuple #[.int .u64 (Q : Int), .int .u64 (R : Int)]) (by simp [results, Tryd.results48, go_sem]) rfl ⟨rfl, Below.refl _ _⟩

end Go.Proofs.YtfalhemeiengcaaDoor
