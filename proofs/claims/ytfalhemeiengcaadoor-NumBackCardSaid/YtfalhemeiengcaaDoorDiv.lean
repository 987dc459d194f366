/-
  Contracts of bits.Div64 by ten: at a high word of 0, and at 2^64.
-/
import Derived.Test.YtfalhemeiengcaaDoorParse
namespace Go.Proofs.YtfalhemeiengcaaDoor
open Go.RowKit Go.Maps Go.Lib

set_option maxRecDepth 100000 in
set_option maxHeartbeats 2000000 in
theorem div_low (x : Nat) (hx : x < 18446744073709551616) (w : World) : Calls Tryd.prog 48 #[.int .u64 0, .int .u64 (x : Int), .int .u64 10] w fun e w' => e = .returned (.tuple #[.int .u64 ((x / 10 : Nat) : Int), .int .u64 ((x % 10 : Nat) : Int)]) ∧ Below w.heap.size w w' := by
  obtain ⟨q, hq⟩ : ∃ q, x / 10 = q := ⟨_, rfl⟩
  obtain ⟨r, hr⟩ : ∃ r, x % 10 = r := ⟨_, rfl⟩
  have q1 : IntKind.u64.wrap ((x : Int) / 10) = (q : Int) := by
    show ((x : Int) / 10) % 18446744073709551616 = _
    omega
  have q3 : (x : Int) % 10 = (r : Int) := by omega
  rw [hq, hr]
  clear hq hr hx
  go_enter Tryd.func48, Tryd.ntmps48
  go_wp2_with fail
  go_region
  go_wp2_with fail
  exact bodyPost_ret (v := .tuple #[.int .u64 (q : Int), .int .u64 (r : Int)]) (by simp [results, Tryd.results48, go_sem, q3]) rfl ⟨rfl, (by repeat (first | exact Below.refl _ _ | assumption | refine Below.drew ?_ | refine Below.alloc ?_ (by first | omega | (simp <;> omega)) _ | refine Below.setCell ?_ (by first | omega | (simp <;> omega)) _ | refine Below.trans ?_ (Below.mono (by assumption) (by first | omega | (simp <;> omega)))))⟩

set_option maxRecDepth 100000 in
set_option maxHeartbeats 4000000 in
theorem div_one (w : World) : Calls Tryd.prog 48 #[.int .u64 1, .int .u64 0, .int .u64 10] w fun e w' => e = .returned (.tuple #[.int .u64 1844674407370955161, .int .u64 6]) ∧ Below w.heap.size w w' := by
  have HZ : Hid (∀ W, Calls Tryd.prog 79 #[.int .u64 10] W fun e w' => e = .returned (.int .i64 60) ∧ w' = W) := fun W => by
    have := Tryd.bits_LeadingZeros64 10 W (by decide) (by decide)
    exact this
  have e1 : bits BinOp.or IntKind.u64 1152921504606846976 0 = 1152921504606846976 := by kernel_rfl
  have e2 : bits BinOp.and IntKind.u64 11529215046068469760 4294967295 = 0 := by kernel_rfl
  have g0 : IntKind.u64.wrap 4951760157141521099596496896 = 0 := by kernel_rfl
  have g1 : IntKind.u64.wrap 4951760150223992071955415040 = 11529215046068469760 := by kernel_rfl
  have g2 : IntKind.u64.wrap (-11529215046068469760) = 6917529027641081856 := by kernel_rfl
  have g3 : IntKind.u64.wrap 29710560942849126597578981376 = 0 := by kernel_rfl
  have g4 : IntKind.u64.wrap 29710560935931597569937899520 = 11529215046068469760 := by kernel_rfl
  have g5 : IntKind.u64.wrap (-11529215046068469760) = 6917529027641081856 := by kernel_rfl
  have e3 : bits BinOp.and IntKind.u64 0 4294967295 = 0 := by kernel_rfl
  go_enter Tryd.func48, Tryd.ntmps48
  go_wp2_with (first
    | (go_at_call 79; (with_reducible refine (HZ.out _).mono ?_); rintro e w1 ⟨rfl, rfl⟩))
  go_loopw [15, 16] (fun x y wr => x = .int .u64 429496729 ∧ y = .int .u64 1610612736 ∧ wr = w1) (fun _ _ _ => 0)
  case atStart => exact ⟨rfl, rfl, rfl⟩
  case round =>
    obtain ⟨rfl, rfl, rfl⟩ := hrel
    go_wp2_with fail
    go_loopw [18, 16] (fun x y wr2 => x = .int .u64 2576980377 ∧ y = .int .u64 1610612736 ∧ wr2 = wr) (fun _ _ _ => 0)
    case atStart => exact ⟨rfl, rfl, rfl⟩
    case round =>
      obtain ⟨rfl, rfl, rfl⟩ := hrel
      go_wp2_with fail
      exact bodyPost_ret (v := .tuple #[.int .u64 1844674407370955161, .int .u64 6]) (by simp [results, Tryd.results48, go_sem]) rfl ⟨rfl, Below.refl _ _⟩

end Go.Proofs.YtfalhemeiengcaaDoor
