/-
  Layer 1: sums, differences and parts of numbers, in plain numbers.
-/
import Derived.Test.YtfalhemeiengcaaDoorNumMore3
namespace Go.Proofs.YtfalhemeiengcaaDoor

def aN (k : Int) (a b : Nat) : Nat := (a + b) % (B * B) % 2 ^ sh k
def sN (k : Int) (a b : Nat) : Nat := (a + (B * B - b)) % (B * B) % 2 ^ sh k
def nN (k : Int) (a : Nat) : Nat := (a % 2 ^ sh k) ^^^ (2 ^ sh k - 1)
theorem BB_pow128 : B * B = 2 ^ 128 := by unfold B; decide
theorem dvd_BB (k : Int) : 2 ^ sh k ∣ B * B := by rw [BB_pow128]; exact Nat.pow_dvd_pow 2 (sh_le k)
theorem pow_le_BB (k : Int) : 2 ^ sh k ≤ B * B := by rw [BB_pow128]; exact Nat.pow_le_pow_right (by omega) (sh_le k)
theorem aN_mod (k : Int) (a b : Nat) : aN k a b = (a + b) % 2 ^ sh k := by unfold aN; rw [Nat.mod_mod_of_dvd _ (dvd_BB k)]
theorem sN_mod (k : Int) (a b : Nat) : sN k a b = (a + (B * B - b)) % 2 ^ sh k := by unfold sN; rw [Nat.mod_mod_of_dvd _ (dvd_BB k)]
theorem aN_lt (k : Int) (a b : Nat) : aN k a b < 2 ^ sh k := by unfold aN; exact Nat.mod_lt _ (Nat.two_pow_pos _)
theorem sN_lt (k : Int) (a b : Nat) : sN k a b < 2 ^ sh k := by unfold sN; exact Nat.mod_lt _ (Nat.two_pow_pos _)
theorem lt_of_pow {k : Int} {n : Nat} (h : n < 2 ^ sh k) : n < B * B := Nat.lt_of_lt_of_le h (pow_le_BB k)
theorem xor_mask {x t : Nat} (hx : x < 2 ^ t) : x ^^^ (2 ^ t - 1) = 2 ^ t - 1 - x := by
  apply Nat.eq_of_testBit_eq
  intro i
  rw [Nat.testBit_xor, Nat.testBit_two_pow_sub_one, show 2 ^ t - 1 - x = 2 ^ t - (x + 1) by omega, Nat.testBit_two_pow_sub_succ hx]
  by_cases h : i < t
  · simp [h]
  · have := Nat.testBit_lt_two_pow (Nat.lt_of_lt_of_le hx (Nat.pow_le_pow_right (by omega) (by omega : t ≤ i)))
    simp [h, this]
theorem nN_eq {k : Int} {a : Nat} (h : a < 2 ^ sh k) : nN k a = 2 ^ sh k - 1 - a := by unfold nN; rw [Nat.mod_eq_of_lt h, xor_mask h]
theorem nN_lt (k : Int) (a : Nat) : nN k a < 2 ^ sh k := by
  have h : a % 2 ^ sh k < 2 ^ sh k := Nat.mod_lt _ (Nat.two_pow_pos _)
  unfold nN; rw [xor_mask h]
  have := Nat.two_pow_pos (sh k)
  omega

variable {k : Int} {a b c : Nat}
theorem sum_comm : aN k a b = aN k b a := by unfold aN; rw [Nat.add_comm]
theorem sum_assoc : aN k (aN k a b) c = aN k a (aN k b c) := by
  rw [aN_mod, aN_mod, aN_mod, aN_mod, Nat.mod_add_mod, Nat.add_mod_mod, Nat.add_assoc]
theorem sub_add (ha : a < 2 ^ sh k) (hb : b < 2 ^ sh k) : aN k (sN k a b) b = a := by
  have := pow_le_BB k
  rw [aN_mod, sN_mod, Nat.mod_add_mod, Nat.add_assoc, Nat.sub_add_cancel (by omega)]
  obtain ⟨q, hq⟩ := dvd_BB k
  rw [hq, Nat.add_mul_mod_self_left, Nat.mod_eq_of_lt ha]
theorem sub_not (hb : b < 2 ^ sh k) : sN k a b = aN k a (aN k (nN k b) 1) := by
  have hp := pow_le_BB k
  have h2 := Nat.two_pow_pos (sh k)
  rw [nN_eq hb, aN_mod, aN_mod, sN_mod, Nat.add_mod_mod]
  obtain ⟨q, hq⟩ := dvd_BB k
  have e : a + (B * B - b) = a + (2 ^ sh k - 1 - b + 1) + 2 ^ sh k * (q - 1) := by
    have : 2 ^ sh k * q = 2 ^ sh k * (q - 1) + 2 ^ sh k := by
      cases q with
      | zero => rw [Nat.mul_zero] at hq; omega
      | succ q => rw [Nat.add_sub_cancel, Nat.mul_succ]
    omega
  rw [e, Nat.add_mul_mod_self_left]
theorem cmp_turn : decide (cmpI a b < 0) = decide (0 < cmpI b a) := by
  unfold cmpI
  by_cases h1 : a < b
  · rw [if_pos h1, if_neg (by omega), if_pos h1]; rfl
  · rw [if_neg h1]
    by_cases h2 : b < a
    · rw [if_pos h2, if_pos h2]; rfl
    · rw [if_neg h2, if_neg h2, if_neg h1]
theorem cat_parts {W j : Nat} (hW : W ≤ 128) (h0 : 0 < j) (hj : j < W) (ha : a < 2 ^ W) :
    ((a / 2 ^ sh (j : Int) % 2 ^ sh ((W : Int) - 1 - j + 1)) * 2 ^ sh (j : Int) % (B * B) % 2 ^ sh 128) ||| ((a / 2 ^ sh 0 % 2 ^ sh ((j : Int) - 1 - 0 + 1)) % 2 ^ sh (j : Int)) = a := by
  have hsj : sh (j : Int) = j := by unfold sh; omega
  have hsd : sh ((W : Int) - 1 - j + 1) = W - j := by unfold sh; omega
  have hs0 : sh 0 = 0 := by unfold sh; omega
  have hsj2 : sh ((j : Int) - 1 - 0 + 1) = j := by unfold sh; omega
  have hs128 : sh 128 = 128 := by unfold sh; omega
  have hd : a / 2 ^ j < 2 ^ (W - j) := by
    rw [Nat.div_lt_iff_lt_mul (Nat.two_pow_pos _), ← Nat.pow_add]
    rwa [show W - j + j = W by omega]
  have hBB : 2 ^ W ≤ B * B := by rw [BB_pow128]; exact Nat.pow_le_pow_right (by omega) hW
  have hmul : a / 2 ^ j * 2 ^ j ≤ a := Nat.div_mul_le_self _ _
  rw [hsj, hsd, hs0, hsj2, hs128, Nat.pow_zero, Nat.div_one, Nat.mod_mod, Nat.mod_eq_of_lt hd, ← BB_pow128, Nat.mod_mod, Nat.mod_eq_of_lt (by omega)]
  rw [← Nat.shiftLeft_eq, ← Nat.shiftLeft_add_eq_or_of_lt (Nat.mod_lt _ (Nat.two_pow_pos j)), Nat.shiftLeft_eq]
  exact Nat.div_add_mod' a (2 ^ j)

end Go.Proofs.YtfalhemeiengcaaDoor
