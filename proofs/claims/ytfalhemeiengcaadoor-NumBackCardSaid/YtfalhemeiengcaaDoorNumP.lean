/-
  Plain arithmetic: a number of 128 bits as two halves of 64; shifts, masks, bits. No program in sight.
-/
import Derived.Laws.BitsAllLaws
import Derived.Laws.Bits64
import Derived.KernelRfl
namespace Go.Proofs.YtfalhemeiengcaaDoor
open Go

/-- 2 to the 64. -/
def B : Nat := 18446744073709551616
theorem B_eq : B = 18446744073709551616 := rfl
theorem B_pow : B = 2 ^ 64 := rfl
theorem B_pos : 0 < B := by unfold B; omega

/-- A number of 128 bits as the program holds it: its high half, its low half. -/
def numV (n : Nat) : Value := .agg #[.int .u64 ((n / B : Nat) : Int), .int .u64 ((n % B : Nat) : Int)]
/-- How far a number is shifted by an amount. -/
def sh (k : Int) : Nat := (max 0 (min k 128)).toNat

theorem sh_le (k : Int) : sh k ≤ 128 := by unfold sh; omega

theorem numV_parts (n : Nat) : ∃ h l : Nat, numV n = .agg #[.int .u64 (h : Int), .int .u64 (l : Int)] ∧ h = n / B ∧ l = n % B := ⟨_, _, rfl, rfl, rfl⟩
theorem numV_mk (h l : Nat) (hl : l < B) : Value.agg #[.int .u64 (h : Int), .int .u64 (l : Int)] = numV (h * B + l) := by
  unfold numV
  have e1 : (h * B + l) / B = h := by rw [Nat.add_comm, Nat.add_mul_div_right _ _ B_pos, Nat.div_eq_of_lt hl, Nat.zero_add]
  have e2 : (h * B + l) % B = l := by rw [Nat.add_comm, Nat.add_mul_mod_self_right, Nat.mod_eq_of_lt hl]
  rw [e1, e2]
theorem numV_inj {a b : Nat} (h : numV a = numV b) : a = b := by
  unfold numV at h
  simp only [Value.agg.injEq, Array.mk.injEq, List.cons.injEq, Value.int.injEq, true_and, and_true] at h
  have h1 : a / B = b / B := by omega
  have h2 : a % B = b % B := by omega
  rw [← Nat.div_add_mod a B, ← Nat.div_add_mod b B, h1, h2]
theorem half_lt {n : Nat} (h : n < B * B) : n / B < B := Nat.div_lt_of_lt_mul h
theorem low_lt (n : Nat) : n % B < B := Nat.mod_lt _ B_pos
theorem parts_eq (n : Nat) : n / B * B + n % B = n := by rw [Nat.mul_comm]; exact Nat.div_add_mod n B

theorem wrap_cast (x : Nat) : IntKind.u64.wrap (x : Int) = ((x % B : Nat) : Int) := by rw [IntKind.wrap_u64]; unfold B; omega

theorem or_cast (a b : Nat) (ha : a < B) (hb : b < B) : bits .or .u64 (a : Int) (b : Int) = ((a ||| b : Nat) : Int) := u64_or_nat a b ha hb
theorem and_cast (a b : Nat) (ha : a < B) (hb : b < B) : bits .and .u64 (a : Int) (b : Int) = ((a &&& b : Nat) : Int) := u64_and_nat a b ha hb
theorem xor_cast (a b : Nat) (ha : a < B) (hb : b < B) : bits .xor .u64 (a : Int) (b : Int) = ((a ^^^ b : Nat) : Int) := u64_xor_nat a b ha hb

theorem two_halves (s : Nat) (h : s ≤ 64) : 2 ^ s * 2 ^ (64 - s) = B := by rw [← Nat.pow_add, B_pow]; congr 1; omega

theorem split_num (h l t u : Nat) (htu : t * u = B) (ht : 0 < t) (hu : 0 < u) (hl : l < B) :
    (h * B + l) / t = (h / t) * B + ((h % t) * u + l / t) ∧ l / t < u ∧ (h % t) * u + l / t < B := by
  have hlt : l / t < u := Nat.div_lt_of_lt_mul (by rw [htu]; exact hl)
  refine ⟨?_, hlt, ?_⟩
  · have e : h * B + l = t * (h * u) + l := by rw [← htu]; congr 1; rw [Nat.mul_left_comm]
    rw [e, Nat.mul_add_div ht]
    have e2 : h * u = (h / t) * B + (h % t) * u := by
      conv => lhs; rw [← Nat.div_add_mod h t]
      rw [Nat.add_mul, ← htu]; congr 1
      rw [Nat.mul_comm t, Nat.mul_assoc]
    rw [e2, Nat.add_assoc]
  · have h1 : h % t < t := Nat.mod_lt _ ht
    have h2 : (h % t + 1) * u ≤ t * u := Nat.mul_le_mul_right u h1
    rw [Nat.add_mul, Nat.one_mul, htu] at h2
    omega

theorem shr_small (h l s : Nat) (hh : h < B) (hl : l < B) (h0 : s < 64) :
    Value.agg #[.int .u64 ((h : Int) / 2 ^ s), .int .u64 (bits .or .u64 ((l : Int) / 2 ^ s) (IntKind.u64.wrap ((h : Int) * 2 ^ (64 - s))))] = numV ((h * B + l) / 2 ^ s) := by
  have htu := two_halves s (by omega)
  have ht : 0 < 2 ^ s := Nat.two_pow_pos s
  have hu : 0 < 2 ^ (64 - s) := Nat.two_pow_pos _
  obtain ⟨e1, e2, e3⟩ := split_num h l (2 ^ s) (2 ^ (64 - s)) htu ht hu hl
  have c1 : (h : Int) / 2 ^ s = ((h / 2 ^ s : Nat) : Int) := by push_cast; rfl
  have c2 : (l : Int) / 2 ^ s = ((l / 2 ^ s : Nat) : Int) := by push_cast; rfl
  have c3 : (h : Int) * 2 ^ (64 - s) = ((h * 2 ^ (64 - s) : Nat) : Int) := by push_cast; rfl
  have hm : h * 2 ^ (64 - s) % B = (h % 2 ^ s) * 2 ^ (64 - s) := by rw [← htu, Nat.mul_mod_mul_right]
  rw [c1, c2, c3, wrap_cast, hm, or_cast _ _ (Nat.lt_of_le_of_lt (Nat.div_le_self _ _) hl) (Nat.lt_of_le_of_lt (Nat.le_add_right _ _) e3), Nat.or_comm, nat_join (64 - s) _ _ (by rw [Nat.mul_mod_left]) e2, numV_mk _ _ e3, e1]

theorem shr_great (h l s : Nat) (hh : h < B) (hl : l < B) (h0 : 64 ≤ s) :
    Value.agg #[.int .u64 0, .int .u64 ((h : Int) / 2 ^ (s - 64))] = numV ((h * B + l) / 2 ^ s) := by
  have c1 : (h : Int) / 2 ^ (s - 64) = ((h / 2 ^ (s - 64) : Nat) : Int) := by push_cast; rfl
  have e : (h * B + l) / 2 ^ s = h / 2 ^ (s - 64) := by
    have : 2 ^ s = B * 2 ^ (s - 64) := by rw [B_pow, ← Nat.pow_add]; congr 1; omega
    rw [this, ← Nat.div_div_eq_div_mul, Nat.add_comm, Nat.add_mul_div_right _ _ B_pos, Nat.div_eq_of_lt hl, Nat.zero_add]
  have h2 := numV_mk 0 (h / 2 ^ (s - 64)) (Nat.lt_of_le_of_lt (Nat.div_le_self _ _) hh)
  rw [c1, e]
  rw [Nat.zero_mul, Nat.zero_add] at h2
  exact h2

theorem shl_small (h l s : Nat) (hh : h < B) (hl : l < B) (h0 : s < 64) :
    Value.agg #[.int .u64 (bits .or .u64 (IntKind.u64.wrap ((h : Int) * 2 ^ s)) ((l : Int) / 2 ^ (64 - s))), .int .u64 (IntKind.u64.wrap ((l : Int) * 2 ^ s))] = numV ((h * B + l) * 2 ^ s % (B * B)) := by
  have htu := two_halves s (by omega)
  have ht : 0 < 2 ^ s := Nat.two_pow_pos s
  have hu : 0 < 2 ^ (64 - s) := Nat.two_pow_pos _
  have c1 : (h : Int) * 2 ^ s = ((h * 2 ^ s : Nat) : Int) := by push_cast; rfl
  have c2 : (l : Int) * 2 ^ s = ((l * 2 ^ s : Nat) : Int) := by push_cast; rfl
  have c3 : (l : Int) / 2 ^ (64 - s) = ((l / 2 ^ (64 - s) : Nat) : Int) := by push_cast; rfl
  have hlt : l / 2 ^ (64 - s) < 2 ^ s := Nat.div_lt_of_lt_mul (by rw [Nat.mul_comm, htu]; exact hl)
  have hm : h * 2 ^ s % B = (h % 2 ^ (64 - s)) * 2 ^ s := by rw [← htu, Nat.mul_comm (2 ^ s) (2 ^ (64 - s)), Nat.mul_mod_mul_right]
  have hm2 : l * 2 ^ s = (l / 2 ^ (64 - s)) * B + (l % 2 ^ (64 - s)) * 2 ^ s := by
    conv => lhs; rw [← Nat.div_add_mod l (2 ^ (64 - s))]
    rw [Nat.add_mul, ← htu]; congr 1
    rw [Nat.mul_comm (2 ^ (64 - s)), Nat.mul_assoc, Nat.mul_comm (2 ^ (64 - s))]
  have hx : (l % 2 ^ (64 - s)) * 2 ^ s < B := by
    have h1 : l % 2 ^ (64 - s) < 2 ^ (64 - s) := Nat.mod_lt _ hu
    have h2 : (l % 2 ^ (64 - s) + 1) * 2 ^ s ≤ 2 ^ (64 - s) * 2 ^ s := Nat.mul_le_mul_right _ h1
    rw [Nat.add_mul, Nat.one_mul, Nat.mul_comm (2 ^ (64 - s)), htu] at h2
    omega
  have hm3 : l * 2 ^ s % B = (l % 2 ^ (64 - s)) * 2 ^ s := by rw [hm2, Nat.add_comm, Nat.add_mul_mod_self_right, Nat.mod_eq_of_lt hx]
  have hy : (h % 2 ^ (64 - s)) * 2 ^ s + l / 2 ^ (64 - s) < B := by
    have h1 : h % 2 ^ (64 - s) < 2 ^ (64 - s) := Nat.mod_lt _ hu
    have h2 : (h % 2 ^ (64 - s) + 1) * 2 ^ s ≤ 2 ^ (64 - s) * 2 ^ s := Nat.mul_le_mul_right _ h1
    rw [Nat.add_mul, Nat.one_mul, Nat.mul_comm (2 ^ (64 - s)), htu] at h2
    omega
  have hz : h * 2 ^ s = (h / 2 ^ (64 - s)) * B + (h % 2 ^ (64 - s)) * 2 ^ s := by
    conv => lhs; rw [← Nat.div_add_mod h (2 ^ (64 - s))]
    rw [Nat.add_mul, ← htu]; congr 1
    rw [Nat.mul_comm (2 ^ (64 - s)), Nat.mul_assoc, Nat.mul_comm (2 ^ (64 - s))]
  have he : (h * B + l) * 2 ^ s % (B * B) = ((h % 2 ^ (64 - s)) * 2 ^ s + l / 2 ^ (64 - s)) * B + (l % 2 ^ (64 - s)) * 2 ^ s := by
    have e1 : (h * B + l) * 2 ^ s = (h / 2 ^ (64 - s)) * (B * B) + (((h % 2 ^ (64 - s)) * 2 ^ s + l / 2 ^ (64 - s)) * B + (l % 2 ^ (64 - s)) * 2 ^ s) := by
      rw [Nat.add_mul, hm2, Nat.mul_assoc, Nat.mul_comm B, ← Nat.mul_assoc, hz]
      simp only [Nat.add_mul, Nat.mul_assoc, Nat.add_assoc]
    have e2 : ((h % 2 ^ (64 - s)) * 2 ^ s + l / 2 ^ (64 - s)) * B + (l % 2 ^ (64 - s)) * 2 ^ s < B * B := by
      have h2 : ((h % 2 ^ (64 - s)) * 2 ^ s + l / 2 ^ (64 - s) + 1) * B ≤ B * B := Nat.mul_le_mul_right _ hy
      rw [Nat.add_mul _ 1, Nat.one_mul] at h2
      omega
    rw [e1, Nat.add_comm, Nat.add_mul_mod_self_right, Nat.mod_eq_of_lt e2]
  rw [c1, c2, c3, wrap_cast, wrap_cast, hm, hm3, or_cast _ _ (Nat.lt_of_le_of_lt (Nat.le_add_right _ _) hy) (Nat.lt_of_le_of_lt (Nat.div_le_self _ _) hl), nat_join s _ _ (by rw [Nat.mul_mod_left]) hlt, numV_mk _ _ hx, he]

theorem shl_great (h l s : Nat) (hh : h < B) (hl : l < B) (h0 : 64 ≤ s) :
    Value.agg #[.int .u64 (IntKind.u64.wrap ((l : Int) * 2 ^ (s - 64))), .int .u64 0] = numV ((h * B + l) * 2 ^ s % (B * B)) := by
  have c1 : (l : Int) * 2 ^ (s - 64) = ((l * 2 ^ (s - 64) : Nat) : Int) := by push_cast; rfl
  have hs : 2 ^ s = 2 ^ (s - 64) * B := by rw [B_pow, ← Nat.pow_add]; congr 1; omega
  have e : (h * B + l) * 2 ^ s % (B * B) = (l * 2 ^ (s - 64) % B) * B := by
    have e0 : (h * B + l) * 2 ^ (s - 64) % B = l * 2 ^ (s - 64) % B := by
      rw [Nat.add_mul, Nat.mul_right_comm, Nat.add_comm, Nat.add_mul_mod_self_right]
    rw [hs, ← Nat.mul_assoc, Nat.mul_mod_mul_right, e0]
  have h2 := numV_mk (l * 2 ^ (s - 64) % B) 0 B_pos
  rw [Nat.add_zero, ← e] at h2
  rw [c1, wrap_cast]
  exact h2

theorem or_num (a b : Nat) (ha : a < B * B) (hb : b < B * B) :
    Value.agg #[.int .u64 (bits .or .u64 ((a / B : Nat) : Int) ((b / B : Nat) : Int)), .int .u64 (bits .or .u64 ((a % B : Nat) : Int) ((b % B : Nat) : Int))] = numV (a ||| b) := by
  rw [or_cast _ _ (half_lt ha) (half_lt hb), or_cast _ _ (low_lt _) (low_lt _)]
  unfold numV
  rw [B_pow, Nat.or_div_two_pow, Nat.or_mod_two_pow]
theorem and_num (a b : Nat) (ha : a < B * B) (hb : b < B * B) :
    Value.agg #[.int .u64 (bits .and .u64 ((a / B : Nat) : Int) ((b / B : Nat) : Int)), .int .u64 (bits .and .u64 ((a % B : Nat) : Int) ((b % B : Nat) : Int))] = numV (a &&& b) := by
  rw [and_cast _ _ (half_lt ha) (half_lt hb), and_cast _ _ (low_lt _) (low_lt _)]
  unfold numV
  rw [B_pow, Nat.and_div_two_pow, Nat.and_mod_two_pow]
theorem xor_num (a b : Nat) (ha : a < B * B) (hb : b < B * B) :
    Value.agg #[.int .u64 (bits .xor .u64 ((a / B : Nat) : Int) ((b / B : Nat) : Int)), .int .u64 (bits .xor .u64 ((a % B : Nat) : Int) ((b % B : Nat) : Int))] = numV (a ^^^ b) := by
  rw [xor_cast _ _ (half_lt ha) (half_lt hb), xor_cast _ _ (low_lt _) (low_lt _)]
  unfold numV
  rw [B_pow, Nat.xor_div_two_pow, Nat.xor_mod_two_pow]

end Go.Proofs.YtfalhemeiengcaaDoor
