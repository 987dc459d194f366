/-
  Contract of num.times.
-/
import Derived.Test.YtfalhemeiengcaaDoorNumMore2
import Derived.Test.YtfalhemeiengcaaDoorShelfN
namespace Go.Proofs.YtfalhemeiengcaaDoor
open Go.RowKit

theorem times_parts {n y a high lo over hi lo2 c hi2 more : Nat} (hn : n < B * B) (hhigh : high = n % B * y / B) (hlo : lo = n % B * y % B) (hover : over = n / B * y / B) (hhi : hi = n / B * y % B)
    (hlo2 : lo2 = (lo + a + 0) % B) (hc : c = (lo + a + 0) / B) (hhi2 : hi2 = (hi + high + c) % B) (hmore : more = (hi + high + c) / B) (ha : a < B) :
    hi2 * B + lo2 = (n * y + a) % (B * B) ∧ lo2 < B ∧ c ≤ 1 ∧ (n * y + a < B * B ↔ over = 0 ∧ more = 0) := by
  have hB := B_pos
  have e0 : n = n / B * B + n % B := (Nat.div_add_mod' n B).symm
  have e1 : n % B * y = high * B + lo := by rw [hhigh, hlo]; exact (Nat.div_add_mod' _ B).symm
  have e2 : n / B * y = over * B + hi := by rw [hover, hhi]; exact (Nat.div_add_mod' _ B).symm
  have e3 : lo + a = c * B + lo2 := by rw [hc, hlo2]; exact (Nat.div_add_mod' _ B).symm
  have e4 : hi + high + c = more * B + hi2 := by rw [hmore, hhi2]; exact (Nat.div_add_mod' _ B).symm
  have l1 : lo2 < B := by rw [hlo2]; exact Nat.mod_lt _ hB
  have l2 : hi2 < B := by rw [hhi2]; exact Nat.mod_lt _ hB
  have l3 : lo < B := by rw [hlo]; exact Nat.mod_lt _ hB
  have lc : c ≤ 1 := by
    have : c * B < 2 * B := by omega
    have := Nat.lt_of_mul_lt_mul_right this
    omega
  have key : n * y + a = (over + more) * (B * B) + (hi2 * B + lo2) := by
    have s1 : n * y = (n / B * y) * B + n % B * y := by
      conv => lhs; rw [e0]
      rw [Nat.add_mul, Nat.mul_right_comm]
    have s2 : n * y + a = (over * B + hi) * B + high * B + (c * B + lo2) := by rw [s1, e2, e1]; omega
    have s3 : (over * B + hi) * B + high * B + (c * B + lo2) = over * (B * B) + (hi + high + c) * B + lo2 := by
      simp only [Nat.add_mul, Nat.mul_assoc]; omega
    rw [s2, s3, e4]
    simp only [Nat.add_mul, Nat.mul_assoc]; omega
  have lt : hi2 * B + lo2 < B * B := by
    have : hi2 * B ≤ (B - 1) * B := Nat.mul_le_mul_right _ (by omega)
    have e2 : (B - 1) * B = B * B - B := by rw [Nat.sub_mul, Nat.one_mul]
    have e3 : B ≤ B * B := Nat.le_mul_of_pos_left _ hB
    omega
  refine ⟨?_, l1, lc, ?_⟩
  · rw [key, Nat.mul_comm (over + more), Nat.mul_add_mod, Nat.mod_eq_of_lt lt]
  · rw [key]
    constructor
    · intro h
      by_cases q : over + more = 0
      · omega
      · have : 1 * (B * B) ≤ (over + more) * (B * B) := Nat.mul_le_mul_right _ (by omega)
        omega
    · intro ⟨h1, h2⟩
      rw [h1, h2]; omega

def timesV (n y a : Nat) : Value := .tuple #[numV ((n * y + a) % (B * B)), .bool (decide (n * y + a < B * B))]

set_option maxRecDepth 100000 in
set_option maxHeartbeats 1000000 in
theorem times_any (n y a : Nat) (w : World) (hn : n < B * B) (hy : y < B) (ha : a < B) : Calls Tryd.prog 46 #[numV n, .int .u64 (y : Int), .int .u64 (a : Int)] w fun e w' => e = .returned (timesV n y a) ∧ Below w.heap.size w w' := by
  obtain ⟨high, hhigh⟩ : ∃ x, x = n % B * y / B := ⟨_, rfl⟩
  obtain ⟨lo, hlo⟩ : ∃ x, x = n % B * y % B := ⟨_, rfl⟩
  obtain ⟨over, hover⟩ : ∃ x, x = n / B * y / B := ⟨_, rfl⟩
  obtain ⟨hi, hhi⟩ : ∃ x, x = n / B * y % B := ⟨_, rfl⟩
  obtain ⟨lo2, hlo2⟩ : ∃ x, x = (lo + a + 0) % B := ⟨_, rfl⟩
  obtain ⟨c, hc⟩ : ∃ x, x = (lo + a + 0) / B := ⟨_, rfl⟩
  obtain ⟨hi2, hhi2⟩ : ∃ x, x = (hi + high + c) % B := ⟨_, rfl⟩
  obtain ⟨more, hmore⟩ : ∃ x, x = (hi + high + c) / B := ⟨_, rfl⟩
  obtain ⟨k1, k2, k3, k4⟩ := times_parts hn hhigh hlo hover hhi hlo2 hc hhi2 hmore ha
  have M1 : Hid (∀ W, Calls Tryd.prog 74 #[.int .u64 ((n % B : Nat) : Int), .int .u64 (y : Int)] W fun e w' => e = .returned (.tuple #[.int .u64 (high : Int), .int .u64 (lo : Int)]) ∧ w' = W) := fun W => by
    have := Tryd.bits_Mul64 (n % B) y (Nat.mod_lt _ B_pos) hy W
    rw [hhigh, hlo]; exact this
  have M2 : Hid (∀ W, Calls Tryd.prog 74 #[.int .u64 ((n / B : Nat) : Int), .int .u64 (y : Int)] W fun e w' => e = .returned (.tuple #[.int .u64 (over : Int), .int .u64 (hi : Int)]) ∧ w' = W) := fun W => by
    have := Tryd.bits_Mul64 (n / B) y (Nat.div_lt_of_lt_mul hn) hy W
    rw [hover, hhi]; exact this
  have h1 : ∀ W, (callFunc 49 #[.int .u64 (lo : Int), .int .u64 (a : Int), .int .u64 0]).run Tryd.prog W = .ok (.value (.tuple #[.int .u64 (lo2 : Int), .int .u64 (c : Int)])) W := fun W => by
    rw [hlo2, hc]; exact add64_call _ _ 0 (by omega) W
  have h2 : ∀ W, (callFunc 49 #[.int .u64 (hi : Int), .int .u64 (high : Int), .int .u64 (c : Int)]).run Tryd.prog W = .ok (.value (.tuple #[.int .u64 (hi2 : Int), .int .u64 (more : Int)])) W := fun W => by
    rw [hhi2, hmore]; exact add64_call _ _ c k3 W
  have hv := numV_mk hi2 lo2 k2
  rw [k1] at hv
  have HV : Hid (timesV n y a = .tuple #[.agg #[.int .u64 (hi2 : Int), .int .u64 (lo2 : Int)], .bool (decide (over = 0 ∧ more = 0))]) := by
    show _ = _
    unfold timesV
    rw [← hv, decide_eq_decide.2 k4]
  obtain ⟨ah, al, hea, qa, qb⟩ := numV_parts n
  rw [← qb] at M1
  rw [← qa] at M2
  rw [hea]
  clear hhigh hlo hover hhi hlo2 hc hhi2 hmore k1 k2 k3 k4 hv hea qa qb hn hy ha
  by_cases ho : over = 0
  · by_cases hm : more = 0
    · have hd : decide (over = 0 ∧ more = 0) = true := decide_eq_true ⟨ho, hm⟩
      rw [hd] at HV
      clear hd
      subst ho
      subst hm
      go_enter Tryd.func46, Tryd.ntmps46
      go_wp2_with (first
        | simp only [h1]
        | simp only [h2]
        | (go_at_call 74; (with_reducible refine (M1.out _).mono ?_); rintro e w1 ⟨rfl, rfl⟩)
        | (go_at_call 74; (with_reducible refine (M2.out _).mono ?_); rintro e w1 ⟨rfl, rfl⟩))
      exact bodyPost_ret (v := .tuple #[.agg #[.int .u64 (hi2 : Int), .int .u64 (lo2 : Int)], .bool true]) (by simp [results, Tryd.results46, go_sem]) rfl ⟨by rw [HV.out], (by repeat (first | exact Below.refl _ _ | assumption | refine Below.drew ?_ | refine Below.alloc ?_ (by first | omega | (simp <;> omega)) _ | refine Below.setCell ?_ (by first | omega | (simp <;> omega)) _ | refine Below.trans ?_ (Below.mono (by assumption) (by first | omega | (simp <;> omega)))))⟩
    · have hd : decide (over = 0 ∧ more = 0) = false := decide_eq_false fun h => hm h.2
      rw [hd] at HV
      have hmi : ¬ (more : Int) = 0 := by omega
      clear hd
      subst ho
      go_enter Tryd.func46, Tryd.ntmps46
      go_wp2_with (first
        | simp only [h1]
        | simp only [h2]
        | (go_at_call 74; (with_reducible refine (M1.out _).mono ?_); rintro e w1 ⟨rfl, rfl⟩)
        | (go_at_call 74; (with_reducible refine (M2.out _).mono ?_); rintro e w1 ⟨rfl, rfl⟩))
      exact bodyPost_ret (v := .tuple #[.agg #[.int .u64 (hi2 : Int), .int .u64 (lo2 : Int)], .bool false]) (by simp [results, Tryd.results46, go_sem, hm]) rfl ⟨by rw [HV.out], (by repeat (first | exact Below.refl _ _ | assumption | refine Below.drew ?_ | refine Below.alloc ?_ (by first | omega | (simp <;> omega)) _ | refine Below.setCell ?_ (by first | omega | (simp <;> omega)) _ | refine Below.trans ?_ (Below.mono (by assumption) (by first | omega | (simp <;> omega)))))⟩
  · have hd : decide (over = 0 ∧ more = 0) = false := decide_eq_false fun h => ho h.1
    rw [hd] at HV
    have hoi : ¬ (over : Int) = 0 := by omega
    clear hd ho
    go_enter Tryd.func46, Tryd.ntmps46
    go_wp2_with (first
      | simp only [h1]
      | simp only [h2]
      | (go_at_call 74; (with_reducible refine (M1.out _).mono ?_); rintro e w1 ⟨rfl, rfl⟩)
      | (go_at_call 74; (with_reducible refine (M2.out _).mono ?_); rintro e w1 ⟨rfl, rfl⟩))
    exact bodyPost_ret (v := .tuple #[.agg #[.int .u64 (hi2 : Int), .int .u64 (lo2 : Int)], .bool false]) (by simp [results, Tryd.results46, go_sem]) rfl ⟨by rw [HV.out], (by repeat (first | exact Below.refl _ _ | assumption | refine Below.drew ?_ | refine Below.alloc ?_ (by first | omega | (simp <;> omega)) _ | refine Below.setCell ?_ (by first | omega | (simp <;> omega)) _ | refine Below.trans ?_ (Below.mono (by assumption) (by first | omega | (simp <;> omega)))))⟩

end Go.Proofs.YtfalhemeiengcaaDoor
