/-
  Contracts of num.Shr, Mask, Cut, Shl, Bit.
-/
import Derived.Test.YtfalhemeiengcaaDoorNum
namespace Go.Proofs.YtfalhemeiengcaaDoor
open Go.RowKit

theorem numOf_val (n : Nat) (hn : n < B) : Value.agg #[.int .u64 0, .int .u64 (n : Int)] = numV n := by
  have he := numV_mk 0 n hn
  rw [Nat.zero_mul, Nat.zero_add] at he
  exact he

set_option maxRecDepth 100000 in
set_option maxHeartbeats 400000 in
theorem numOf_any (n : Nat) (hn : n < B) (w : World) :
    Calls Tryd.prog 15 #[.int .u64 (n : Int)] w (RetNum w n) := by
  have H := Lib.hid (numOf_val n hn); clear hn
  go_enter Tryd.func15, Tryd.ntmps15
  go_wp2
  exact bodyPost_ret (v := .agg #[.int .u64 0, .int .u64 (n : Int)]) (by simp [results, Tryd.results15, go_sem]) rfl ⟨by rw [H.out], (by repeat (first | exact Below.refl _ _ | assumption | refine Below.drew ?_ | refine Below.alloc ?_ (by first | omega | (simp <;> omega)) _ | refine Below.setCell ?_ (by first | omega | (simp <;> omega)) _ | refine Below.trans ?_ (Below.mono (by assumption) (by first | omega | (simp <;> omega)))))⟩

theorem shr_val (n s : Nat) (hn : n < B * B) : (s < 64 → ∀ h l : Nat, h = n / B → l = n % B → Value.agg #[.int .u64 ((h : Int) / 2 ^ s), .int .u64 (bits .or .u64 ((l : Int) / 2 ^ s) (IntKind.u64.wrap ((h : Int) * 2 ^ (64 - s))))] = numV (n / 2 ^ s)) ∧
    (64 ≤ s → ∀ h l : Nat, h = n / B → l = n % B → Value.agg #[.int .u64 0, .int .u64 ((h : Int) / 2 ^ (s - 64))] = numV (n / 2 ^ s)) := by
  refine ⟨fun hs h l e1 e2 => ?_, fun hs h l e1 e2 => ?_⟩
  · subst e1 e2; rw [shr_small _ _ _ (half_lt hn) (low_lt _) hs, parts_eq]
  · subst e1 e2; rw [shr_great _ (n % B) _ (half_lt hn) (low_lt _) hs, parts_eq]

set_option maxRecDepth 100000 in
set_option maxHeartbeats 400000 in
theorem numShr_any (n : Nat) (k : Int) (w : World) (hn : n < B * B) :
    Calls Tryd.prog 37 #[numV n, .int .i64 k] w (RetNum w (n / 2 ^ sh k)) := by
  have HV := Lib.hid (shr_val n (sh k) hn)
  obtain ⟨y, z, he, hh, hl⟩ := numV_parts n
  have HH : Hid (y = n / B ∧ z = n % B) := ⟨hh, hl⟩
  rw [he]
  clear he hh hl hn
  rcases Int.lt_or_le 0 k with h0 | h0
  · obtain ⟨s, rfl⟩ := Int.eq_ofNat_of_zero_le (Int.le_of_lt h0)
    have h0' : 0 < s := by omega
    clear h0
    rcases Nat.lt_or_ge s 64 with h1 | h1
    · have HS : Hid (sh (s : Int) = s) := by show _ = _; unfold sh; omega
      go_enter Tryd.func37, Tryd.ntmps37
      go_wp2
      exact bodyPost_ret (v := .agg #[.int .u64 ((y : Int) / 2 ^ s), .int .u64 (bits .or .u64 ((z : Int) / 2 ^ s) (IntKind.u64.wrap ((y : Int) * 2 ^ (64 - s))))]) (by simp [results, Tryd.results37, go_sem]) rfl ⟨by rw [HS.out] at HV ⊢; rw [HV.out.1 h1 y z HH.out.1 HH.out.2], (by repeat (first | exact Below.refl _ _ | assumption | refine Below.drew ?_ | refine Below.alloc ?_ (by first | omega | (simp <;> omega)) _ | refine Below.setCell ?_ (by first | omega | (simp <;> omega)) _ | refine Below.trans ?_ (Below.mono (by assumption) (by first | omega | (simp <;> omega)))))⟩
    · rcases Nat.lt_or_ge s 129 with h2 | h2
      · have HS : Hid (sh (s : Int) = s) := by show _ = _; unfold sh; omega
        by_cases h3 : s = 128
        · subst h3
          go_enter Tryd.func37, Tryd.ntmps37
          go_wp2
          exact bodyPost_ret (v := .agg #[.int .u64 0, .int .u64 ((y : Int) / 18446744073709551616)]) (by simp [results, Tryd.results37, go_sem]) rfl ⟨by rw [HS.out] at HV ⊢; rw [← HV.out.2 h1 y z HH.out.1 HH.out.2]; simp, (by repeat (first | exact Below.refl _ _ | assumption | refine Below.drew ?_ | refine Below.alloc ?_ (by first | omega | (simp <;> omega)) _ | refine Below.setCell ?_ (by first | omega | (simp <;> omega)) _ | refine Below.trans ?_ (Below.mono (by assumption) (by first | omega | (simp <;> omega)))))⟩
        · have h4 : s < 128 := by omega
          clear h3 h2
          go_enter Tryd.func37, Tryd.ntmps37
          go_wp2
          exact bodyPost_ret (v := .agg #[.int .u64 0, .int .u64 ((y : Int) / 2 ^ (s - 64))]) (by simp [results, Tryd.results37, go_sem]) rfl ⟨by rw [HS.out] at HV ⊢; rw [HV.out.2 h1 y z HH.out.1 HH.out.2], (by repeat (first | exact Below.refl _ _ | assumption | refine Below.drew ?_ | refine Below.alloc ?_ (by first | omega | (simp <;> omega)) _ | refine Below.setCell ?_ (by first | omega | (simp <;> omega)) _ | refine Below.trans ?_ (Below.mono (by assumption) (by first | omega | (simp <;> omega)))))⟩
      · have HS : Hid (sh (s : Int) = 128) := by show _ = _; unfold sh; omega
        go_enter Tryd.func37, Tryd.ntmps37
        go_wp2
        exact bodyPost_ret (v := .agg #[.int .u64 0, .int .u64 ((y : Int) / 18446744073709551616)]) (by simp [results, Tryd.results37, go_sem]) rfl ⟨by rw [HS.out] at HV ⊢; rw [← HV.out.2 (by omega) y z HH.out.1 HH.out.2]; simp, (by repeat (first | exact Below.refl _ _ | assumption | refine Below.drew ?_ | refine Below.alloc ?_ (by first | omega | (simp <;> omega)) _ | refine Below.setCell ?_ (by first | omega | (simp <;> omega)) _ | refine Below.trans ?_ (Below.mono (by assumption) (by first | omega | (simp <;> omega)))))⟩
  · have HS : Hid (sh k = 0) := by show _ = _; unfold sh; omega
    go_enter Tryd.func37, Tryd.ntmps37
    go_wp2
    all_goals exact bodyPost_ret (v := .agg #[.int .u64 (y : Int), .int .u64 (bits .or .u64 (z : Int) (IntKind.u64.wrap ((y : Int) * 18446744073709551616)))]) (by simp [results, Tryd.results37, go_sem]) rfl ⟨by rw [HS.out] at HV ⊢; rw [← HV.out.1 (by omega) y z HH.out.1 HH.out.2]; simp, (by repeat (first | exact Below.refl _ _ | assumption | refine Below.drew ?_ | refine Below.alloc ?_ (by first | omega | (simp <;> omega)) _ | refine Below.setCell ?_ (by first | omega | (simp <;> omega)) _ | refine Below.trans ?_ (Below.mono (by assumption) (by first | omega | (simp <;> omega)))))⟩

theorem ones_val : Value.agg #[.int .u64 18446744073709551615, .int .u64 18446744073709551615] = numV (B * B - 1) := by kernel_rfl
theorem BB_pow : B * B = 2 ^ 128 := by rw [B_pow, ← Nat.pow_add]
theorem ones_div (t : Nat) (h : t ≤ 128) : (B * B - 1) / 2 ^ (128 - t) = 2 ^ t - 1 := by
  have h1 : B * B = 2 ^ t * 2 ^ (128 - t) := by rw [BB_pow, ← Nat.pow_add]; congr 1; omega
  have h2 : 0 < 2 ^ (128 - t) := Nat.two_pow_pos _
  have h3 : 0 < 2 ^ t := Nat.two_pow_pos _
  apply Nat.div_eq_of_lt_le
  · rw [Nat.sub_mul, h1]; omega
  · rw [h1, Nat.sub_add_cancel h3]
    have : 0 < 2 ^ t * 2 ^ (128 - t) := Nat.mul_pos h3 h2
    omega
theorem mask_lt (w : Int) : 2 ^ sh w - 1 < B * B := by
  have h1 : 2 ^ sh w ≤ 2 ^ 128 := Nat.pow_le_pow_right (by omega) (sh_le w)
  have h2 : 0 < 2 ^ sh w := Nat.two_pow_pos _
  rw [BB_pow]; omega

set_option maxRecDepth 100000 in
set_option maxHeartbeats 400000 in
theorem numMask_any (k : Int) (w : World) : Calls Tryd.prog 21 #[.int .i64 k] w (RetNum w (2 ^ sh k - 1)) := by
  by_cases h0 : k < 1
  · have HS : Hid (sh k = 0) := by show _ = _; unfold sh; omega
    go_enter Tryd.func21, Tryd.ntmps21
    go_wp2_with fail
    exact bodyPost_ret (v := .agg #[.int .u64 0, .int .u64 0]) (by simp [results, Tryd.results21, go_sem]) rfl ⟨by rw [HS.out]; rfl, (by repeat (first | exact Below.refl _ _ | assumption | refine Below.drew ?_ | refine Below.alloc ?_ (by first | omega | (simp <;> omega)) _ | refine Below.setCell ?_ (by first | omega | (simp <;> omega)) _ | refine Below.trans ?_ (Below.mono (by assumption) (by first | omega | (simp <;> omega)))))⟩
  · have HS : ∀ j : Int, (128 < k → j = 0) → (k ≤ 128 → j = 128 - k) → Hid ((B * B - 1) / 2 ^ sh j = 2 ^ sh k - 1) := by
      intro j h1 h2
      show _ = _
      rw [← ones_div _ (sh_le k)]
      have : sh j = 128 - sh k := by unfold sh; omega
      rw [this]
    have HL : Hid (B * B - 1 < B * B) := by show _ < _; unfold B; omega
    have HO := Lib.hid ones_val
    go_enter Tryd.func21, Tryd.ntmps21
    go_wp2_with fail
    all_goals
      rw [HO.out]
      refine (numShr_any _ _ _ HL.out).mono ?_
      rintro e w1 ⟨rfl, hb⟩
      obtain ⟨hc, hf⟩ := bcell hb
      have hz := hb.size
      simp at hz
      obtain ⟨y, z, he, -, -⟩ := numV_parts ((B * B - 1) / 2 ^ sh _)
      have HE := Lib.hid he
      rw [he]
      clear he
      go_wp2_with fail
      have L2 : w.heap.size < w.heap.size + 1 + 1 := by omega
      exact bodyPost_ret (v := .agg #[.int .u64 (y : Int), .int .u64 (z : Int)]) (by simp [results, Tryd.results21, go_sem, hc, hf, hz, L2]) rfl ⟨by rw [← HE.out]; rw [(HS _ (by intro; omega) (by intro; omega)).out], (by repeat (first | exact Below.refl _ _ | assumption | refine Below.drew ?_ | refine Below.alloc ?_ (by first | omega | (simp <;> omega)) _ | refine Below.setCell ?_ (by first | omega | (simp <;> omega)) _ | refine Below.trans ?_ (Below.mono (by assumption) (by first | omega | (simp <;> omega)))))⟩

set_option maxRecDepth 100000 in
set_option maxHeartbeats 400000 in
theorem numCut_any (n : Nat) (k : Int) (w : World) (hn : n < B * B) : Calls Tryd.prog 11 #[numV n, .int .i64 k] w (RetNum w (n % 2 ^ sh k)) := by
  have HV : Hid (n &&& (2 ^ sh k - 1) = n % 2 ^ sh k) := Nat.and_two_pow_sub_one_eq_mod n (sh k)
  have HB := Lib.hid (and_num n (2 ^ sh k - 1) hn (mask_lt k))
  obtain ⟨y, z, he, hy, hz0⟩ := numV_parts n
  obtain ⟨u, v, hm, hu, hv⟩ := numV_parts (2 ^ sh k - 1)
  rw [← hy, ← hz0, ← hu, ← hv] at HB
  have HM := Lib.hid hm
  rw [he]
  clear he hy hz0 hm hu hv
  go_enter Tryd.func11, Tryd.ntmps11
  go_wp2_with fail
  go_region_with (first
    | (go_at_call 21; refine (numMask_any _ _).mono ?_; rintro e w1 ⟨rfl, hb⟩; rw [HM.out]; obtain ⟨hc, hf⟩ := bcell hb; have hz := hb.size; simp at hz; have L1 : w.heap.size + 1 < w1.heap.size := by omega)
    | (go_at_call 26; refine (and_any _ _ _ _ _).mono ?_; rintro e w2 ⟨rfl, hb2⟩; obtain ⟨hc2, hf2⟩ := bcell hb2; have hz2 := hb2.size))
  all_goals go_wp2_with fail
  all_goals exact bodyPost_ret (v := .agg #[.int .u64 (bits .and .u64 (y : Int) (u : Int)), .int .u64 (bits .and .u64 (z : Int) (v : Int))]) (by simp [results, Tryd.results11, go_sem, hc, hf, hc2, hf2, L1]) rfl ⟨by rw [HB.out, HV.out], (by repeat (first | exact Below.refl _ _ | assumption | refine Below.drew ?_ | refine Below.alloc ?_ (by first | omega | (simp <;> omega)) _ | refine Below.setCell ?_ (by first | omega | (simp <;> omega)) _ | refine Below.trans ?_ (Below.mono (by assumption) (by first | omega | (simp <;> omega)))))⟩

set_option maxRecDepth 100000 in
set_option maxHeartbeats 400000 in
theorem numShl_any (n : Nat) (k j : Int) (w : World) (hn : n < B * B) : Calls Tryd.prog 35 #[numV n, .int .i64 k, .int .i64 j] w (RetNum w (n * 2 ^ sh k % (B * B) % 2 ^ sh j)) := by
  have HC : Hid (n * 2 ^ sh k % (B * B) < B * B) := Nat.mod_lt _ (by unfold B; omega)
  have HV1 : sh k < 64 → ∀ y z : Nat, y = n / B → z = n % B → Value.agg #[.int .u64 (bits .or .u64 (IntKind.u64.wrap ((y : Int) * 2 ^ sh k)) ((z : Int) / 2 ^ (64 - sh k))), .int .u64 (IntKind.u64.wrap ((z : Int) * 2 ^ sh k))] = numV (n * 2 ^ sh k % (B * B)) := by
    intro hs y z e1 e2
    subst e1 e2; rw [shl_small _ _ _ (half_lt hn) (low_lt _) hs, parts_eq]
  have HV2 : 64 ≤ sh k → ∀ z : Nat, z = n % B → Value.agg #[.int .u64 (IntKind.u64.wrap ((z : Int) * 2 ^ (sh k - 64))), .int .u64 0] = numV (n * 2 ^ sh k % (B * B)) := by
    intro hs z e2
    subst e2; rw [shl_great _ (n % B) _ (half_lt hn) (low_lt _) hs, parts_eq]
  have HA := Lib.hid HV1; clear HV1
  have HB := Lib.hid HV2; clear HV2
  obtain ⟨y, z, he, hy, hz0⟩ := numV_parts n
  have HH : Hid (y = n / B ∧ z = n % B) := ⟨hy, hz0⟩
  rw [he]
  clear he hy hz0 hn
  rcases Int.lt_or_le 0 k with h0 | h0
  · obtain ⟨s, rfl⟩ := Int.eq_ofNat_of_zero_le (Int.le_of_lt h0)
    have h0' : 0 < s := by omega
    clear h0
    rcases Nat.lt_or_ge s 64 with h1 | h1
    · have HS : Hid (sh (s : Int) = s) := by show _ = _; unfold sh; omega
      have HE : Hid (Value.agg #[.int .u64 (bits .or .u64 (IntKind.u64.wrap ((y : Int) * 2 ^ s)) ((z : Int) / 2 ^ (64 - s))), .int .u64 (IntKind.u64.wrap ((z : Int) * 2 ^ s))] = numV (n * 2 ^ sh (s : Int) % (B * B))) := by
        show _ = _
        rw [← HA.out (by rw [HS.out]; exact h1) y z HH.out.1 HH.out.2, HS.out]
      go_enter Tryd.func35, Tryd.ntmps35
      go_wp2_with (go_at_call 59; go_in)
      rw [HE.out]
      refine (numCut_any _ _ _ HC.out).mono ?_
      rintro e w1 ⟨rfl, hb⟩
      obtain ⟨hc, hf⟩ := bcell hb
      have hz := hb.size
      simp at hz
      have L1 : w.heap.size + 1 < w1.heap.size := by omega
      obtain ⟨u, v, hm, -, -⟩ := numV_parts (n * 2 ^ sh _ % (B * B) % 2 ^ sh j)
      have HM := Lib.hid hm
      rw [hm]
      clear hm
      go_wp2_with fail
      exact bodyPost_ret (v := .agg #[.int .u64 (u : Int), .int .u64 (v : Int)]) (by simp [results, Tryd.results35, go_sem, hc, hf]) rfl ⟨by rw [← HM.out], (by repeat (first | exact Below.refl _ _ | assumption | refine Below.drew ?_ | refine Below.alloc ?_ (by first | omega | (simp <;> omega)) _ | refine Below.setCell ?_ (by first | omega | (simp <;> omega)) _ | refine Below.trans ?_ (Below.mono (by assumption) (by first | omega | (simp <;> omega)))))⟩
    · rcases Nat.lt_or_ge s 128 with h2 | h2
      · have HS : Hid (sh (s : Int) = s) := by show _ = _; unfold sh; omega
        have HE : Hid (Value.agg #[.int .u64 (IntKind.u64.wrap ((z : Int) * 2 ^ (s - 64))), .int .u64 0] = numV (n * 2 ^ sh (s : Int) % (B * B))) := by
          show _ = _
          rw [← HB.out (by rw [HS.out]; exact h1) z HH.out.2, HS.out]
        go_enter Tryd.func35, Tryd.ntmps35
        go_wp2_with (go_at_call 59; go_in)
        rw [HE.out]
        refine (numCut_any _ _ _ HC.out).mono ?_
        rintro e w1 ⟨rfl, hb⟩
        obtain ⟨hc, hf⟩ := bcell hb
        have hz := hb.size
        simp at hz
        have L1 : w.heap.size + 1 < w1.heap.size := by omega
        obtain ⟨u, v, hm, -, -⟩ := numV_parts (n * 2 ^ sh _ % (B * B) % 2 ^ sh j)
        have HM := Lib.hid hm
        rw [hm]
        clear hm
        go_wp2_with fail
        exact bodyPost_ret (v := .agg #[.int .u64 (u : Int), .int .u64 (v : Int)]) (by simp [results, Tryd.results35, go_sem, hc, hf]) rfl ⟨by rw [← HM.out], (by repeat (first | exact Below.refl _ _ | assumption | refine Below.drew ?_ | refine Below.alloc ?_ (by first | omega | (simp <;> omega)) _ | refine Below.setCell ?_ (by first | omega | (simp <;> omega)) _ | refine Below.trans ?_ (Below.mono (by assumption) (by first | omega | (simp <;> omega)))))⟩
      · have HS : Hid (sh (s : Int) = 128) := by show _ = _; unfold sh; omega
        have HE : Hid (Value.agg #[.int .u64 (IntKind.u64.wrap ((z : Int) * 18446744073709551616)), .int .u64 0] = numV (n * 2 ^ sh (s : Int) % (B * B))) := by
          show _ = _
          rw [← HB.out (by rw [HS.out]; omega) z HH.out.2, HS.out]; simp
        by_cases h3 : s = 128
        · subst h3
          go_enter Tryd.func35, Tryd.ntmps35
          go_wp2_with (go_at_call 59; go_in)
          rw [HE.out]
          refine (numCut_any _ _ _ HC.out).mono ?_
          rintro e w1 ⟨rfl, hb⟩
          obtain ⟨hc, hf⟩ := bcell hb
          have hz := hb.size
          simp at hz
          have L1 : w.heap.size + 1 < w1.heap.size := by omega
          obtain ⟨u, v, hm, -, -⟩ := numV_parts (n * 2 ^ sh _ % (B * B) % 2 ^ sh j)
          have HM := Lib.hid hm
          rw [hm]
          clear hm
          go_wp2_with fail
          exact bodyPost_ret (v := .agg #[.int .u64 (u : Int), .int .u64 (v : Int)]) (by simp [results, Tryd.results35, go_sem, hc, hf]) rfl ⟨by rw [← HM.out], (by repeat (first | exact Below.refl _ _ | assumption | refine Below.drew ?_ | refine Below.alloc ?_ (by first | omega | (simp <;> omega)) _ | refine Below.setCell ?_ (by first | omega | (simp <;> omega)) _ | refine Below.trans ?_ (Below.mono (by assumption) (by first | omega | (simp <;> omega)))))⟩
        · have h4 : 128 < s := by omega
          clear h3 h2
          go_enter Tryd.func35, Tryd.ntmps35
          go_wp2_with (go_at_call 59; go_in)
          rw [HE.out]
          refine (numCut_any _ _ _ HC.out).mono ?_
          rintro e w1 ⟨rfl, hb⟩
          obtain ⟨hc, hf⟩ := bcell hb
          have hz := hb.size
          simp at hz
          have L1 : w.heap.size + 1 < w1.heap.size := by omega
          obtain ⟨u, v, hm, -, -⟩ := numV_parts (n * 2 ^ sh _ % (B * B) % 2 ^ sh j)
          have HM := Lib.hid hm
          rw [hm]
          clear hm
          go_wp2_with fail
          exact bodyPost_ret (v := .agg #[.int .u64 (u : Int), .int .u64 (v : Int)]) (by simp [results, Tryd.results35, go_sem, hc, hf]) rfl ⟨by rw [← HM.out], (by repeat (first | exact Below.refl _ _ | assumption | refine Below.drew ?_ | refine Below.alloc ?_ (by first | omega | (simp <;> omega)) _ | refine Below.setCell ?_ (by first | omega | (simp <;> omega)) _ | refine Below.trans ?_ (Below.mono (by assumption) (by first | omega | (simp <;> omega)))))⟩
  · have HS : Hid (sh k = 0) := by show _ = _; unfold sh; omega
    have HE : Hid (Value.agg #[.int .u64 (bits .or .u64 (IntKind.u64.wrap (y : Int)) ((z : Int) / 18446744073709551616)), .int .u64 (IntKind.u64.wrap ((z : Int)))] = numV (n * 2 ^ sh k % (B * B))) := by
      show _ = _
      rw [← HA.out (by rw [HS.out]; omega) y z HH.out.1 HH.out.2, HS.out]; simp
    go_enter Tryd.func35, Tryd.ntmps35
    go_wp2_with (go_at_call 59; go_in)
    rw [HE.out]
    refine (numCut_any _ _ _ HC.out).mono ?_
    rintro e w1 ⟨rfl, hb⟩
    obtain ⟨hc, hf⟩ := bcell hb
    have hz := hb.size
    simp at hz
    have L1 : w.heap.size + 1 < w1.heap.size := by omega
    obtain ⟨u, v, hm, -, -⟩ := numV_parts (n * 2 ^ sh _ % (B * B) % 2 ^ sh j)
    have HM := Lib.hid hm
    rw [hm]
    clear hm
    go_wp2_with fail
    exact bodyPost_ret (v := .agg #[.int .u64 (u : Int), .int .u64 (v : Int)]) (by simp [results, Tryd.results35, go_sem, hc, hf]) rfl ⟨by rw [← HM.out], (by repeat (first | exact Below.refl _ _ | assumption | refine Below.drew ?_ | refine Below.alloc ?_ (by first | omega | (simp <;> omega)) _ | refine Below.setCell ?_ (by first | omega | (simp <;> omega)) _ | refine Below.trans ?_ (Below.mono (by assumption) (by first | omega | (simp <;> omega)))))⟩

end Go.Proofs.YtfalhemeiengcaaDoor
