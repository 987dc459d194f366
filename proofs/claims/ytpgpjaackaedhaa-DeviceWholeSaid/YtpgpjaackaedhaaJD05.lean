/-
  Lemmas, joined: NumSh, NumMore, NumMore2, Held.
-/
import Derived.Test.YtpgpjaackaedhaaJD01
import Derived.Laws.Externs
import Derived.Deep.RegionHeld3
/-
  Contracts of num.Shr, Mask, Cut, Shl, Bit.
-/
namespace Go.Proofs.Ytpgpjaackaedhaa
open Go.RowKit

theorem numOf_val (n : Nat) (hn : n < B) : Value.agg #[.int .u64 0, .int .u64 (n : Int)] = numV n := by
  have he := numV_mk 0 n hn
  rw [Nat.zero_mul, Nat.zero_add] at he
  exact he

set_option maxRecDepth 100000 in
set_option maxHeartbeats 400000 in
theorem numOf_any (n : Nat) (hn : n < B) (w : World) :
    Calls Try.prog 24 #[.int .u64 (n : Int)] w (RetNum w n) := by
  have H := Lib.hid (numOf_val n hn); clear hn
  go_enter Try.func24, Try.ntmps24
  go_wp2
  exact bodyPost_ret (v := .agg #[.int .u64 0, .int .u64 (n : Int)]) (by simp [results, Try.results24, go_sem]) rfl ⟨by rw [H.out], (by repeat (first | exact Below.refl _ _ | assumption | refine Below.drew ?_ | refine Below.alloc ?_ (by first | omega | (simp <;> omega)) _ | refine Below.setCell ?_ (by first | omega | (simp <;> omega)) _ | refine Below.trans ?_ (Below.mono (by assumption) (by first | omega | (simp <;> omega)))))⟩

theorem shr_val (n s : Nat) (hn : n < B * B) : (s < 64 → ∀ h l : Nat, h = n / B → l = n % B → Value.agg #[.int .u64 ((h : Int) / 2 ^ s), .int .u64 (bits .or .u64 ((l : Int) / 2 ^ s) (IntKind.u64.wrap ((h : Int) * 2 ^ (64 - s))))] = numV (n / 2 ^ s)) ∧
    (64 ≤ s → ∀ h l : Nat, h = n / B → l = n % B → Value.agg #[.int .u64 0, .int .u64 ((h : Int) / 2 ^ (s - 64))] = numV (n / 2 ^ s)) := by
  refine ⟨fun hs h l e1 e2 => ?_, fun hs h l e1 e2 => ?_⟩
  · subst e1 e2; rw [shr_small _ _ _ (half_lt hn) (low_lt _) hs, parts_eq]
  · subst e1 e2; rw [shr_great _ (n % B) _ (half_lt hn) (low_lt _) hs, parts_eq]

set_option maxRecDepth 100000 in
set_option maxHeartbeats 400000 in
theorem numShr_any (n : Nat) (k : Int) (w : World) (hn : n < B * B) :
    Calls Try.prog 36 #[numV n, .int .i64 k] w (RetNum w (n / 2 ^ sh k)) := by
  have HV := Lib.hid (shr_val n (sh k) hn)
  obtain ⟨y, z, he, hh, hl⟩ := numV_parts n
  have HH : Hid (y = n / B ∧ z = n % B) := ⟨hh, hl⟩
  rw [he]
  clear he hh hl hn
  rcases Int.lt_or_le 0 k with h0 | h0
  · obtain ⟨s, rfl⟩ := Int.eq_ofNat_of_zero_le (Int.le_of_lt h0)
    have h0' : 0 < s := by omega
    clear h0
    rcases Nat.lt_or_ge s 64 with h1 | h1
    · have HS : Hid (sh (s : Int) = s) := by show _ = _; unfold sh; omega
      go_enter Try.func36, Try.ntmps36
      go_wp2
      exact bodyPost_ret (v := .agg #[.int .u64 ((y : Int) / 2 ^ s), .int .u64 (bits .or .u64 ((z : Int) / 2 ^ s) (IntKind.u64.wrap ((y : Int) * 2 ^ (64 - s))))]) (by simp [results, Try.results36, go_sem]) rfl ⟨by rw [HS.out] at HV ⊢; rw [HV.out.1 h1 y z HH.out.1 HH.out.2], (by repeat (first | exact Below.refl _ _ | assumption | refine Below.drew ?_ | refine Below.alloc ?_ (by first | omega | (simp <;> omega)) _ | refine Below.setCell ?_ (by first | omega | (simp <;> omega)) _ | refine Below.trans ?_ (Below.mono (by assumption) (by first | omega | (simp <;> omega)))))⟩
    · rcases Nat.lt_or_ge s 129 with h2 | h2
      · have HS : Hid (sh (s : Int) = s) := by show _ = _; unfold sh; omega
        by_cases h3 : s = 128
        · subst h3
          go_enter Try.func36, Try.ntmps36
          go_wp2
          exact bodyPost_ret (v := .agg #[.int .u64 0, .int .u64 ((y : Int) / 18446744073709551616)]) (by simp [results, Try.results36, go_sem]) rfl ⟨by rw [HS.out] at HV ⊢; rw [← HV.out.2 h1 y z HH.out.1 HH.out.2]; simp, (by repeat (first | exact Below.refl _ _ | assumption | refine Below.drew ?_ | refine Below.alloc ?_ (by first | omega | (simp <;> omega)) _ | refine Below.setCell ?_ (by first | omega | (simp <;> omega)) _ | refine Below.trans ?_ (Below.mono (by assumption) (by first | omega | (simp <;> omega)))))⟩
        · have h4 : s < 128 := by omega
          clear h3 h2
          go_enter Try.func36, Try.ntmps36
          go_wp2
          exact bodyPost_ret (v := .agg #[.int .u64 0, .int .u64 ((y : Int) / 2 ^ (s - 64))]) (by simp [results, Try.results36, go_sem]) rfl ⟨by rw [HS.out] at HV ⊢; rw [HV.out.2 h1 y z HH.out.1 HH.out.2], (by repeat (first | exact Below.refl _ _ | assumption | refine Below.drew ?_ | refine Below.alloc ?_ (by first | omega | (simp <;> omega)) _ | refine Below.setCell ?_ (by first | omega | (simp <;> omega)) _ | refine Below.trans ?_ (Below.mono (by assumption) (by first | omega | (simp <;> omega)))))⟩
      · have HS : Hid (sh (s : Int) = 128) := by show _ = _; unfold sh; omega
        go_enter Try.func36, Try.ntmps36
        go_wp2
        exact bodyPost_ret (v := .agg #[.int .u64 0, .int .u64 ((y : Int) / 18446744073709551616)]) (by simp [results, Try.results36, go_sem]) rfl ⟨by rw [HS.out] at HV ⊢; rw [← HV.out.2 (by omega) y z HH.out.1 HH.out.2]; simp, (by repeat (first | exact Below.refl _ _ | assumption | refine Below.drew ?_ | refine Below.alloc ?_ (by first | omega | (simp <;> omega)) _ | refine Below.setCell ?_ (by first | omega | (simp <;> omega)) _ | refine Below.trans ?_ (Below.mono (by assumption) (by first | omega | (simp <;> omega)))))⟩
  · have HS : Hid (sh k = 0) := by show _ = _; unfold sh; omega
    go_enter Try.func36, Try.ntmps36
    go_wp2
    all_goals exact bodyPost_ret (v := .agg #[.int .u64 (y : Int), .int .u64 (bits .or .u64 (z : Int) (IntKind.u64.wrap ((y : Int) * 18446744073709551616)))]) (by simp [results, Try.results36, go_sem]) rfl ⟨by rw [HS.out] at HV ⊢; rw [← HV.out.1 (by omega) y z HH.out.1 HH.out.2]; simp, (by repeat (first | exact Below.refl _ _ | assumption | refine Below.drew ?_ | refine Below.alloc ?_ (by first | omega | (simp <;> omega)) _ | refine Below.setCell ?_ (by first | omega | (simp <;> omega)) _ | refine Below.trans ?_ (Below.mono (by assumption) (by first | omega | (simp <;> omega)))))⟩

theorem ones_val : Value.agg #[.int .u64 18446744073709551615, .int .u64 18446744073709551615] = numV (B * B - 1) := by kernel_rfl
theorem BB_pow : B * B = 2 ^ 128 := by rw [B_pow, ← Nat.pow_add]
theorem ones_div (t : Nat) (h : t ≤ 128) : (B * B - 1) / 2 ^ (128 - t) = 2 ^ t - 1 := by
  have h1 : B * B = 2 ^ t * 2 ^ (128 - t) := by rw [BB_pow, ← Nat.pow_add]; congr 1; omega
  have h2 : 0 < 2 ^ (128 - t) := Nat.two_pow_pos _
  have h3 : 0 < 2 ^ t := Nat.two_pow_pos _
  apply Nat.div_eq_of_lt_le
  · rw [Nat.sub_mul, h1]; omega
  · rw [h1, Nat.sub_add_cancel h3]
    have : 0 < 2 ^ t * 2 ^ (128 - t) := Nat.mul_pos h3 h2
    omega
theorem mask_lt (w : Int) : 2 ^ sh w - 1 < B * B := by
  have h1 : 2 ^ sh w ≤ 2 ^ 128 := Nat.pow_le_pow_right (by omega) (sh_le w)
  have h2 : 0 < 2 ^ sh w := Nat.two_pow_pos _
  rw [BB_pow]; omega

set_option maxRecDepth 100000 in
set_option maxHeartbeats 400000 in
theorem numMask_any (k : Int) (w : World) : Calls Try.prog 46 #[.int .i64 k] w (RetNum w (2 ^ sh k - 1)) := by
  by_cases h0 : k < 1
  · have HS : Hid (sh k = 0) := by show _ = _; unfold sh; omega
    go_enter Try.func46, Try.ntmps46
    go_wp2_with fail
    exact bodyPost_ret (v := .agg #[.int .u64 0, .int .u64 0]) (by simp [results, Try.results46, go_sem]) rfl ⟨by rw [HS.out]; rfl, (by repeat (first | exact Below.refl _ _ | assumption | refine Below.drew ?_ | refine Below.alloc ?_ (by first | omega | (simp <;> omega)) _ | refine Below.setCell ?_ (by first | omega | (simp <;> omega)) _ | refine Below.trans ?_ (Below.mono (by assumption) (by first | omega | (simp <;> omega)))))⟩
  · have HS : ∀ j : Int, (128 < k → j = 0) → (k ≤ 128 → j = 128 - k) → Hid ((B * B - 1) / 2 ^ sh j = 2 ^ sh k - 1) := by
      intro j h1 h2
      show _ = _
      rw [← ones_div _ (sh_le k)]
      have : sh j = 128 - sh k := by unfold sh; omega
      rw [this]
    have HL : Hid (B * B - 1 < B * B) := by show _ < _; unfold B; omega
    have HO := Lib.hid ones_val
    go_enter Try.func46, Try.ntmps46
    go_wp2_with fail
    all_goals
      rw [HO.out]
      refine (numShr_any _ _ _ HL.out).mono ?_
      rintro e w1 ⟨rfl, hb⟩
      obtain ⟨hc, hf⟩ := bcell hb
      have hz := hb.size
      simp at hz
      obtain ⟨y, z, he, -, -⟩ := numV_parts ((B * B - 1) / 2 ^ sh _)
      have HE := Lib.hid he
      rw [he]
      clear he
      go_wp2_with fail
      have L2 : w.heap.size < w.heap.size + 1 + 1 := by omega
      exact bodyPost_ret (v := .agg #[.int .u64 (y : Int), .int .u64 (z : Int)]) (by simp [results, Try.results46, go_sem, hc, hf, hz, L2]) rfl ⟨by rw [← HE.out]; rw [(HS _ (by intro; omega) (by intro; omega)).out], (by repeat (first | exact Below.refl _ _ | assumption | refine Below.drew ?_ | refine Below.alloc ?_ (by first | omega | (simp <;> omega)) _ | refine Below.setCell ?_ (by first | omega | (simp <;> omega)) _ | refine Below.trans ?_ (Below.mono (by assumption) (by first | omega | (simp <;> omega)))))⟩

set_option maxRecDepth 100000 in
set_option maxHeartbeats 400000 in
theorem numCut_any (n : Nat) (k : Int) (w : World) (hn : n < B * B) : Calls Try.prog 40 #[numV n, .int .i64 k] w (RetNum w (n % 2 ^ sh k)) := by
  have HV : Hid (n &&& (2 ^ sh k - 1) = n % 2 ^ sh k) := Nat.and_two_pow_sub_one_eq_mod n (sh k)
  have HB := Lib.hid (and_num n (2 ^ sh k - 1) hn (mask_lt k))
  obtain ⟨y, z, he, hy, hz0⟩ := numV_parts n
  obtain ⟨u, v, hm, hu, hv⟩ := numV_parts (2 ^ sh k - 1)
  rw [← hy, ← hz0, ← hu, ← hv] at HB
  have HM := Lib.hid hm
  rw [he]
  clear he hy hz0 hm hu hv
  go_enter Try.func40, Try.ntmps40
  go_wp2_with fail
  go_region_with (first
    | (go_at_call 46; refine (numMask_any _ _).mono ?_; rintro e w1 ⟨rfl, hb⟩; rw [HM.out]; obtain ⟨hc, hf⟩ := bcell hb; have hz := hb.size; simp at hz; have L1 : w.heap.size + 1 < w1.heap.size := by omega)
    | (go_at_call 42; refine (and_any _ _ _ _ _).mono ?_; rintro e w2 ⟨rfl, hb2⟩; obtain ⟨hc2, hf2⟩ := bcell hb2; have hz2 := hb2.size))
  all_goals go_wp2_with fail
  all_goals exact bodyPost_ret (v := .agg #[.int .u64 (bits .and .u64 (y : Int) (u : Int)), .int .u64 (bits .and .u64 (z : Int) (v : Int))]) (by simp [results, Try.results40, go_sem, hc, hf, hc2, hf2, L1]) rfl ⟨by rw [HB.out, HV.out], (by repeat (first | exact Below.refl _ _ | assumption | refine Below.drew ?_ | refine Below.alloc ?_ (by first | omega | (simp <;> omega)) _ | refine Below.setCell ?_ (by first | omega | (simp <;> omega)) _ | refine Below.trans ?_ (Below.mono (by assumption) (by first | omega | (simp <;> omega)))))⟩

set_option maxRecDepth 100000 in
set_option maxHeartbeats 400000 in
theorem numShl_any (n : Nat) (k j : Int) (w : World) (hn : n < B * B) : Calls Try.prog 23 #[numV n, .int .i64 k, .int .i64 j] w (RetNum w (n * 2 ^ sh k % (B * B) % 2 ^ sh j)) := by
  have HC : Hid (n * 2 ^ sh k % (B * B) < B * B) := Nat.mod_lt _ (by unfold B; omega)
  have HV1 : sh k < 64 → ∀ y z : Nat, y = n / B → z = n % B → Value.agg #[.int .u64 (bits .or .u64 (IntKind.u64.wrap ((y : Int) * 2 ^ sh k)) ((z : Int) / 2 ^ (64 - sh k))), .int .u64 (IntKind.u64.wrap ((z : Int) * 2 ^ sh k))] = numV (n * 2 ^ sh k % (B * B)) := by
    intro hs y z e1 e2
    subst e1 e2; rw [shl_small _ _ _ (half_lt hn) (low_lt _) hs, parts_eq]
  have HV2 : 64 ≤ sh k → ∀ z : Nat, z = n % B → Value.agg #[.int .u64 (IntKind.u64.wrap ((z : Int) * 2 ^ (sh k - 64))), .int .u64 0] = numV (n * 2 ^ sh k % (B * B)) := by
    intro hs z e2
    subst e2; rw [shl_great _ (n % B) _ (half_lt hn) (low_lt _) hs, parts_eq]
  have HA := Lib.hid HV1; clear HV1
  have HB := Lib.hid HV2; clear HV2
  obtain ⟨y, z, he, hy, hz0⟩ := numV_parts n
  have HH : Hid (y = n / B ∧ z = n % B) := ⟨hy, hz0⟩
  rw [he]
  clear he hy hz0 hn
  rcases Int.lt_or_le 0 k with h0 | h0
  · obtain ⟨s, rfl⟩ := Int.eq_ofNat_of_zero_le (Int.le_of_lt h0)
    have h0' : 0 < s := by omega
    clear h0
    rcases Nat.lt_or_ge s 64 with h1 | h1
    · have HS : Hid (sh (s : Int) = s) := by show _ = _; unfold sh; omega
      have HE : Hid (Value.agg #[.int .u64 (bits .or .u64 (IntKind.u64.wrap ((y : Int) * 2 ^ s)) ((z : Int) / 2 ^ (64 - s))), .int .u64 (IntKind.u64.wrap ((z : Int) * 2 ^ s))] = numV (n * 2 ^ sh (s : Int) % (B * B))) := by
        show _ = _
        rw [← HA.out (by rw [HS.out]; exact h1) y z HH.out.1 HH.out.2, HS.out]
      go_enter Try.func23, Try.ntmps23
      go_wp2_with (go_at_call 39; go_in)
      rw [HE.out]
      refine (numCut_any _ _ _ HC.out).mono ?_
      rintro e w1 ⟨rfl, hb⟩
      obtain ⟨hc, hf⟩ := bcell hb
      have hz := hb.size
      simp at hz
      have L1 : w.heap.size + 1 < w1.heap.size := by omega
      obtain ⟨u, v, hm, -, -⟩ := numV_parts (n * 2 ^ sh _ % (B * B) % 2 ^ sh j)
      have HM := Lib.hid hm
      rw [hm]
      clear hm
      go_wp2_with fail
      exact bodyPost_ret (v := .agg #[.int .u64 (u : Int), .int .u64 (v : Int)]) (by simp [results, Try.results23, go_sem, hc, hf]) rfl ⟨by rw [← HM.out], (by repeat (first | exact Below.refl _ _ | assumption | refine Below.drew ?_ | refine Below.alloc ?_ (by first | omega | (simp <;> omega)) _ | refine Below.setCell ?_ (by first | omega | (simp <;> omega)) _ | refine Below.trans ?_ (Below.mono (by assumption) (by first | omega | (simp <;> omega)))))⟩
    · rcases Nat.lt_or_ge s 128 with h2 | h2
      · have HS : Hid (sh (s : Int) = s) := by show _ = _; unfold sh; omega
        have HE : Hid (Value.agg #[.int .u64 (IntKind.u64.wrap ((z : Int) * 2 ^ (s - 64))), .int .u64 0] = numV (n * 2 ^ sh (s : Int) % (B * B))) := by
          show _ = _
          rw [← HB.out (by rw [HS.out]; exact h1) z HH.out.2, HS.out]
        go_enter Try.func23, Try.ntmps23
        go_wp2_with (go_at_call 39; go_in)
        rw [HE.out]
        refine (numCut_any _ _ _ HC.out).mono ?_
        rintro e w1 ⟨rfl, hb⟩
        obtain ⟨hc, hf⟩ := bcell hb
        have hz := hb.size
        simp at hz
        have L1 : w.heap.size + 1 < w1.heap.size := by omega
        obtain ⟨u, v, hm, -, -⟩ := numV_parts (n * 2 ^ sh _ % (B * B) % 2 ^ sh j)
        have HM := Lib.hid hm
        rw [hm]
        clear hm
        go_wp2_with fail
        exact bodyPost_ret (v := .agg #[.int .u64 (u : Int), .int .u64 (v : Int)]) (by simp [results, Try.results23, go_sem, hc, hf]) rfl ⟨by rw [← HM.out], (by repeat (first | exact Below.refl _ _ | assumption | refine Below.drew ?_ | refine Below.alloc ?_ (by first | omega | (simp <;> omega)) _ | refine Below.setCell ?_ (by first | omega | (simp <;> omega)) _ | refine Below.trans ?_ (Below.mono (by assumption) (by first | omega | (simp <;> omega)))))⟩
      · have HS : Hid (sh (s : Int) = 128) := by show _ = _; unfold sh; omega
        have HE : Hid (Value.agg #[.int .u64 (IntKind.u64.wrap ((z : Int) * 18446744073709551616)), .int .u64 0] = numV (n * 2 ^ sh (s : Int) % (B * B))) := by
          show _ = _
          rw [← HB.out (by rw [HS.out]; omega) z HH.out.2, HS.out]; simp
        by_cases h3 : s = 128
        · subst h3
          go_enter Try.func23, Try.ntmps23
          go_wp2_with (go_at_call 39; go_in)
          rw [HE.out]
          refine (numCut_any _ _ _ HC.out).mono ?_
          rintro e w1 ⟨rfl, hb⟩
          obtain ⟨hc, hf⟩ := bcell hb
          have hz := hb.size
          simp at hz
          have L1 : w.heap.size + 1 < w1.heap.size := by omega
          obtain ⟨u, v, hm, -, -⟩ := numV_parts (n * 2 ^ sh _ % (B * B) % 2 ^ sh j)
          have HM := Lib.hid hm
          rw [hm]
          clear hm
          go_wp2_with fail
          exact bodyPost_ret (v := .agg #[.int .u64 (u : Int), .int .u64 (v : Int)]) (by simp [results, Try.results23, go_sem, hc, hf]) rfl ⟨by rw [← HM.out], (by repeat (first | exact Below.refl _ _ | assumption | refine Below.drew ?_ | refine Below.alloc ?_ (by first | omega | (simp <;> omega)) _ | refine Below.setCell ?_ (by first | omega | (simp <;> omega)) _ | refine Below.trans ?_ (Below.mono (by assumption) (by first | omega | (simp <;> omega)))))⟩
        · have h4 : 128 < s := by omega
          clear h3 h2
          go_enter Try.func23, Try.ntmps23
          go_wp2_with (go_at_call 39; go_in)
          rw [HE.out]
          refine (numCut_any _ _ _ HC.out).mono ?_
          rintro e w1 ⟨rfl, hb⟩
          obtain ⟨hc, hf⟩ := bcell hb
          have hz := hb.size
          simp at hz
          have L1 : w.heap.size + 1 < w1.heap.size := by omega
          obtain ⟨u, v, hm, -, -⟩ := numV_parts (n * 2 ^ sh _ % (B * B) % 2 ^ sh j)
          have HM := Lib.hid hm
          rw [hm]
          clear hm
          go_wp2_with fail
          exact bodyPost_ret (v := .agg #[.int .u64 (u : Int), .int .u64 (v : Int)]) (by simp [results, Try.results23, go_sem, hc, hf]) rfl ⟨by rw [← HM.out], (by repeat (first | exact Below.refl _ _ | assumption | refine Below.drew ?_ | refine Below.alloc ?_ (by first | omega | (simp <;> omega)) _ | refine Below.setCell ?_ (by first | omega | (simp <;> omega)) _ | refine Below.trans ?_ (Below.mono (by assumption) (by first | omega | (simp <;> omega)))))⟩
  · have HS : Hid (sh k = 0) := by show _ = _; unfold sh; omega
    have HE : Hid (Value.agg #[.int .u64 (bits .or .u64 (IntKind.u64.wrap (y : Int)) ((z : Int) / 18446744073709551616)), .int .u64 (IntKind.u64.wrap ((z : Int)))] = numV (n * 2 ^ sh k % (B * B))) := by
      show _ = _
      rw [← HA.out (by rw [HS.out]; omega) y z HH.out.1 HH.out.2, HS.out]; simp
    go_enter Try.func23, Try.ntmps23
    go_wp2_with (go_at_call 39; go_in)
    rw [HE.out]
    refine (numCut_any _ _ _ HC.out).mono ?_
    rintro e w1 ⟨rfl, hb⟩
    obtain ⟨hc, hf⟩ := bcell hb
    have hz := hb.size
    simp at hz
    have L1 : w.heap.size + 1 < w1.heap.size := by omega
    obtain ⟨u, v, hm, -, -⟩ := numV_parts (n * 2 ^ sh _ % (B * B) % 2 ^ sh j)
    have HM := Lib.hid hm
    rw [hm]
    clear hm
    go_wp2_with fail
    exact bodyPost_ret (v := .agg #[.int .u64 (u : Int), .int .u64 (v : Int)]) (by simp [results, Try.results23, go_sem, hc, hf]) rfl ⟨by rw [← HM.out], (by repeat (first | exact Below.refl _ _ | assumption | refine Below.drew ?_ | refine Below.alloc ?_ (by first | omega | (simp <;> omega)) _ | refine Below.setCell ?_ (by first | omega | (simp <;> omega)) _ | refine Below.trans ?_ (Below.mono (by assumption) (by first | omega | (simp <;> omega)))))⟩

end Go.Proofs.Ytpgpjaackaedhaa

/-
  Contracts of package num: Xor, Not, Add, Sub, Cat, Slice.
-/
namespace Go.Proofs.Ytpgpjaackaedhaa
open Go.RowKit

set_option maxRecDepth 100000 in
set_option maxHeartbeats 400000 in
theorem xor1_any (a b : Int) (w : World) :
    Calls Try.prog 86 #[.int .u64 a, .int .u64 b] w fun e w' => e = .returned (.int .u64 (bits BinOp.xor IntKind.u64 a b)) ∧ w' = w := by
  go_enter Try.func86, Try.ntmps86
  go_wp2
  go_ret
  exact ⟨rfl, rfl⟩

set_option maxRecDepth 100000 in
set_option maxHeartbeats 400000 in
theorem both_xor (a b c d : Int) (w : World) :
    Calls Try.prog 37 #[.agg #[.int .u64 a, .int .u64 b], .agg #[.int .u64 c, .int .u64 d], .func (Fn.func 86) #[] #[]] w fun e w' => e = .returned (.agg #[.int .u64 (bits BinOp.xor IntKind.u64 a c), .int .u64 (bits BinOp.xor IntKind.u64 b d)]) ∧ Below w.heap.size w w' := by
  go_enter Try.func37, Try.ntmps37
  go_wp2
  refine wp_region_still_tail 13 (by kernel_rfl) (by kernel_rfl) ?_
  simp only [List.take_succ_cons, List.take_zero, List.drop_succ_cons, List.drop_zero]
  change wpStill _ _ (World.drew _) _ _ _
  repeat (first | still_step | still_call (xor1_any _ _ _))
  refine wpStill_nil ?_
  change wpList _ _ _ _ _ (World.drew _)
  go_wp2
  exact bodyPost_ret (v := .agg #[.int .u64 (bits BinOp.xor IntKind.u64 a c), .int .u64 (bits BinOp.xor IntKind.u64 b d)]) (by simp [results, Try.results37, go_sem]) rfl ⟨rfl, (by repeat (first | exact Below.refl _ _ | assumption | refine Below.drew ?_ | refine Below.alloc ?_ (by first | omega | (simp <;> omega)) _ | refine Below.setCell ?_ (by first | omega | (simp <;> omega)) _ | refine Below.trans ?_ (Below.mono (by assumption) (by first | omega | (simp <;> omega)))))⟩

set_option maxRecDepth 100000 in
set_option maxHeartbeats 400000 in
theorem xor_any (a b c d : Int) (w : World) :
    Calls Try.prog 75 #[.agg #[.int .u64 a, .int .u64 b], .agg #[.int .u64 c, .int .u64 d]] w fun e w' => e = .returned (.agg #[.int .u64 (bits BinOp.xor IntKind.u64 a c), .int .u64 (bits BinOp.xor IntKind.u64 b d)]) ∧ Below w.heap.size w w' := by
  go_enter Try.func75, Try.ntmps75
  go_wp2_with (go_at_call 37; refine (both_xor _ _ _ _ _).mono ?_; rintro e w1 ⟨rfl, hb⟩; obtain ⟨hc, hf⟩ := bcell hb; have hz := hb.size; simp at hz)
  exact bodyPost_ret (v := .agg #[.int .u64 (bits BinOp.xor IntKind.u64 a c), .int .u64 (bits BinOp.xor IntKind.u64 b d)]) (by simp [results, Try.results75, go_sem, hc, hf, hz]) rfl ⟨rfl, (by repeat (first | exact Below.refl _ _ | assumption | refine Below.drew ?_ | refine Below.alloc ?_ (by first | omega | (simp <;> omega)) _ | refine Below.setCell ?_ (by first | omega | (simp <;> omega)) _ | refine Below.trans ?_ (Below.mono (by assumption) (by first | omega | (simp <;> omega)))))⟩

theorem numXor_any (a b : Nat) (w : World) (ha : a < B * B) (hb : b < B * B) : Calls Try.prog 75 #[numV a, numV b] w (RetNum w (a ^^^ b)) :=
  (xor_any _ _ _ _ w).mono fun e w' ⟨h1, h2⟩ => ⟨by rw [h1, xor_num a b ha hb], h2⟩

set_option maxRecDepth 100000 in
set_option maxHeartbeats 400000 in
theorem numNot_any (n : Nat) (k : Int) (w : World) (hn : n < B * B) : Calls Try.prog 61 #[numV n, .int .i64 k] w (RetNum w ((n % 2 ^ sh k) ^^^ (2 ^ sh k - 1))) := by
  have hlt : n % 2 ^ sh k < B * B := Nat.lt_of_le_of_lt (Nat.mod_le _ _) hn
  have HC : Hid (∀ W, Calls Try.prog 40 #[numV n, .int .i64 k] W (RetNum W (n % 2 ^ sh k))) := fun W => numCut_any n k W hn
  have HM : Hid (∀ W, Calls Try.prog 46 #[.int .i64 k] W (RetNum W (2 ^ sh k - 1))) := fun W => numMask_any k W
  have HX : Hid (∀ W, Calls Try.prog 75 #[numV (n % 2 ^ sh k), numV (2 ^ sh k - 1)] W (RetNum W ((n % 2 ^ sh k) ^^^ (2 ^ sh k - 1)))) := fun W => numXor_any _ _ W hlt (mask_lt k)
  generalize n % 2 ^ sh k = m at *
  generalize 2 ^ sh k - 1 = q at *
  generalize m ^^^ q = r at *
  obtain ⟨y, z, he, -, -⟩ := numV_parts n
  obtain ⟨y1, z1, he1, -, -⟩ := numV_parts m
  obtain ⟨y2, z2, he2, -, -⟩ := numV_parts q
  obtain ⟨y3, z3, he3, -, -⟩ := numV_parts r
  have HR := Lib.hid he3
  unfold RetNum at HC HM HX
  rw [he, he1] at HC
  rw [he2] at HM
  rw [he1, he2, he3] at HX
  rw [he]
  clear he he1 he2 he3 hn hlt
  go_enter Try.func61, Try.ntmps61
  go_wp2_with (first
    | (go_at_call 40; refine (HC.out _).mono ?_; rintro e w1 ⟨rfl, hb1⟩; obtain ⟨hc1, hf1⟩ := bcell hb1; have hz1 := hb1.size; simp at hz1; have L1 : w.heap.size + 1 < w1.heap.size := by omega)
    | (go_at_call 46; refine (HM.out _).mono ?_; rintro e w2 ⟨rfl, hb2⟩; obtain ⟨hc2, hf2⟩ := bcell hb2; have hz2 := hb2.size; have L2 : w.heap.size + 1 < w2.heap.size := by omega)
    | (go_at_call 75; refine (HX.out _).mono ?_; rintro e w3 ⟨rfl, hb3⟩; obtain ⟨hc3, hf3⟩ := bcell hb3; have hz3 := hb3.size; have L3 : w.heap.size + 1 < w3.heap.size := by omega))
  exact bodyPost_ret (v := .agg #[.int .u64 (y3 : Int), .int .u64 (z3 : Int)]) (by simp [results, Try.results61, go_sem, hc1, hf1, hc2, hf2, hc3, hf3, L1, L2, L3]) rfl ⟨by rw [HR.out], (by repeat (first | exact Below.refl _ _ | assumption | refine Below.drew ?_ | refine Below.alloc ?_ (by first | omega | (simp <;> omega)) _ | refine Below.setCell ?_ (by first | omega | (simp <;> omega)) _ | refine Below.trans ?_ (Below.mono (by assumption) (by first | omega | (simp <;> omega)))))⟩

theorem add64_call (x y c : Nat) (hc : c ≤ 1) (w : World) : (callFunc 85 #[.int .u64 x, .int .u64 y, .int .u64 c]).run Try.prog w =
      .ok (.value (.tuple #[.int .u64 (((x + y + c) % B : Nat) : Int), .int .u64 (((x + y + c) / B : Nat) : Int)])) w := by
  rw [run_callFunc_extern (show Try.prog.funcs[85]? = some Try.f85 by kernel_rfl) (by kernel_rfl) (by kernel_rfl) (by kernel_rfl) (e := add64Entry) (by kernel_rfl), run_add64 x y c (by omega) (by omega) (by omega) (by omega)]
  simp only [Result.andThen]
  unfold B
  congr 5 <;> omega

/-- The model's entry for a difference with a borrow. -/
def sub64E : Array Value → Sem Value := fun args => do
  let (x, y, b) ← Extern.MathBitsCarry.three "Sub64" args
  pure (Extern.MathBitsCarry.pair ((x + Extern.MathBitsCarry.m64 - y - b) % Extern.MathBitsCarry.m64) (if x < y + b then 1 else 0))
theorem run_sub64E (x y b : Nat) (hb : b ≤ 1) (w : World) :
    (sub64E #[.int .u64 x, .int .u64 y, .int .u64 b]).run Try.prog w =
      .ok (.tuple #[.int .u64 (((x + 18446744073709551616 - y - b) % 18446744073709551616 : Nat) : Int), .int .u64 ((if x < y + b then 1 else 0 : Nat) : Int)]) w := by
  have : b = 0 ∨ b = 1 := by omega
  rcases this with rfl | rfl <;> rfl
theorem sub64_call (x y c : Nat) (hc : c ≤ 1) (w : World) : (callFunc 84 #[.int .u64 x, .int .u64 y, .int .u64 c]).run Try.prog w =
      .ok (.value (.tuple #[.int .u64 (((x + B - y - c) % B : Nat) : Int), .int .u64 ((if x < y + c then 1 else 0 : Nat) : Int)])) w := by
  rw [run_callFunc_extern (show Try.prog.funcs[84]? = some Try.f84 by kernel_rfl) (by kernel_rfl) (by kernel_rfl) (by kernel_rfl) (e := sub64E) (by kernel_rfl), run_sub64E x y c hc]
  rfl

theorem add_parts {a b lo c hi : Nat} (ha : a < B * B) (hb : b < B * B) (hlo : lo = (a % B + b % B + 0) % B) (hc : c = (a % B + b % B + 0) / B) (hhi : hi = (a / B + b / B + c) % B) : hi * B + lo = (a + b) % (B * B) ∧ lo < B ∧ c ≤ 1 := by
  unfold B at *
  omega
theorem sub_parts {a b lo c hi : Nat} (ha : a < B * B) (hb : b < B * B) (hlo : lo = (a % B + B - b % B - 0) % B) (hc : c = if a % B < b % B + 0 then 1 else 0) (hhi : hi = (a / B + B - b / B - c) % B) : hi * B + lo = (a + (B * B - b)) % (B * B) ∧ lo < B ∧ c ≤ 1 := by
  unfold B at *
  split at hc <;> omega

end Go.Proofs.Ytpgpjaackaedhaa

/-
  Contracts of num.Add and num.Sub.
-/
namespace Go.Proofs.Ytpgpjaackaedhaa
open Go.RowKit

set_option maxRecDepth 100000 in
set_option maxHeartbeats 800000 in
theorem numAdd_any (a b : Nat) (k : Int) (w : World) (ha : a < B * B) (hb : b < B * B) : Calls Try.prog 71 #[numV a, numV b, .int .i64 k] w (RetNum w ((a + b) % (B * B) % 2 ^ sh k)) := by
  have hlt : (a + b) % (B * B) < B * B := Nat.mod_lt _ (by unfold B; omega)
  have HC : Hid (∀ W, Calls Try.prog 40 #[numV ((a + b) % (B * B)), .int .i64 k] W (RetNum W ((a + b) % (B * B) % 2 ^ sh k))) := fun W => numCut_any _ k W hlt
  obtain ⟨lo, hlo⟩ : ∃ lo, lo = (a % B + b % B + 0) % B := ⟨_, rfl⟩
  obtain ⟨c, hc⟩ : ∃ c, c = (a % B + b % B + 0) / B := ⟨_, rfl⟩
  obtain ⟨hi, hhi⟩ : ∃ hi, hi = (a / B + b / B + c) % B := ⟨_, rfl⟩
  obtain ⟨c2, hc2⟩ : ∃ c2, c2 = (a / B + b / B + c) / B := ⟨_, rfl⟩
  obtain ⟨e1, e2, e3⟩ := add_parts ha hb hlo hc hhi
  have h1 : ∀ W, (callFunc 85 #[.int .u64 (a % B : Nat), .int .u64 (b % B : Nat), .int .u64 0]).run Try.prog W = .ok (.value (.tuple #[.int .u64 (lo : Int), .int .u64 (c : Int)])) W := fun W => by
    rw [hlo, hc]; exact add64_call _ _ 0 (by omega) W
  have h2 : ∀ W, (callFunc 85 #[.int .u64 (a / B : Nat), .int .u64 (b / B : Nat), .int .u64 (c : Nat)]).run Try.prog W = .ok (.value (.tuple #[.int .u64 (hi : Int), .int .u64 (c2 : Int)])) W := fun W => by
    rw [hhi, hc2]; exact add64_call _ _ c e3 W
  have hv := numV_mk hi lo e2
  rw [e1] at hv
  generalize (a + b) % (B * B) % 2 ^ sh k = r at *
  generalize (a + b) % (B * B) = m at *
  obtain ⟨y3, z3, he3, -, -⟩ := numV_parts r
  have HR := Lib.hid he3
  unfold RetNum at HC
  rw [← hv, he3] at HC
  obtain ⟨ah, al, hea, qa, qb⟩ := numV_parts a
  obtain ⟨bh, bl, heb, qc, qd⟩ := numV_parts b
  rw [← qb, ← qd] at h1
  rw [← qa, ← qc] at h2
  rw [hea, heb]
  clear hlt hlo hc hhi hc2 e1 e2 e3 hv he3 hea heb qa qb qc qd ha hb
  go_enter Try.func71, Try.ntmps71
  go_wp2_with (first
    | simp only [h1]
    | simp only [h2]
    | (go_at_call 40; refine (HC.out _).mono ?_; rintro e w1 ⟨rfl, hb1⟩; obtain ⟨hc1, hf1⟩ := bcell hb1; have hz1 := hb1.size; simp at hz1; have L1 : w.heap.size + 1 < w1.heap.size := by omega))
  exact bodyPost_ret (v := .agg #[.int .u64 (y3 : Int), .int .u64 (z3 : Int)]) (by simp [results, Try.results71, go_sem, hc1, hf1, L1]) rfl ⟨by rw [HR.out], (by repeat (first | exact Below.refl _ _ | assumption | refine Below.drew ?_ | refine Below.alloc ?_ (by first | omega | (simp <;> omega)) _ | refine Below.setCell ?_ (by first | omega | (simp <;> omega)) _ | refine Below.trans ?_ (Below.mono (by assumption) (by first | omega | (simp <;> omega)))))⟩

set_option maxRecDepth 100000 in
set_option maxHeartbeats 800000 in
theorem numSub_any (a b : Nat) (k : Int) (w : World) (ha : a < B * B) (hb : b < B * B) : Calls Try.prog 63 #[numV a, numV b, .int .i64 k] w (RetNum w ((a + (B * B - b)) % (B * B) % 2 ^ sh k)) := by
  have hlt : (a + (B * B - b)) % (B * B) < B * B := Nat.mod_lt _ (by unfold B; omega)
  have HC : Hid (∀ W, Calls Try.prog 40 #[numV ((a + (B * B - b)) % (B * B)), .int .i64 k] W (RetNum W ((a + (B * B - b)) % (B * B) % 2 ^ sh k))) := fun W => numCut_any _ k W hlt
  obtain ⟨lo, hlo⟩ : ∃ lo, lo = (a % B + B - b % B - 0) % B := ⟨_, rfl⟩
  obtain ⟨c, hc⟩ : ∃ c, c = if a % B < b % B + 0 then 1 else 0 := ⟨_, rfl⟩
  obtain ⟨hi, hhi⟩ : ∃ hi, hi = (a / B + B - b / B - c) % B := ⟨_, rfl⟩
  obtain ⟨c2, hc2⟩ : ∃ c2, c2 = if a / B < b / B + c then 1 else 0 := ⟨_, rfl⟩
  obtain ⟨e1, e2, e3⟩ := sub_parts ha hb hlo hc hhi
  have h1 : ∀ W, (callFunc 84 #[.int .u64 (a % B : Nat), .int .u64 (b % B : Nat), .int .u64 0]).run Try.prog W = .ok (.value (.tuple #[.int .u64 (lo : Int), .int .u64 (c : Int)])) W := fun W => by
    rw [hlo, hc]; exact sub64_call _ _ 0 (by omega) W
  have h2 : ∀ W, (callFunc 84 #[.int .u64 (a / B : Nat), .int .u64 (b / B : Nat), .int .u64 (c : Nat)]).run Try.prog W = .ok (.value (.tuple #[.int .u64 (hi : Int), .int .u64 (c2 : Int)])) W := fun W => by
    rw [hhi, hc2]; exact sub64_call _ _ c e3 W
  have hv := numV_mk hi lo e2
  rw [e1] at hv
  generalize (a + (B * B - b)) % (B * B) % 2 ^ sh k = r at *
  generalize (a + (B * B - b)) % (B * B) = m at *
  obtain ⟨y3, z3, he3, -, -⟩ := numV_parts r
  have HR := Lib.hid he3
  unfold RetNum at HC
  rw [← hv, he3] at HC
  obtain ⟨ah, al, hea, qa, qb⟩ := numV_parts a
  obtain ⟨bh, bl, heb, qc, qd⟩ := numV_parts b
  rw [← qb, ← qd] at h1
  rw [← qa, ← qc] at h2
  rw [hea, heb]
  clear hlt hlo hc hhi hc2 e1 e2 e3 hv he3 hea heb qa qb qc qd ha hb
  go_enter Try.func63, Try.ntmps63
  go_wp2_with (first
    | simp only [h1]
    | simp only [h2]
    | (go_at_call 40; refine (HC.out _).mono ?_; rintro e w1 ⟨rfl, hb1⟩; obtain ⟨hc1, hf1⟩ := bcell hb1; have hz1 := hb1.size; simp at hz1; have L1 : w.heap.size + 1 < w1.heap.size := by omega))
  exact bodyPost_ret (v := .agg #[.int .u64 (y3 : Int), .int .u64 (z3 : Int)]) (by simp [results, Try.results63, go_sem, hc1, hf1, L1]) rfl ⟨by rw [HR.out], (by repeat (first | exact Below.refl _ _ | assumption | refine Below.drew ?_ | refine Below.alloc ?_ (by first | omega | (simp <;> omega)) _ | refine Below.setCell ?_ (by first | omega | (simp <;> omega)) _ | refine Below.trans ?_ (Below.mono (by assumption) (by first | omega | (simp <;> omega)))))⟩

set_option maxRecDepth 100000 in
set_option maxHeartbeats 800000 in
theorem numSlice_any (n : Nat) (hi lo : Int) (w : World) (hn : n < B * B) (h0 : 0 ≤ lo) (h1 : lo ≤ hi) (h2 : hi < 128) : Calls Try.prog 65 #[numV n, .int .i64 hi, .int .i64 lo] w (RetNum w (n / 2 ^ sh lo % 2 ^ sh (hi - lo + 1))) := by
  have hlt : n / 2 ^ sh lo < B * B := Nat.lt_of_le_of_lt (Nat.div_le_self _ _) hn
  have HS : Hid (∀ W, Calls Try.prog 36 #[numV n, .int .i64 lo] W (RetNum W (n / 2 ^ sh lo))) := fun W => numShr_any n lo W hn
  have HC : Hid (∀ W, Calls Try.prog 40 #[numV (n / 2 ^ sh lo), .int .i64 (hi - lo + 1)] W (RetNum W (n / 2 ^ sh lo % 2 ^ sh (hi - lo + 1)))) := fun W => numCut_any _ _ W hlt
  generalize n / 2 ^ sh lo % 2 ^ sh (hi - lo + 1) = r at *
  generalize n / 2 ^ sh lo = m at *
  obtain ⟨y, z, he, -, -⟩ := numV_parts n
  obtain ⟨y1, z1, he1, -, -⟩ := numV_parts m
  obtain ⟨y3, z3, he3, -, -⟩ := numV_parts r
  have HR := Lib.hid he3
  unfold RetNum at HC HS
  rw [he, he1] at HS
  rw [he1, he3] at HC
  rw [he]
  clear he he1 he3 hn hlt
  go_enter Try.func65, Try.ntmps65
  go_wp2_with (first
    | (go_at_call 36; refine (HS.out _).mono ?_; rintro e w1 ⟨rfl, hb1⟩; obtain ⟨hc1, hf1⟩ := bcell hb1; have hz1 := hb1.size; simp at hz1; have L1 : w.heap.size + 1 < w1.heap.size := by omega)
    | (go_at_call 40; refine (HC.out _).mono ?_; rintro e w2 ⟨rfl, hb2⟩; obtain ⟨hc2, hf2⟩ := bcell hb2; have hz2 := hb2.size; have L2 : w.heap.size + 1 < w2.heap.size := by omega))
  all_goals exact bodyPost_ret (v := .agg #[.int .u64 (y3 : Int), .int .u64 (z3 : Int)]) (by simp [results, Try.results65, go_sem, hc1, hf1, hc2, hf2, L1, L2]) rfl ⟨by rw [HR.out], (by repeat (first | exact Below.refl _ _ | assumption | refine Below.drew ?_ | refine Below.alloc ?_ (by first | omega | (simp <;> omega)) _ | refine Below.setCell ?_ (by first | omega | (simp <;> omega)) _ | refine Below.trans ?_ (Below.mono (by assumption) (by first | omega | (simp <;> omega)))))⟩

end Go.Proofs.Ytpgpjaackaedhaa

/-
  What a region that draws its order keeps: cells that are read, cells that are written at its end.
-/
namespace Go.Proofs.Ytpgpjaackaedhaa
open Go.RowKit

theorem cell?_some_after {W : World} {p r : Addr} (a : Value) (h : ∃ x, W.cell? p = some x) : ∃ x, (W.setCell r a).cell? p = some x := by
  obtain ⟨x, hx⟩ := h
  by_cases e : p = r
  · subst e; exact ⟨a, World.cell?_setCell_same _ _ _ hx⟩
  · exact ⟨x, (World.cell?_setCell_other _ _ _ _ (fun q => e q.symm)).trans hx⟩
theorem cell?_apart {W : World} {p : Addr} {g j : Nat} {a v : Value} (h : p.block ≠ g) (hc : W.cell? p = some v) : (W.setCell ⟨g, j, none⟩ a).cell? p = some v :=
  (World.cell?_setCell_other _ _ _ _ (fun q => h (by rw [← q]))).trans hc

theorem held_6_0 {w W w1 : World} {p0 p1 p2 p3 p4 p5 : Addr} {v0 v1 v2 v3 v4 v5 : Value} (hb : Below W.heap.size W w1) (h : Below w.heap.size w W ∧ W.cell? p0 = some v0 ∧ W.cell? p1 = some v1 ∧ W.cell? p2 = some v2 ∧ W.cell? p3 = some v3 ∧ W.cell? p4 = some v4 ∧ W.cell? p5 = some v5) :
    Below w.heap.size w w1 ∧ w1.cell? p0 = some v0 ∧ w1.cell? p1 = some v1 ∧ w1.cell? p2 = some v2 ∧ w1.cell? p3 = some v3 ∧ w1.cell? p4 = some v4 ∧ w1.cell? p5 = some v5 := by
  obtain ⟨q, q0, q1, q2, q3, q4, q5⟩ := h
  exact ⟨q.trans (hb.mono q.size), (hb.cell (cell_there q0).1).trans q0, (hb.cell (cell_there q1).1).trans q1, (hb.cell (cell_there q2).1).trans q2, (hb.cell (cell_there q3).1).trans q3, (hb.cell (cell_there q4).1).trans q4, (hb.cell (cell_there q5).1).trans q5⟩

theorem held_4_0 {w W w1 : World} {p0 p1 p2 p3 : Addr} {v0 v1 v2 v3 : Value} (hb : Below W.heap.size W w1) (h : Below w.heap.size w W ∧ W.cell? p0 = some v0 ∧ W.cell? p1 = some v1 ∧ W.cell? p2 = some v2 ∧ W.cell? p3 = some v3) :
    Below w.heap.size w w1 ∧ w1.cell? p0 = some v0 ∧ w1.cell? p1 = some v1 ∧ w1.cell? p2 = some v2 ∧ w1.cell? p3 = some v3 := by
  obtain ⟨q, q0, q1, q2, q3⟩ := h
  exact ⟨q.trans (hb.mono q.size), (hb.cell (cell_there q0).1).trans q0, (hb.cell (cell_there q1).1).trans q1, (hb.cell (cell_there q2).1).trans q2, (hb.cell (cell_there q3).1).trans q3⟩

theorem held_4_2 {w W w1 : World} {p0 p1 p2 p3 : Addr} {v0 v1 v2 v3 : Value} {g : Nat} (hb : Below W.heap.size W w1) (h : Below w.heap.size w W ∧ W.cell? p0 = some v0 ∧ W.cell? p1 = some v1 ∧ W.cell? p2 = some v2 ∧ W.cell? p3 = some v3 ∧ (∃ x, W.cell? ⟨g, 0, none⟩ = some x) ∧ (∃ x, W.cell? ⟨g, 1, none⟩ = some x) ∧ W.frozen? ⟨g, 0, none⟩ = false ∧ W.frozen? ⟨g, 1, none⟩ = false) :
    Below w.heap.size w w1 ∧ w1.cell? p0 = some v0 ∧ w1.cell? p1 = some v1 ∧ w1.cell? p2 = some v2 ∧ w1.cell? p3 = some v3 ∧ (∃ x, w1.cell? ⟨g, 0, none⟩ = some x) ∧ (∃ x, w1.cell? ⟨g, 1, none⟩ = some x) ∧ w1.frozen? ⟨g, 0, none⟩ = false ∧ w1.frozen? ⟨g, 1, none⟩ = false := by
  obtain ⟨q, q0, q1, q2, q3, ⟨x0, z0⟩, ⟨x1, z1⟩, f0, f1⟩ := h
  exact ⟨q.trans (hb.mono q.size), (hb.cell (cell_there q0).1).trans q0, (hb.cell (cell_there q1).1).trans q1, (hb.cell (cell_there q2).1).trans q2, (hb.cell (cell_there q3).1).trans q3, ⟨x0, (hb.cell (cell_there z0).1).trans z0⟩, ⟨x1, (hb.cell (cell_there z1).1).trans z1⟩, (hb.frozen (cell_there z0).1).trans f0, (hb.frozen (cell_there z1).1).trans f1⟩

set_option maxRecDepth 100000 in
set_option maxHeartbeats 1000000 in
theorem heldset_4_2 {w W : World} {p0 p1 p2 p3 : Addr} {v0 v1 v2 v3 : Value} {g : Nat} (a0 a1 : Value) (hg : w.heap.size ≤ g) (hn : p0.block ≠ g ∧ p1.block ≠ g ∧ p2.block ≠ g ∧ p3.block ≠ g) (h : Below w.heap.size w W ∧ W.cell? p0 = some v0 ∧ W.cell? p1 = some v1 ∧ W.cell? p2 = some v2 ∧ W.cell? p3 = some v3 ∧ (∃ x, W.cell? ⟨g, 0, none⟩ = some x) ∧ (∃ x, W.cell? ⟨g, 1, none⟩ = some x) ∧ W.frozen? ⟨g, 0, none⟩ = false ∧ W.frozen? ⟨g, 1, none⟩ = false) :
    Below w.heap.size w ((W.setCell ⟨g, 0, none⟩ a0).setCell ⟨g, 1, none⟩ a1) ∧ ((W.setCell ⟨g, 0, none⟩ a0).setCell ⟨g, 1, none⟩ a1).cell? p0 = some v0 ∧ ((W.setCell ⟨g, 0, none⟩ a0).setCell ⟨g, 1, none⟩ a1).cell? p1 = some v1 ∧ ((W.setCell ⟨g, 0, none⟩ a0).setCell ⟨g, 1, none⟩ a1).cell? p2 = some v2 ∧ ((W.setCell ⟨g, 0, none⟩ a0).setCell ⟨g, 1, none⟩ a1).cell? p3 = some v3 ∧ (∃ x, ((W.setCell ⟨g, 0, none⟩ a0).setCell ⟨g, 1, none⟩ a1).cell? ⟨g, 0, none⟩ = some x) ∧ (∃ x, ((W.setCell ⟨g, 0, none⟩ a0).setCell ⟨g, 1, none⟩ a1).cell? ⟨g, 1, none⟩ = some x) ∧ ((W.setCell ⟨g, 0, none⟩ a0).setCell ⟨g, 1, none⟩ a1).frozen? ⟨g, 0, none⟩ = false ∧ ((W.setCell ⟨g, 0, none⟩ a0).setCell ⟨g, 1, none⟩ a1).frozen? ⟨g, 1, none⟩ = false := by
  obtain ⟨q, q0, q1, q2, q3, ⟨x0, z0⟩, ⟨x1, z1⟩, f0, f1⟩ := h
  obtain ⟨d0, d1, d2, d3⟩ := hn
  refine ⟨((q.setCell (by exact hg) _).setCell (by exact hg) _), (cell?_apart d0 (cell?_apart d0 q0)), (cell?_apart d1 (cell?_apart d1 q1)), (cell?_apart d2 (cell?_apart d2 q2)), (cell?_apart d3 (cell?_apart d3 q3)), ?_, ?_, ?_, ?_⟩
  · exact cell?_some_after _ (cell?_some_after _ (⟨x0, z0⟩))
  · exact cell?_some_after _ (cell?_some_after _ (⟨x1, z1⟩))
  · simp only [World.frozen?_setCell]; exact f0
  · simp only [World.frozen?_setCell]; exact f1

end Go.Proofs.Ytpgpjaackaedhaa
