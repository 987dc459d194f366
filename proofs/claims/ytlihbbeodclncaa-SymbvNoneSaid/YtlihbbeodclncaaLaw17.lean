/-
  The law SymbvNone of layer 17: the call answers true, and nothing that was has changed.
-/
import Derived.Test.YtlihbbeodclncaaKnown17b
namespace Go.Proofs.Ytlihbbeodclncaa
open Go.RowKit

theorem IVec.zshape {w : World} {v : Value} {n : Nat} (h : IVec w v (List.replicate n 0)) : ∃ p c, v = .slice p n c := by
  obtain ⟨p, c, h1, -⟩ := h.shape
  exact ⟨p, c, by simpa using h1⟩

set_option maxHeartbeats 800000 in
theorem law17_long (pa pb : Option Addr) (la lb ca cb : Nat) (n : Int) (w : World) (h : 300 < la ∨ 300 < lb) (hla : la ≤ maxLen) (hlb : lb ≤ maxLen) :
    Calls Try.prog 4 #[.slice pa la ca, .slice pb lb cb, .int .i64 n] w fun e w' => e = .returned (.bool true) ∧ Below w.heap.size w w' := by
  unfold maxLen at hla hlb
  by_cases h1 : 300 < la
  · go_enter Try.func4, Try.ntmps4
    go_wp2_with (go_at_call 16; refine (known17_true _).mono ?_; rintro e w1 ⟨rfl, hb⟩)
    go_ret
    exact ⟨rfl, hb⟩
  · have h2 : 300 < lb := by omega
    go_enter Try.func4, Try.ntmps4
    go_wp2_with (go_at_call 16; refine (known17_true _).mono ?_; rintro e w1 ⟨rfl, hb⟩)
    go_ret
    exact ⟨rfl, hb⟩

set_option maxRecDepth 100000 in
set_option maxHeartbeats 2000000 in
theorem law17_short (va vb : Value) (xs ys : List Int) (n : Int) (w : World) (ha : IVec w va xs) (hb : IVec w vb ys) (hxl : xs.length ≤ 300) (hyl : ys.length ≤ 300)
    (hn0 : -9223372036854775808 ≤ n) (hn1 : n ≤ 9223372036854775807) :
    Calls Try.prog 4 #[va, vb, .int .i64 n] w fun e w' => e = .returned (.bool true) ∧ Below w.heap.size w w' := by
  obtain ⟨pa, ca, ea, ha3, ha4, -⟩ := ha.shape
  obtain ⟨pb, cb, eb, hb3, hb4, -⟩ := hb.shape
  subst ea eb
  have HA := Lib.hid ha; clear ha
  have HB := Lib.hid hb; clear hb
  go_enter Try.func4, Try.ntmps4
  go_wp2_with fail
  refine (symbvVars_nil 0 n _ hn0 hn1).mono ?_
  rintro e w1 ⟨v1, rfl, hv1, hb1⟩
  have HA1 := Lib.hid (HA.out.below hb1)
  have HB1 := Lib.hid (HB.out.below hb1)
  go_wp2_with fail
  refine (symbvAnd_nil _ _ xs ys _ HA1.out HB1.out (by omega) (by omega)).mono ?_
  rintro e w2 ⟨v2, rfl, hv2, hb2⟩
  have HA2 := Lib.hid (HA1.out.below hb2)
  have HB2 := Lib.hid (HB1.out.below hb2)
  clear HA1 HB1
  go_wp2_with fail
  refine (symbvOr_nil _ _ xs ys _ HA2.out HB2.out (by omega) (by omega)).mono ?_
  rintro e w3 ⟨v3, rfl, hv3, hb3'⟩
  have HA3 := Lib.hid (HA2.out.below hb3')
  have HB3 := Lib.hid (HB2.out.below hb3')
  clear HA2 HB2
  go_wp2_with fail
  refine (symbvXor_nil _ _ xs ys _ HA3.out HB3.out (by omega) (by omega)).mono ?_
  rintro e w4 ⟨v4, rfl, hv4, hb4'⟩
  have HA4 := Lib.hid (HA3.out.below hb4')
  have HB4 := Lib.hid (HB3.out.below hb4')
  clear HA3 HB3
  go_wp2_with fail
  refine (symbvNot_nil _ xs _ HA4.out (by omega)).mono ?_
  rintro e w5 ⟨v5, rfl, hv5, hb5⟩
  have HA5 := Lib.hid (HA4.out.below hb5)
  have HB5 := Lib.hid (HB4.out.below hb5)
  clear HA4 HB4
  go_wp2_with fail
  refine (symbvMux_nil 1 _ _ xs ys _ HA5.out HB5.out (by omega) (by omega)).mono ?_
  rintro e w6 ⟨v6, rfl, hv6, hb6⟩
  have HA6 := Lib.hid (HA5.out.below hb6)
  clear HA5 HB5
  have K5 := hv5.below hb6
  have K4 := (hv4.below hb5).below hb6
  have K3 := ((hv3.below hb4').below hb5).below hb6
  have K2 := (((hv2.below hb3').below hb4').below hb5).below hb6
  have K1 := ((((hv1.below hb2).below hb3').below hb4').below hb5).below hb6
  have hW : Below w.heap.size w w6 := ((((hb1.trans (hb2.mono hb1.size)).trans (hb3'.mono (Nat.le_trans hb1.size hb2.size))).trans (hb4'.mono (Nat.le_trans (Nat.le_trans hb1.size hb2.size) hb3'.size))).trans (hb5.mono (Nat.le_trans (Nat.le_trans (Nat.le_trans hb1.size hb2.size) hb3'.size) hb4'.size))).trans (hb6.mono (Nat.le_trans (Nat.le_trans (Nat.le_trans (Nat.le_trans hb1.size hb2.size) hb3'.size) hb4'.size) hb5.size))
  obtain ⟨p1, c1, rfl⟩ := hv1.zshape
  obtain ⟨p2, c2, rfl⟩ := hv2.zshape
  obtain ⟨p3, c3, rfl⟩ := hv3.zshape
  obtain ⟨p4, c4, rfl⟩ := hv4.zshape
  obtain ⟨p5, c5, rfl⟩ := hv5.zshape
  obtain ⟨p6, c6, rfl⟩ := hv6.zshape
  clear hv1 hv2 hv3 hv4 hv5 hb1 hb2 hb3' hb4' hb5 hb6
  have hMx : xs.length ≤ max xs.length ys.length := by omega
  have hMy : ys.length ≤ max xs.length ys.length := by omega
  have hMo : max xs.length ys.length ≤ xs.length ∨ max xs.length ys.length ≤ ys.length := by omega
  generalize max xs.length ys.length = M at hMx hMy hMo hv6 K2 K3 K4 ⊢
  generalize (max 0 (min n 64)).toNat = N1 at K1 ⊢
  go_wp2_with fail
  obtain ⟨X, hX⟩ : ∃ X, X = w6.alloc (.cells #[.slice p1 N1 c1, .slice p2 M c2, .slice p3 M c3, .slice p4 M c4, .slice p5 xs.length c5, .slice p6 M c6] 23) := ⟨_, rfl⟩
  have hbX : Below w6.heap.size w6 X := by rw [hX]; exact (by repeat (first | exact Below.refl _ _ | assumption | refine Below.drew ?_ | refine Below.alloc ?_ (by first | omega | (simp <;> omega)) _ | refine Below.setCell ?_ (by first | omega | (simp <;> omega)) _ | refine Below.trans ?_ (Below.mono (by assumption) (by first | omega | (simp <;> omega)))))
  have HALL : Hid (∀ k, k < 6 → ∃ p m c, X.cell? ⟨w6.heap.size, k, none⟩ = some (.slice p m c) ∧ IVec X (.slice p m c) (List.replicate m 0)) := by
    intro k hk
    match k, hk with
    | 0, _ => exact ⟨_, _, _, by rw [hX]; simp [go_sem], K1.below hbX⟩
    | 1, _ => exact ⟨_, _, _, by rw [hX]; simp [go_sem], K2.below hbX⟩
    | 2, _ => exact ⟨_, _, _, by rw [hX]; simp [go_sem], K3.below hbX⟩
    | 3, _ => exact ⟨_, _, _, by rw [hX]; simp [go_sem], K4.below hbX⟩
    | 4, _ => exact ⟨_, _, _, by rw [hX]; simp [go_sem], K5.below hbX⟩
    | 5, _ => exact ⟨_, _, _, by rw [hX]; simp [go_sem], hv6.below hbX⟩
  have hc1 : X.cell? ⟨w6.heap.size, 1, none⟩ = some (.slice p2 M c2) := by rw [hX]; simp [go_sem]
  have HA7 : Hid (IVec X (.slice pa xs.length ca) xs) := HA6.out.below hbX
  have HW : Hid (Below w.heap.size w X) := hW.trans (hbX.mono hW.size)
  have hsX : w6.heap.size < X.heap.size := by rw [hX]; simp
  rw [← hX]
  clear hX hbX K1 K2 K3 K4 K5 hv6 HA6 HA HB hW
  go_loop [42] (fun i => ∃ k : Nat, k ≤ 6 ∧ i = .int .i64 k) (fun i => 6 - (intOf i).toNat)
  case atStart => exact ⟨0, Nat.zero_le _, rfl⟩
  case round =>
    obtain ⟨k, hk, rfl⟩ := hrel
    by_cases hlt : k < 6
    · obtain ⟨p, m, c, hck, hvk⟩ := HALL.out k hlt
      obtain ⟨p', c', e', hm1, hm2, hm3⟩ := hvk.shape
      simp only [List.length_replicate] at e' hm1 hm2 hm3
      have hmm : m ≤ maxLen := by omega
      unfold maxLen at hmm
      simp only [Value.slice.injEq] at e'
      obtain ⟨e1, -, e2⟩ := e'
      subst e1 e2
      have HM3 := Lib.hid hm3
      clear hm3 hvk
      go_wp2_with fail
      go_loop [48] (fun i => ∃ j : Nat, j ≤ m ∧ i = .int .i64 j) (fun i => m - (intOf i).toNat)
      case atStart => exact ⟨0, Nat.zero_le _, rfl⟩
      case round =>
        obtain ⟨j, hj, rfl⟩ := hrel
        by_cases hlj : j < m
        · obtain ⟨bb, ob, rfl, hbb, hcc⟩ := HM3.out (by omega)
          have gj := hcc j hlj
          have ez : (List.replicate m (0 : Int)).getD j 0 = 0 := by simp [hlj]
          rw [ez] at gj
          clear hcc ez
          go_wp2_with fail
          go_round
          case rel => exact ⟨j + 1, by omega, by go_num⟩
          case measure => simp [intOf]; omega
        · obtain rfl : j = m := by omega
          go_wp2_with fail
          go_round
          case rel => exact ⟨k + 1, by omega, by go_num⟩
          case measure => simp [intOf]; omega
    · obtain rfl : k = 6 := by omega
      have HZ := Lib.hid zero_eq_numV
      go_wp2_with fail
      refine (is_nil _).mono ?_
      rintro e w7 ⟨rfl, hb7⟩
      rw [← HZ.out]
      have HA8 : Hid (IVec (w7.alloc (.cells #[.int .u64 0, .int .u64 0] 26)) (.slice pa xs.length ca) xs) := (HA7.out.below hb7).below (by repeat (first | exact Below.refl _ _ | assumption | refine Below.drew ?_ | refine Below.alloc ?_ (by first | omega | (simp <;> omega)) _ | refine Below.setCell ?_ (by first | omega | (simp <;> omega)) _ | refine Below.trans ?_ (Below.mono (by assumption) (by first | omega | (simp <;> omega)))))
      have hc7 : w7.cell? ⟨w6.heap.size, 1, none⟩ = some (.slice p2 M c2) := (hb7.cell (p := ⟨w6.heap.size, 1, none⟩) hsX).trans hc1
      have hs7 := hb7.size
      clear hc1 HA7
      go_wp2_with fail
      refine (eval_nil _ _ xs _ HA8.out (by omega)).mono ?_
      rintro e w8 ⟨rfl, hb8⟩
      rw [← HZ.out]
      have hc8 : w8.cell? ⟨w6.heap.size, 1, none⟩ = some (.slice p2 M c2) := by
        rw [hb8.cell (p := ⟨w6.heap.size, 1, none⟩) (by simp; omega)]
        rw [((Below.refl w7.heap.size w7).alloc (Nat.le_refl _) _).cell (p := ⟨w6.heap.size, 1, none⟩) (by simp; omega)]
        exact hc7
      have hs8 := hb8.size
      simp at hs8
      clear hc7 HA8
      have HF : Hid (Below w.heap.size w w8) := by
        have h7 : Below X.heap.size X (w7.alloc (.cells #[.int .u64 0, .int .u64 0] 26)) := hb7.alloc (by omega) _
        exact (HW.out.trans (h7.mono HW.out.size)).trans (hb8.mono (by have := HW.out.size; simp; omega))
      clear hb7 hb8 HW
      go_wp2_with fail
      all_goals
        refine (known17_true _).mono ?_
        rintro e w9 ⟨rfl, hb9⟩
        go_wp2_with fail
        go_ret
        exact ⟨rfl, HF.out.trans (hb9.mono HF.out.size)⟩

end Go.Proofs.Ytlihbbeodclncaa
