/-
  Contract of quillonref01.Cmp: bit by bit.
-/
import Derived.Test.YtfalhemeiengcaaDoorTwo
import Derived.BigQuiet
import Derived.Deep.QuietTactic
import Derived.Outline
namespace Go.Proofs.YtfalhemeiengcaaDoor
open Go.RowKit

/-- How two numbers compare. -/
def cmpN (a b : Nat) : Int := if a < b then -1 else if b < a then 1 else 0
theorem cmpN_lt {a b : Nat} (h : a < b) : cmpN a b = -1 := by unfold cmpN; rw [if_pos h]
theorem cmpN_gt {a b : Nat} (h : b < a) : cmpN a b = 1 := by unfold cmpN; rw [if_neg (by omega), if_pos h]
theorem cmpN_eq {a b : Nat} (h : a = b) : cmpN a b = 0 := by unfold cmpN; rw [if_neg (by omega), if_neg (by omega)]

theorem lt_of_testBit {x y : Nat} (i : Nat) (hx : x.testBit i = false) (hy : y.testBit i = true) (h : ∀ j, i < j → x.testBit j = y.testBit j) : x < y := by
  have hd : x / 2 ^ (i + 1) = y / 2 ^ (i + 1) := by
    apply Nat.eq_of_testBit_eq
    intro j
    rw [Nat.testBit_div_two_pow, Nat.testBit_div_two_pow]
    exact h _ (by omega)
  have ex := Nat.div_add_mod x (2 ^ (i + 1))
  have ey := Nat.div_add_mod y (2 ^ (i + 1))
  have mx := Nat.mod_pow_succ (x := x) (b := 2) (k := i)
  have my := Nat.mod_pow_succ (x := y) (b := 2) (k := i)
  rw [testBit_div, beq_eq_false_iff_ne] at hx
  rw [testBit_div, beq_iff_eq] at hy
  have hx0 : x / 2 ^ i % 2 = 0 := by omega
  rw [hx0, Nat.mul_zero] at mx
  rw [hy, Nat.mul_one] at my
  have l := Nat.mod_lt x (Nat.two_pow_pos i)
  rw [hd] at ex
  omega

/-- All bits from the m-th on are the same. -/
def SameFrom (a b m : Nat) : Prop := ∀ i, m ≤ i → a.testBit i = b.testBit i

set_option maxRecDepth 100000 in
set_option maxHeartbeats 4000000 in
theorem refCmp_any (a b : Nat) (ha : a < B * B) (hb : b < B * B) (w : World) :
    Calls Tryd.prog 20 #[numV a, numV b] w fun e w' => e = .returned (.int .i64 (cmpN a b)) ∧ Below w.heap.size w w' := by
  obtain ⟨fa, hfa⟩ : ∃ fa, fa = a.testBit := ⟨_, rfl⟩
  obtain ⟨fb, hfb⟩ : ∃ fb, fb = b.testBit := ⟨_, rfl⟩
  have HA : Hid (∀ W, Calls Tryd.prog 53 #[numV a] W fun e w' => e = .returned (.agg (rowA fa)) ∧ Below W.heap.size W w') := fun W => by rw [hfa]; exact refBits_any a ha W
  have HB : Hid (∀ W, Calls Tryd.prog 53 #[numV b] W fun e w' => e = .returned (.agg (rowA fb)) ∧ Below W.heap.size W w') := fun W => by rw [hfb]; exact refBits_any b hb W
  have HFA := Lib.hid hfa
  have HFB := Lib.hid hfb
  obtain ⟨h1, l1, e1, -, -⟩ := numV_parts a
  obtain ⟨h2, l2, e2, -, -⟩ := numV_parts b
  rw [e1] at HA ⊢
  rw [e2] at HB ⊢
  clear e1 e2 hfa hfb
  go_enter Tryd.func20, Tryd.ntmps20
  go_wp2_with fail
  obtain ⟨W0, hW0⟩ : ∃ W0, W0 = (w.alloc (.cells #[.int .u64 (h1 : Int), .int .u64 (l1 : Int)] 24)).alloc (.cells #[.int .u64 (h2 : Int), .int .u64 (l2 : Int)] 24) := ⟨_, rfl⟩
  have hbW : Below w.heap.size w W0 := by rw [hW0]; exact (by repeat (first | exact Below.refl _ _ | assumption | refine Below.drew ?_ | refine Below.alloc ?_ (by first | omega | (simp <;> omega)) _ | refine Below.setCell ?_ (by first | omega | (simp <;> omega)) _ | refine Below.trans ?_ (Below.mono (by assumption) (by first | omega | (simp <;> omega)))))
  have z0 : w.heap.size < W0.heap.size := by rw [hW0]; simp <;> omega
  have z1 : w.heap.size + 1 < W0.heap.size := by rw [hW0]; simp
  have c0 : W0.cell? ⟨w.heap.size, 0, none⟩ = some (.int .u64 (h1 : Int)) := by rw [hW0]; simp [go_sem]
  have c1 : W0.cell? ⟨w.heap.size, 1, none⟩ = some (.int .u64 (l1 : Int)) := by rw [hW0]; simp [go_sem]
  have c2 : W0.cell? ⟨w.heap.size + 1, 0, none⟩ = some (.int .u64 (h2 : Int)) := by rw [hW0]; simp [go_sem]
  have c3 : W0.cell? ⟨w.heap.size + 1, 1, none⟩ = some (.int .u64 (l2 : Int)) := by rw [hW0]; simp [go_sem]
  rw [← hW0]
  have HBW0 := Lib.hid hbW
  clear hW0 hbW
  refine wp_region_inv (by kernel_rfl) (fun L a' w' => ∃ v5 v6 v8 v9 v10 v11 : Value, a' = ⟨#[.agg #[.int .u64 (h1 : Int), .int .u64 (l1 : Int)], .agg #[.int .u64 (h2 : Int), .int .u64 (l2 : Int)], .pointer (some ⟨w.heap.size, 0, none⟩), .pointer (some ⟨w.heap.size + 1, 0, none⟩), .int .i64 0, v5, v6, undef, v8, v9, v10, v11, undef, undef, undef, undef, undef, undef, undef, undef, undef, undef, undef, undef, undef, undef, undef, undef, undef, undef, undef, undef, undef, undef], []⟩ ∧ TwoI (.agg #[.int .u64 (h1 : Int), .int .u64 (l1 : Int)]) (.agg #[.int .u64 (h2 : Int), .int .u64 (l2 : Int)]) fa fb W0 L v5 v6 v8 v9 v10 v11 w') ?_ ?_ ?_ ?_
  · exact ⟨_, _, _, _, _, _, rfl, TwoI.init (by funext i; unfold did; match i with | 0 => rfl | 1 => rfl | 2 => rfl | 3 => rfl | 4 => rfl | 5 => rfl | 6 => rfl | 7 => rfl | i + 8 => rfl) (below_drewN (Below.refl _ _) 1)⟩
  · rintro L a' w' i hL hi hnd hdep ⟨v5, v6, v8, v9, v10, v11, rfl, hI⟩
    have hL8 : L.size = 8 := hL
    have HI := Lib.hid hI
    have d0 : w'.cell? ⟨w.heap.size, 0, none⟩ = some (.int .u64 (h1 : Int)) := (hI.below.cell (p := ⟨w.heap.size, 0, none⟩) z0).trans c0
    have d1 : w'.cell? ⟨w.heap.size, 1, none⟩ = some (.int .u64 (l1 : Int)) := (hI.below.cell (p := ⟨w.heap.size, 1, none⟩) z0).trans c1
    have d2 : w'.cell? ⟨w.heap.size + 1, 0, none⟩ = some (.int .u64 (h2 : Int)) := (hI.below.cell (p := ⟨w.heap.size + 1, 0, none⟩) z1).trans c2
    have d3 : w'.cell? ⟨w.heap.size + 1, 1, none⟩ = some (.int .u64 (l2 : Int)) := (hI.below.cell (p := ⟨w.heap.size + 1, 1, none⟩) z1).trans c3
    have hZ : Tryd.zeroCells56 = rowA fun _ => false := by kernel_rfl
    have HZ := Lib.hid hZ
    clear hZ hI
    match i, hi with
    | 0, _ =>
      clear hdep hnd
      refine wpOp_step rfl (fun K' hK => ?_)
      go_simp
      exact hK _ _ ⟨_, _, _, _, _, _, rfl, HI.out.s0 hL8⟩
    | 1, _ =>
      have q := HI.out.h0 (hdep _ rfl ⟨0, .data⟩ (by simp) (by kernel_rfl))
      subst q
      clear hdep hnd
      refine wpOp_step rfl (fun K' hK => ?_)
      go_simp
      refine (HA.out _).mono ?_
      rintro e w1 ⟨rfl, hb1⟩
      exact hK _ _ ⟨_, _, _, _, _, _, rfl, (HI.out.below' hb1).s1 hL8⟩
    | 2, _ =>
      clear hdep hnd
      refine wpOp_step rfl (fun K' hK => ?_)
      go_simp
      exact hK _ _ ⟨_, _, _, _, _, _, rfl, HI.out.s2 hL8⟩
    | 3, _ =>
      have q := HI.out.h2 (hdep _ rfl ⟨2, .data⟩ (by simp) (by kernel_rfl))
      subst q
      clear hdep hnd
      refine wpOp_step rfl (fun K' hK => ?_)
      go_simp
      refine (HB.out _).mono ?_
      rintro e w1 ⟨rfl, hb1⟩
      exact hK _ _ ⟨_, _, _, _, _, _, rfl, (HI.out.below' hb1).s3 hL8⟩
    | 4, _ =>
      have hnd' := Lib.hid hnd
      clear hdep hnd
      refine wpOp_step rfl (fun K' hK => ?_)
      go_simp
      rw [HZ.out]
      exact hK _ _ ⟨_, _, _, _, _, _, rfl, HI.out.s4 hL8 hnd'.out⟩
    | 5, _ =>
      have hnd' := Lib.hid hnd
      clear hdep hnd
      refine wpOp_step rfl (fun K' hK => ?_)
      go_simp
      rw [HZ.out]
      exact hK _ _ ⟨_, _, _, _, _, _, rfl, HI.out.s5 hL8 hnd'.out⟩
    | 6, _ =>
      have q4 := hdep _ rfl ⟨4, .data⟩ (by simp) (by kernel_rfl)
      have q := HI.out.h1 (hdep _ rfl ⟨1, .data⟩ (by simp) (by kernel_rfl))
      subst q
      obtain ⟨g, e1, -, e3⟩ := HI.out.h4 q4
      subst e1
      clear hdep hnd
      refine wpOp_step rfl (fun K' hK => ?_)
      refine store_wanted rfl ?_
      exact wp_store_row 56 (.tmp 5) (.tmp 9) rfl g (rowA fa) rfl rfl 56 _ e3 (by rw [rowA_size]; exact infoRow) (by rw [rowA_size, rowA_size]) (rowA_one _) (hK _ _ ⟨_, _, _, _, _, _, rfl, HI.out.s6 hL8 q4 rfl⟩)
    | 7, _ =>
      have q5 := hdep _ rfl ⟨5, .data⟩ (by simp) (by kernel_rfl)
      have q := HI.out.h3 (hdep _ rfl ⟨3, .data⟩ (by simp) (by kernel_rfl))
      subst q
      obtain ⟨g, e1, -, e3⟩ := HI.out.h5 q5
      subst e1
      clear hdep hnd
      refine wpOp_step rfl (fun K' hK => ?_)
      refine store_wanted rfl ?_
      exact wp_store_row 56 (.tmp 6) (.tmp 11) rfl g (rowA fb) rfl rfl 56 _ e3 (by rw [rowA_size]; exact infoRow) (by rw [rowA_size, rowA_size]) (rowA_one _) (hK _ _ ⟨_, _, _, _, _, _, rfl, HI.out.s7 hL8 q5 rfl⟩)
  · intro i o ho e he
    match i, ho with
    | 0, ho => cases ho; simp at he
    | 1, ho => cases ho; simp at he; subst he; show (0 : Nat) < 1; omega
    | 2, ho => cases ho; simp at he
    | 3, ho => cases ho; simp at he; rcases he with rfl | rfl <;> (simp <;> omega)
    | 4, ho => cases ho; simp at he
    | 5, ho => cases ho; simp at he
    | 6, ho => cases ho; simp at he; rcases he with rfl | rfl | rfl | rfl | rfl | rfl | rfl | rfl | rfl <;> (simp <;> omega)
    | 7, ho => cases ho; simp at he; rcases he with rfl | rfl | rfl | rfl | rfl | rfl | rfl | rfl | rfl | rfl <;> (simp <;> omega)
  rintro L a' w' hall ⟨v5, v6, v8, v9, v10, v11, rfl, hI⟩
  obtain ⟨rfl, rfl, rfl, rfl, gx, gy, hgn, rfl, rfl, hgx, hgy, hrx, hry, hbw⟩ := hI.all hall
  have HRX := Lib.hid hrx
  have HRY := Lib.hid hry
  have HBW := Lib.hid hbw
  have HGN := Lib.hid hgn
  clear hI hall hrx hry hbw hgn HA HB c0 c1 c2 c3
  have hwb : Below w.heap.size w w' := HBW0.out.trans (HBW.out.mono HBW0.out.size)
  have HWB := Lib.hid hwb
  have HS0 : Hid (SameFrom a b 128) := fun i hi => by
    rw [BB_pow2] at ha hb
    rw [Nat.testBit_lt_two_pow (Nat.lt_of_lt_of_le ha (Nat.pow_le_pow_right (by omega) hi)), Nat.testBit_lt_two_pow (Nat.lt_of_lt_of_le hb (Nat.pow_le_pow_right (by omega) hi))]
  clear HBW HBW0 z0 z1 HGN hwb
  go_wp2_with fail
  go_loop [7] (fun i => ∃ m : Nat, m ≤ 128 ∧ i = .int .i64 ((m : Int) - 1) ∧ Hid (SameFrom a b m)) (fun i => (intOf i + 1).toNat)
  case atStart => exact ⟨128, Nat.le_refl _, by go_num, HS0⟩
  case round =>
    obtain ⟨m, hm, rfl, HK⟩ := hrel
    cases m with
    | zero =>
      have HE : Hid (cmpN a b = 0) := cmpN_eq (Nat.eq_of_testBit_eq fun i => HK.out i (Nat.zero_le _))
      go_wp2_with fail
      go_ret
      exact ⟨by rw [HE.out]; rfl, HWB.out⟩
    | succ j =>
      have hj : j < 128 := by omega
      have ej : (((j + 1 : Nat) : Int) - 1) = (j : Int) := by omega
      rw [ej]
      clear ej
      have r1 : w'.cell? ⟨gx, j, none⟩ = some (.bool (fa j)) := by rw [cell_of_row w' gx j _ _ _ HRX.out]; exact rowA_at _ j hj
      have r2 : w'.cell? ⟨gy, j, none⟩ = some (.bool (fb j)) := by rw [cell_of_row w' gy j _ _ _ HRY.out]; exact rowA_at _ j hj
      have HBA : Hid (a.testBit j = fa j) := by show _ = _; rw [HFA.out]
      have HBB : Hid (b.testBit j = fb j) := by show _ = _; rw [HFB.out]
      have HLT : Hid (fa j = false → fb j = true → cmpN a b = -1) := fun h1 h2 => cmpN_lt (lt_of_testBit j (by rw [HBA.out, h1]) (by rw [HBB.out, h2]) (fun i hi => HK.out i hi))
      have HGT : Hid (fa j = true → fb j = false → cmpN a b = 1) := fun h1 h2 => cmpN_gt (lt_of_testBit j (by rw [HBB.out, h2]) (by rw [HBA.out, h1]) (fun i hi => (HK.out i hi).symm))
      have HEQ : Hid (fa j = fb j → SameFrom a b j) := fun h i hi => by
        rcases Nat.lt_or_ge j i with h1 | h1
        · exact HK.out i h1
        · obtain rfl : i = j := by omega
          rw [HBA.out, HBB.out, h]
      cases hf1 : fa j <;> cases hf2 : fb j
      · rw [hf1] at r1 HEQ
        rw [hf2] at r2 HEQ
        clear hf1 hf2
        go_wp2_with fail
        go_round
        case rel => exact ⟨j, by omega, rfl, Lib.hid (HEQ.out rfl)⟩
        case measure => simp [intOf]
      · have HE := Lib.hid (HLT.out hf1 hf2)
        rw [hf1] at r1
        rw [hf2] at r2
        clear hf1 hf2
        go_wp2_with fail
        go_ret
        exact ⟨by rw [HE.out]; rfl, HWB.out⟩
      · have HE := Lib.hid (HGT.out hf1 hf2)
        rw [hf1] at r1
        rw [hf2] at r2
        clear hf1 hf2
        go_wp2_with fail
        go_ret
        exact ⟨by rw [HE.out]; rfl, HWB.out⟩
      · rw [hf1] at r1 HEQ
        rw [hf2] at r2 HEQ
        clear hf1 hf2
        go_wp2_with fail
        go_round
        case rel => exact ⟨j, by omega, rfl, Lib.hid (HEQ.out rfl)⟩
        case measure => simp [intOf]

end Go.Proofs.YtfalhemeiengcaaDoor
