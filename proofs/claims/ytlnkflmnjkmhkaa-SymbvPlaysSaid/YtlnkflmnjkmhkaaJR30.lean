/-
  Lemmas, joined: RefCmp, Law17L.
-/
import Derived.Test.YtlnkflmnjkmhkaaJR17
import Derived.BigQuiet
import Derived.Deep.QuietTactic
import Derived.Outline
import Derived.Test.YtlnkflmnjkmhkaaJR29
import Derived.Test.YtlnkflmnjkmhkaaJR21
import Derived.Test.YtlnkflmnjkmhkaaJR19
import Derived.Deep.DeepCutAuto
import Derived.Deep.OwnRows
/-
  Contract of quillonref01.Cmp: bit by bit.
-/
namespace Go.Proofs.Ytlnkflmnjkmhkaa
open Go.RowKit

/-- How two numbers compare. -/
def cmpN (a b : Nat) : Int := if a < b then -1 else if b < a then 1 else 0
theorem cmpN_lt {a b : Nat} (h : a < b) : cmpN a b = -1 := by unfold cmpN; rw [if_pos h]
theorem cmpN_gt {a b : Nat} (h : b < a) : cmpN a b = 1 := by unfold cmpN; rw [if_neg (by omega), if_pos h]
theorem cmpN_eq {a b : Nat} (h : a = b) : cmpN a b = 0 := by unfold cmpN; rw [if_neg (by omega), if_neg (by omega)]

theorem lt_of_testBit {x y : Nat} (i : Nat) (hx : x.testBit i = false) (hy : y.testBit i = true) (h : ∀ j, i < j → x.testBit j = y.testBit j) : x < y := by
  have hd : x / 2 ^ (i + 1) = y / 2 ^ (i + 1) := by
    apply Nat.eq_of_testBit_eq
    intro j
    rw [Nat.testBit_div_two_pow, Nat.testBit_div_two_pow]
    exact h _ (by omega)
  have ex := Nat.div_add_mod x (2 ^ (i + 1))
  have ey := Nat.div_add_mod y (2 ^ (i + 1))
  have mx := Nat.mod_pow_succ (x := x) (b := 2) (k := i)
  have my := Nat.mod_pow_succ (x := y) (b := 2) (k := i)
  rw [testBit_div, beq_eq_false_iff_ne] at hx
  rw [testBit_div, beq_iff_eq] at hy
  have hx0 : x / 2 ^ i % 2 = 0 := by omega
  rw [hx0, Nat.mul_zero] at mx
  rw [hy, Nat.mul_one] at my
  have l := Nat.mod_lt x (Nat.two_pow_pos i)
  rw [hd] at ex
  omega

/-- All bits from the m-th on are the same. -/
def SameFrom (a b m : Nat) : Prop := ∀ i, m ≤ i → a.testBit i = b.testBit i

set_option maxRecDepth 100000 in
set_option maxHeartbeats 4000000 in
theorem refCmp_any (a b : Nat) (ha : a < B * B) (hb : b < B * B) (w : World) :
    Calls Try.prog 59 #[numV a, numV b] w fun e w' => e = .returned (.int .i64 (cmpN a b)) ∧ Below w.heap.size w w' := by
  obtain ⟨fa, hfa⟩ : ∃ fa, fa = a.testBit := ⟨_, rfl⟩
  obtain ⟨fb, hfb⟩ : ∃ fb, fb = b.testBit := ⟨_, rfl⟩
  have HA : Hid (∀ W, Calls Try.prog 88 #[numV a] W fun e w' => e = .returned (.agg (rowA fa)) ∧ Below W.heap.size W w') := fun W => by rw [hfa]; exact refBits_any a ha W
  have HB : Hid (∀ W, Calls Try.prog 88 #[numV b] W fun e w' => e = .returned (.agg (rowA fb)) ∧ Below W.heap.size W w') := fun W => by rw [hfb]; exact refBits_any b hb W
  have HFA := Lib.hid hfa
  have HFB := Lib.hid hfb
  obtain ⟨h1, l1, e1, -, -⟩ := numV_parts a
  obtain ⟨h2, l2, e2, -, -⟩ := numV_parts b
  rw [e1] at HA ⊢
  rw [e2] at HB ⊢
  clear e1 e2 hfa hfb
  go_enter Try.func59, Try.ntmps59
  go_wp2_with fail
  obtain ⟨W0, hW0⟩ : ∃ W0, W0 = (w.alloc (.cells #[.int .u64 (h1 : Int), .int .u64 (l1 : Int)] 41)).alloc (.cells #[.int .u64 (h2 : Int), .int .u64 (l2 : Int)] 41) := ⟨_, rfl⟩
  have hbW : Below w.heap.size w W0 := by rw [hW0]; exact (by repeat (first | exact Below.refl _ _ | assumption | refine Below.drew ?_ | refine Below.alloc ?_ (by first | omega | (simp <;> omega)) _ | refine Below.setCell ?_ (by first | omega | (simp <;> omega)) _ | refine Below.trans ?_ (Below.mono (by assumption) (by first | omega | (simp <;> omega)))))
  have z0 : w.heap.size < W0.heap.size := by rw [hW0]; simp <;> omega
  have z1 : w.heap.size + 1 < W0.heap.size := by rw [hW0]; simp
  have c0 : W0.cell? ⟨w.heap.size, 0, none⟩ = some (.int .u64 (h1 : Int)) := by rw [hW0]; simp [go_sem]
  have c1 : W0.cell? ⟨w.heap.size, 1, none⟩ = some (.int .u64 (l1 : Int)) := by rw [hW0]; simp [go_sem]
  have c2 : W0.cell? ⟨w.heap.size + 1, 0, none⟩ = some (.int .u64 (h2 : Int)) := by rw [hW0]; simp [go_sem]
  have c3 : W0.cell? ⟨w.heap.size + 1, 1, none⟩ = some (.int .u64 (l2 : Int)) := by rw [hW0]; simp [go_sem]
  rw [← hW0]
  have HBW0 := Lib.hid hbW
  clear hW0 hbW
  refine wp_region_inv (by kernel_rfl) (fun L a' w' => ∃ v5 v6 v8 v9 v10 v11 : Value, a' = ⟨#[.agg #[.int .u64 (h1 : Int), .int .u64 (l1 : Int)], .agg #[.int .u64 (h2 : Int), .int .u64 (l2 : Int)], .pointer (some ⟨w.heap.size, 0, none⟩), .pointer (some ⟨w.heap.size + 1, 0, none⟩), .int .i64 0, v5, v6, undef, v8, v9, v10, v11, undef, undef, undef, undef, undef, undef, undef, undef, undef, undef, undef, undef, undef, undef, undef, undef, undef, undef, undef, undef, undef, undef], []⟩ ∧ TwoI (.agg #[.int .u64 (h1 : Int), .int .u64 (l1 : Int)]) (.agg #[.int .u64 (h2 : Int), .int .u64 (l2 : Int)]) fa fb W0 L v5 v6 v8 v9 v10 v11 w') ?_ ?_ ?_ ?_
  · exact ⟨_, _, _, _, _, _, rfl, TwoI.init (by funext i; unfold did; match i with | 0 => rfl | 1 => rfl | 2 => rfl | 3 => rfl | 4 => rfl | 5 => rfl | 6 => rfl | 7 => rfl | i + 8 => rfl) (below_drewN (Below.refl _ _) 1)⟩
  · rintro L a' w' i hL hi hnd hdep ⟨v5, v6, v8, v9, v10, v11, rfl, hI⟩
    have hL8 : L.size = 8 := hL
    have HI := Lib.hid hI
    have d0 : w'.cell? ⟨w.heap.size, 0, none⟩ = some (.int .u64 (h1 : Int)) := (hI.below.cell (p := ⟨w.heap.size, 0, none⟩) z0).trans c0
    have d1 : w'.cell? ⟨w.heap.size, 1, none⟩ = some (.int .u64 (l1 : Int)) := (hI.below.cell (p := ⟨w.heap.size, 1, none⟩) z0).trans c1
    have d2 : w'.cell? ⟨w.heap.size + 1, 0, none⟩ = some (.int .u64 (h2 : Int)) := (hI.below.cell (p := ⟨w.heap.size + 1, 0, none⟩) z1).trans c2
    have d3 : w'.cell? ⟨w.heap.size + 1, 1, none⟩ = some (.int .u64 (l2 : Int)) := (hI.below.cell (p := ⟨w.heap.size + 1, 1, none⟩) z1).trans c3
    have hZ : Try.zeroCells120 = rowA fun _ => false := by kernel_rfl
    have HZ := Lib.hid hZ
    clear hZ hI
    match i, hi with
    | 0, _ =>
      clear hdep hnd
      refine wpOp_step rfl (fun K' hK => ?_)
      go_simp
      exact hK _ _ ⟨_, _, _, _, _, _, rfl, HI.out.s0 hL8⟩
    | 1, _ =>
      have q := HI.out.h0 (hdep _ rfl ⟨0, .data⟩ (by simp) (by kernel_rfl))
      subst q
      clear hdep hnd
      refine wpOp_step rfl (fun K' hK => ?_)
      go_simp
      refine (HA.out _).mono ?_
      rintro e w1 ⟨rfl, hb1⟩
      exact hK _ _ ⟨_, _, _, _, _, _, rfl, (HI.out.below' hb1).s1 hL8⟩
    | 2, _ =>
      clear hdep hnd
      refine wpOp_step rfl (fun K' hK => ?_)
      go_simp
      exact hK _ _ ⟨_, _, _, _, _, _, rfl, HI.out.s2 hL8⟩
    | 3, _ =>
      have q := HI.out.h2 (hdep _ rfl ⟨2, .data⟩ (by simp) (by kernel_rfl))
      subst q
      clear hdep hnd
      refine wpOp_step rfl (fun K' hK => ?_)
      go_simp
      refine (HB.out _).mono ?_
      rintro e w1 ⟨rfl, hb1⟩
      exact hK _ _ ⟨_, _, _, _, _, _, rfl, (HI.out.below' hb1).s3 hL8⟩
    | 4, _ =>
      have hnd' := Lib.hid hnd
      clear hdep hnd
      refine wpOp_step rfl (fun K' hK => ?_)
      go_simp
      rw [HZ.out]
      exact hK _ _ ⟨_, _, _, _, _, _, rfl, HI.out.s4 hL8 hnd'.out⟩
    | 5, _ =>
      have hnd' := Lib.hid hnd
      clear hdep hnd
      refine wpOp_step rfl (fun K' hK => ?_)
      go_simp
      rw [HZ.out]
      exact hK _ _ ⟨_, _, _, _, _, _, rfl, HI.out.s5 hL8 hnd'.out⟩
    | 6, _ =>
      have q4 := hdep _ rfl ⟨4, .data⟩ (by simp) (by kernel_rfl)
      have q := HI.out.h1 (hdep _ rfl ⟨1, .data⟩ (by simp) (by kernel_rfl))
      subst q
      obtain ⟨g, e1, -, e3⟩ := HI.out.h4 q4
      subst e1
      clear hdep hnd
      refine wpOp_step rfl (fun K' hK => ?_)
      refine store_wanted rfl ?_
      exact wp_store_row 120 (.tmp 5) (.tmp 9) rfl g (rowA fa) rfl rfl 120 _ e3 (by rw [rowA_size]; exact infoRow) (by rw [rowA_size, rowA_size]) (rowA_one _) (hK _ _ ⟨_, _, _, _, _, _, rfl, HI.out.s6 hL8 q4 rfl⟩)
    | 7, _ =>
      have q5 := hdep _ rfl ⟨5, .data⟩ (by simp) (by kernel_rfl)
      have q := HI.out.h3 (hdep _ rfl ⟨3, .data⟩ (by simp) (by kernel_rfl))
      subst q
      obtain ⟨g, e1, -, e3⟩ := HI.out.h5 q5
      subst e1
      clear hdep hnd
      refine wpOp_step rfl (fun K' hK => ?_)
      refine store_wanted rfl ?_
      exact wp_store_row 120 (.tmp 6) (.tmp 11) rfl g (rowA fb) rfl rfl 120 _ e3 (by rw [rowA_size]; exact infoRow) (by rw [rowA_size, rowA_size]) (rowA_one _) (hK _ _ ⟨_, _, _, _, _, _, rfl, HI.out.s7 hL8 q5 rfl⟩)
  · intro i o ho e he
    match i, ho with
    | 0, ho => cases ho; simp at he
    | 1, ho => cases ho; simp at he; subst he; show (0 : Nat) < 1; omega
    | 2, ho => cases ho; simp at he
    | 3, ho => cases ho; simp at he; rcases he with rfl | rfl <;> (simp <;> omega)
    | 4, ho => cases ho; simp at he
    | 5, ho => cases ho; simp at he
    | 6, ho => cases ho; simp at he; rcases he with rfl | rfl | rfl | rfl | rfl | rfl | rfl | rfl | rfl <;> (simp <;> omega)
    | 7, ho => cases ho; simp at he; rcases he with rfl | rfl | rfl | rfl | rfl | rfl | rfl | rfl | rfl | rfl <;> (simp <;> omega)
  rintro L a' w' hall ⟨v5, v6, v8, v9, v10, v11, rfl, hI⟩
  obtain ⟨rfl, rfl, rfl, rfl, gx, gy, hgn, rfl, rfl, hgx, hgy, hrx, hry, hbw⟩ := hI.all hall
  have HRX := Lib.hid hrx
  have HRY := Lib.hid hry
  have HBW := Lib.hid hbw
  have HGN := Lib.hid hgn
  clear hI hall hrx hry hbw hgn HA HB c0 c1 c2 c3
  have hwb : Below w.heap.size w w' := HBW0.out.trans (HBW.out.mono HBW0.out.size)
  have HWB := Lib.hid hwb
  have HS0 : Hid (SameFrom a b 128) := fun i hi => by
    rw [BB_pow2] at ha hb
    rw [Nat.testBit_lt_two_pow (Nat.lt_of_lt_of_le ha (Nat.pow_le_pow_right (by omega) hi)), Nat.testBit_lt_two_pow (Nat.lt_of_lt_of_le hb (Nat.pow_le_pow_right (by omega) hi))]
  clear HBW HBW0 z0 z1 HGN hwb
  go_wp2_with fail
  go_loop [7] (fun i => ∃ m : Nat, m ≤ 128 ∧ i = .int .i64 ((m : Int) - 1) ∧ Hid (SameFrom a b m)) (fun i => (intOf i + 1).toNat)
  case atStart => exact ⟨128, Nat.le_refl _, by go_num, HS0⟩
  case round =>
    obtain ⟨m, hm, rfl, HK⟩ := hrel
    cases m with
    | zero =>
      have HE : Hid (cmpN a b = 0) := cmpN_eq (Nat.eq_of_testBit_eq fun i => HK.out i (Nat.zero_le _))
      go_wp2_with fail
      go_ret
      exact ⟨by rw [HE.out]; rfl, HWB.out⟩
    | succ j =>
      have hj : j < 128 := by omega
      have ej : (((j + 1 : Nat) : Int) - 1) = (j : Int) := by omega
      rw [ej]
      clear ej
      have r1 : w'.cell? ⟨gx, j, none⟩ = some (.bool (fa j)) := by rw [cell_of_row w' gx j _ _ _ HRX.out]; exact rowA_at _ j hj
      have r2 : w'.cell? ⟨gy, j, none⟩ = some (.bool (fb j)) := by rw [cell_of_row w' gy j _ _ _ HRY.out]; exact rowA_at _ j hj
      have HBA : Hid (a.testBit j = fa j) := by show _ = _; rw [HFA.out]
      have HBB : Hid (b.testBit j = fb j) := by show _ = _; rw [HFB.out]
      have HLT : Hid (fa j = false → fb j = true → cmpN a b = -1) := fun h1 h2 => cmpN_lt (lt_of_testBit j (by rw [HBA.out, h1]) (by rw [HBB.out, h2]) (fun i hi => HK.out i hi))
      have HGT : Hid (fa j = true → fb j = false → cmpN a b = 1) := fun h1 h2 => cmpN_gt (lt_of_testBit j (by rw [HBB.out, h2]) (by rw [HBA.out, h1]) (fun i hi => (HK.out i hi).symm))
      have HEQ : Hid (fa j = fb j → SameFrom a b j) := fun h i hi => by
        rcases Nat.lt_or_ge j i with h1 | h1
        · exact HK.out i h1
        · obtain rfl : i = j := by omega
          rw [HBA.out, HBB.out, h]
      cases hf1 : fa j <;> cases hf2 : fb j
      · rw [hf1] at r1 HEQ
        rw [hf2] at r2 HEQ
        clear hf1 hf2
        go_wp2_with fail
        go_round
        case rel => exact ⟨j, by omega, rfl, Lib.hid (HEQ.out rfl)⟩
        case measure => simp [intOf]
      · have HE := Lib.hid (HLT.out hf1 hf2)
        rw [hf1] at r1
        rw [hf2] at r2
        clear hf1 hf2
        go_wp2_with fail
        go_ret
        exact ⟨by rw [HE.out]; rfl, HWB.out⟩
      · have HE := Lib.hid (HGT.out hf1 hf2)
        rw [hf1] at r1
        rw [hf2] at r2
        clear hf1 hf2
        go_wp2_with fail
        go_ret
        exact ⟨by rw [HE.out]; rfl, HWB.out⟩
      · rw [hf1] at r1 HEQ
        rw [hf2] at r2 HEQ
        clear hf1 hf2
        go_wp2_with fail
        go_round
        case rel => exact ⟨j, by omega, rfl, Lib.hid (HEQ.out rfl)⟩
        case measure => simp [intOf]

end Go.Proofs.Ytlnkflmnjkmhkaa

/-
  The law SymbvMeans of layer 17: the loop over the bits.
-/
namespace Go.Proofs.Ytlnkflmnjkmhkaa
open Go.RowKit Go.Maps

def firstLoop : Code → Option Code
  | .loop c => some c
  | .seq a b => match firstLoop a with
    | some c => some c
    | none => firstLoop b
  | .block _ c => firstLoop c
  | .scope c => firstLoop c
  | .cond _ a b => match firstLoop a with
    | some c => some c
    | none => firstLoop b
  | _ => none
noncomputable def body17 : Code := (Try.f4.body.bind firstLoop).getD .skip

/-- The bits of a number, the highest first. -/
def bitsOf (N t : Nat) : List Bool := (List.range N).map fun j => t.testBit (N - 1 - j)
theorem bitsOf_len (N t : Nat) : (bitsOf N t).length = N := by simp [bitsOf]
theorem bitsOf_getD (N t j : Nat) (h : j < N) : (bitsOf N t).getD j false = t.testBit (N - 1 - j) := by
  unfold bitsOf
  rw [List.getD_eq_getElem?_getD, List.getElem?_map, List.getElem?_range h]
  rfl
theorem pN_bits (W X t : Nat) (ht : t < 2 ^ (W + X)) : pN W (qOf (bitsOf (W + X) t)) = t / 2 ^ X := by
  unfold pN
  refine ofBits_eq ?_ fun i hi => ?_
  · rw [Nat.div_lt_iff_lt_mul (Nat.two_pow_pos _), ← Nat.pow_add]; exact ht
  · show (bitsOf (W + X) t).getD (((W - 1 - i : Nat) : Int).toNat) false = _
    rw [Int.toNat_natCast, bitsOf_getD _ _ _ (by omega), Nat.testBit_div_two_pow]
    congr 1
    omega
theorem kN_bits (W X t : Nat) : kN W X (qOf (bitsOf (W + X) t)) = t % 2 ^ X := by
  unfold kN
  refine ofBits_eq (Nat.mod_lt _ (Nat.two_pow_pos _)) fun i hi => ?_
  show (bitsOf (W + X) t).getD (((W + (X - 1 - i) : Nat) : Int).toNat) false = _
  rw [Int.toNat_natCast, bitsOf_getD _ _ _ (by omega), Nat.testBit_mod_two_pow]
  have e : decide (i < X) = true := by simp [hi]
  rw [e, Bool.true_and]
  congr 1
  omega
theorem sel5_bits (W X t : Nat) (hX : 1 ≤ X) : sel5 W X (qOf (bitsOf (W + X) t)) = (t % 2 == 1) := by
  unfold sel5
  show (bitsOf (W + X) t).getD (((W + (X - 1) : Nat) : Int).toNat) false = _
  rw [Int.toNat_natCast, bitsOf_getD _ _ _ (by omega), show W + X - 1 - (W + (X - 1)) = 0 by omega, Nat.testBit_zero]
  cases h : t % 2 == 1 <;> simp_all

theorem infoBool17 : (Try.prog.info? 4).map (fun i => (i.zero, i.size, i.bytes)) = some (some (.bool false), 1, 1) := by kernel_rfl

/-- The bits are being laid. -/
def FillAt (WB : World) (g N k j : Nat) (w : World) : Prop :=
  Below WB.heap.size WB w ∧ WB.heap.size ≤ g ∧ g < w.heap.size ∧ ∀ i, i < N → w.frozen? ⟨g, i, none⟩ = false ∧ w.cell? ⟨g, i, none⟩ = some (.bool (decide (i < j) && k.testBit (N - 1 - i)))
theorem FillAt.step {WB w : World} {g N k j : Nat} (h : FillAt WB g N k j w) (hj : j < N) (x : Bool) (hx : x = k.testBit (N - 1 - j)) : FillAt WB g N k (j + 1) (w.setCell ⟨g, j, none⟩ (.bool x)) := by
  obtain ⟨h1, h2, h3, h4⟩ := h
  refine ⟨h1.setCell h2 _, h2, by simpa using h3, fun i hi => ⟨by rw [World.frozen?_setCell]; exact (h4 i hi).1, ?_⟩⟩
  by_cases e : i = j
  · subst e
    rw [World.cell?_setCell_same _ _ _ (h4 i hi).2, hx]
    have : decide (i < i + 1) = true := by simp
    rw [this, Bool.true_and]
  · rw [World.cell?_setCell_other _ _ _ _ (by simp <;> omega), (h4 i hi).2]
    have : decide (i < j + 1) = decide (i < j) := decide_eq_decide.2 (by omega)
    rw [this]
theorem FillAt.start {WB w : World} {N k : Nat} (hb : Below WB.heap.size WB w) : FillAt WB w.heap.size N k 0 (w.alloc (.cells (madeCells #[.bool false] N) 4)) := by
  refine ⟨hb.alloc hb.size _, hb.size, by simp, fun i hi => ⟨?_, ?_⟩⟩
  · simp [go_sem]
  · have e : (madeCells #[.bool false] N)[i]? = some (.bool false) := by simp [madeCells, hi, Nat.mod_one]
    simp [go_sem, e]
theorem FillAt.bvec {WB w : World} {g N k : Nat} (h : FillAt WB g N k N w) (hN : N ≤ 8) : BVec w (.slice (some ⟨g, 0, none⟩) N N) (bitsOf N k) := by
  obtain ⟨h1, h2, h3, h4⟩ := h
  refine ⟨some ⟨g, 0, none⟩, N, by rw [bitsOf_len], by rw [bitsOf_len]; exact Nat.le_refl _, by unfold maxLen; omega, fun _ => ⟨g, 0, rfl, h3, fun i hi => ?_⟩⟩
  rw [bitsOf_len] at hi
  rw [Nat.zero_add, (h4 i hi).2, bitsOf_getD _ _ _ hi]
  simp [hi]

theorem bit_i64_small : ∀ x : Fin 257, (bits .and .i64 (x.val : Int) 1 == 1) = (x.val % 2 == 1) := by decide +kernel
theorem bit_i64 (k e : Nat) (hk : k ≤ 256) : (bits .and .i64 ((k : Int) / 2 ^ e) 1 == 1) = k.testBit e := by
  have h := bit_i64_small ⟨k / 2 ^ e, by have := Nat.div_le_self k (2 ^ e); omega⟩
  have e1 : ((k : Int) / 2 ^ e) = ((k / 2 ^ e : Nat) : Int) := by rw [Int.natCast_ediv, Int.natCast_pow]; rfl
  rw [e1]
  refine h.trans ?_
  rw [testBit_div]

end Go.Proofs.Ytlnkflmnjkmhkaa
