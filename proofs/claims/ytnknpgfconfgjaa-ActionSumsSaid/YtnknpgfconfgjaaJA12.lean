/-
  Lemmas, joined: RefNot, RefOf, RefSubA, Of, Of2, Code.
-/
import Derived.Test.YtnknpgfconfgjaaJA11
import Derived.Test.YtnknpgfconfgjaaJA02
import Derived.Deep.RegionHeld3
/-
  Contract of quillonref01.Not.
-/
namespace Go.Proofs.Ytnknpgfconfgjaa
open Go.RowKit

set_option maxRecDepth 100000 in
set_option maxHeartbeats 4000000 in
theorem refNot_any (n : Nat) (c : Int) (hn : n < B * B) (w : World) :
    Calls Try.prog 28 #[numV n, .int .i64 c] w (RetNum w ((n % 2 ^ sh c) ^^^ (2 ^ sh c - 1))) := by
  obtain ⟨f, hf⟩ : ∃ f, f = n.testBit := ⟨_, rfl⟩
  have HA : Hid (∀ W, Calls Try.prog 24 #[numV n] W fun e w' => e = .returned (.agg (rowA f)) ∧ Below W.heap.size W w') := fun W => by rw [hf]; exact refBits_any n hn W
  have HF := Lib.hid hf
  obtain ⟨h1, l1, e1, -, -⟩ := numV_parts n
  rw [e1] at HA ⊢
  clear e1 hf
  go_enter Try.func28, Try.ntmps28
  go_wp2_with fail
  refine (HA.out _).mono ?_
  rintro e w1 ⟨rfl, hb1⟩
  obtain ⟨W0, hW0⟩ : ∃ W0, W0 = (w.alloc (.cells #[.int .u64 (h1 : Int), .int .u64 (l1 : Int)] 24)).alloc (.cells #[.int .u64 0, .int .u64 0] 24) := ⟨_, rfl⟩
  have hbW : Below w.heap.size w W0 := by rw [hW0]; exact (by repeat (first | exact Below.refl _ _ | assumption | refine Below.drew ?_ | refine Below.alloc ?_ (by first | omega | (simp <;> omega)) _ | refine Below.setCell ?_ (by first | omega | (simp <;> omega)) _ | refine Below.trans ?_ (Below.mono (by assumption) (by first | omega | (simp <;> omega)))))
  have z1 : w.heap.size + 1 < W0.heap.size := by rw [hW0]; simp
  have cr : W0.heap[w.heap.size + 1]? = some (.cells #[.int .u64 0, .int .u64 0] 24 (0, 0)) := by
    rw [hW0]
    have := heap_new (w.alloc (.cells #[.int .u64 (h1 : Int), .int .u64 (l1 : Int)] 24)) (.cells #[.int .u64 0, .int .u64 0] 24)
    simp only [World.size_alloc] at this
    exact this
  rw [← hW0] at hb1
  have hs1 := hb1.size
  have cr1 := (hb1.block _ z1).trans cr
  have HB1 : Hid (Below w.heap.size w w1) := hbW.trans (hb1.mono hbW.size)
  clear hb1 hW0 hbW cr
  have hZ : Try.zeroCells70 = rowA fun _ => false := by kernel_rfl
  have hnew := heap_new w1 (.cells Try.zeroCells70 70)
  have HZS : Hid ((Try.zeroCells70).size = 128) := by show _ = _; rw [hZ]; exact rowA_size _
  have hset := setRow_heap _ _ _ (rowA f) _ _ hnew
  have HNW := Lib.hid hnew
  have HST := Lib.hid hset
  clear hZ hnew hset
  go_wp2_with (refine wpList_store_row rfl 70 (.tmp 5) (.tmp 8) rfl w1.heap.size (rowA f) rfl rfl 70 _ HNW.out (by rw [rowA_size]; exact infoRow) (by rw [rowA_size]; exact HZS.out) (rowA_one _) ?_)
  obtain ⟨g, hg⟩ : ∃ g : Nat → Bool, g = fun i => !f i && decide ((i : Int) < c) := ⟨_, rfl⟩
  have HG : Hid (∀ i, g i = (!f i && decide ((i : Int) < c))) := fun i => by rw [hg]
  have H0 : Hid (InAt g f w w1.heap.size (w.heap.size + 1) 0 ((w1.alloc (.cells Try.zeroCells70 70)).setRow w1.heap.size (rowA f))) :=
    ⟨by rw [HST.out]; congr 2, ⟨_, _, by rw [setRow_other _ _ _ _ (by omega), Below.heap_alloc _ _ _ (by omega)]; exact cr1⟩, below_setRow (HB1.out.alloc (by omega) _) (by omega) _⟩
  have HE : Hid (ofBits g 128 = ((n % 2 ^ sh c) ^^^ (2 ^ sh c - 1))) := by
    show _ = _
    have hp : 2 ^ sh c ≤ 2 ^ 128 := Nat.pow_le_pow_right (by omega) (sh_le c)
    have hpp : 0 < 2 ^ sh c := Nat.two_pow_pos _
    have hm : n % 2 ^ sh c < 2 ^ sh c := Nat.mod_lt _ hpp
    refine ofBits_eq (Nat.xor_lt_two_pow (by omega) (by omega)) fun i hi => ?_
    rw [HG.out, HF.out, Nat.testBit_xor, Nat.testBit_mod_two_pow, Nat.testBit_two_pow_sub_one, ← sh_bit c i hi]
    cases n.testBit i <;> cases decide (i < sh c) <;> rfl
  clear hg HST HNW HZS HB1 cr1 HA
  generalize (w1.alloc (.cells Try.zeroCells70 70)).setRow w1.heap.size (rowA f) = W2 at *
  go_loopw [6] (fun i wr => ∃ k : Nat, k ≤ 128 ∧ i = .int .i64 k ∧ Hid (InAt g f w w1.heap.size (w.heap.size + 1) k wr)) (fun i _ => 128 - (intOf i).toNat)
  case atStart => exact ⟨0, Nat.zero_le _, rfl, H0⟩
  case round =>
    obtain ⟨k, hk, rfl, HK⟩ := hrel
    by_cases hlt : k < 128
    · obtain ⟨r1, r2⟩ := HK.out.cells hlt
      by_cases hc : (k : Int) < c <;> cases hf1 : f k
      all_goals
        rw [hf1] at r1
        have HGK : Hid (g k = (!f k && decide ((k : Int) < c))) := HG.out k
        have HF1 := Lib.hid hf1
        have HC := Lib.hid hc
        clear hf1
        go_wp2_with fail
        go_roundw
        case rel => exact ⟨k + 1, by omega, by go_num, HK.out.step (by omega) (by omega) (by rw [HGK.out, HF1.out]; simp [HC.out])⟩
        case measure => simp [intOf]; omega
    · obtain rfl : k = 128 := by omega
      obtain ⟨r1, ⟨x0, x1, r3⟩, r4⟩ := HK.out.done
      have HNUM : Hid (∀ W, Calls Try.prog 25 #[.agg (rowA g)] W (RetNum W ((n % 2 ^ sh c) ^^^ (2 ^ sh c - 1)))) := fun W => by rw [← HE.out]; exact refNum_any _ W
      have HB4 := Lib.hid r4
      have H3 := Lib.hid r3
      clear r3 r4 HE HK H0 HG
      have hRR : (rowA g).size = 128 := rowA_size _
      generalize rowA g = RR at r1 HNUM hRR
      go_wp2_with (first
        | (refine wpList_load_row rfl 70 (.tmp 5) rfl w1.heap.size rfl 70 RR (0, 0) _ r1 Try.underlying70 rfl (by rw [hRR]; exact infoRow) ?_))
      clear r1
      obtain ⟨h3, l3, e3, -, -⟩ := numV_parts ((n % 2 ^ sh c) ^^^ (2 ^ sh c - 1))
      have HE3 := Lib.hid e3
      have HNUM2 : Hid (∀ W, Calls Try.prog 25 #[.agg RR] W fun e w' => e = .returned (.agg #[.int .u64 (h3 : Int), .int .u64 (l3 : Int)]) ∧ Below W.heap.size W w') := fun W => by rw [← HE3.out]; exact HNUM.out W
      clear HNUM e3
      refine (HNUM2.out _).mono ?_
      rintro e w3 ⟨rfl, hb1⟩
      have hr := (hb1.block (w.heap.size + 1) (lt_of_block H3.out)).trans H3.out
      have q0 : w3.cell? ⟨w.heap.size + 1, 0, none⟩ = some x0 := by simp [World.cell?, hr]
      have q1 : w3.cell? ⟨w.heap.size + 1, 1, none⟩ = some x1 := by simp [World.cell?, hr]
      have qz : ∀ j, w3.frozen? ⟨w.heap.size + 1, j, none⟩ = false := fun j => by simp [World.frozen?, hr]
      have HR := Lib.hid hr
      have HB5 : Hid (Below w.heap.size w w3) := HB4.out.trans (hb1.mono HB4.out.size)
      clear hr hb1
      go_wp2_with fail
      have hg := set_lo (.int .u64 (l3 : Int)) (set_hi (.int .u64 (h3 : Int)) HR.out)
      exact bodyPost_ret (v := .agg #[.int .u64 (h3 : Int), .int .u64 (l3 : Int)]) (results_cell_row Try.results28 _ _ (w.heap.size + 1) _ _ _ _ (by simp [go_sem]) hg Try.underlying24 rfl (by kernel_rfl)) rfl ⟨by rw [HE3.out], (HB5.out.setCell (by show w.heap.size ≤ w.heap.size + 1; omega) _).setCell (by show w.heap.size ≤ w.heap.size + 1; omega) _⟩

end Go.Proofs.Ytnknpgfconfgjaa

/-
  The contract of quillonref01.Of.
-/
namespace Go.Proofs.Ytnknpgfconfgjaa
open Go.RowKit

set_option maxRecDepth 100000 in
set_option maxHeartbeats 400000 in
theorem refOf_any (n : Nat) (hn : n < B) (w : World) :
    Calls Try.prog 29 #[.int .u64 (n : Int)] w (RetNum w n) := by
  have H := Lib.hid (numOf_val n hn); clear hn
  go_enter Try.func29, Try.ntmps29
  go_wp2
  exact bodyPost_ret (v := .agg #[.int .u64 0, .int .u64 (n : Int)]) (by simp [results, Try.results29, go_sem]) rfl ⟨by rw [H.out], (by repeat (first | exact Below.refl _ _ | assumption | refine Below.drew ?_ | refine Below.alloc ?_ (by first | omega | (simp <;> omega)) _ | refine Below.setCell ?_ (by first | omega | (simp <;> omega)) _ | refine Below.trans ?_ (Below.mono (by assumption) (by first | omega | (simp <;> omega)))))⟩

end Go.Proofs.Ytnknpgfconfgjaa

/-
  The contract of quillonref01.Sub.
-/
namespace Go.Proofs.Ytnknpgfconfgjaa
open Go.RowKit

/-- A difference of 128 bits, cut. -/
def subN (a b : Nat) (c : Int) : Nat := (a + (2 ^ 128 - b)) % 2 ^ 128 % 2 ^ sh c
theorem sh128 : sh 128 = 128 := by unfold sh; omega

theorem not_num {b : Nat} (hb : b < 2 ^ 128) : (b % 2 ^ sh 128) ^^^ (2 ^ sh 128 - 1) = 2 ^ 128 - 1 - b := by
  rw [sh128, Nat.mod_eq_of_lt hb]
  apply Nat.eq_of_testBit_eq
  intro i
  rw [Nat.testBit_xor, Nat.testBit_two_pow_sub_one, show 2 ^ 128 - 1 - b = 2 ^ 128 - (b + 1) by omega, Nat.testBit_two_pow_sub_succ hb]
  by_cases h : i < 128
  · simp [h]
  · have := Nat.testBit_lt_two_pow (Nat.lt_of_lt_of_le hb (Nat.pow_le_pow_right (by omega) (by omega : 128 ≤ i)))
    simp [h, this]

theorem sub_num {a b : Nat} (c : Int) (ha : a < 2 ^ 128) (hb : b < 2 ^ 128) : ((a + ((b % 2 ^ sh 128) ^^^ (2 ^ sh 128 - 1))) % 2 ^ 128 % 2 ^ sh 128 + 1) % 2 ^ 128 % 2 ^ sh c = subN a b c := by
  rw [not_num hb, sh128, Nat.mod_mod]
  unfold subN
  congr 1
  rw [Nat.mod_add_mod]
  congr 1
  omega

theorem heldE {w W w1 : World} {v0 v1 v2 v3 : Value} (hb : Below W.heap.size W w1) (h : Below w.heap.size w W ∧ W.cell? ⟨w.heap.size, 0, none⟩ = some v0 ∧ W.cell? ⟨w.heap.size, 1, none⟩ = some v1 ∧ W.cell? ⟨w.heap.size + 1, 0, none⟩ = some v2 ∧ W.cell? ⟨w.heap.size + 1, 1, none⟩ = some v3 ∧ (∃ x, W.cell? ⟨w.heap.size + 1 + 1, 0, none⟩ = some x) ∧ (∃ x, W.cell? ⟨w.heap.size + 1 + 1, 1, none⟩ = some x) ∧ W.frozen? ⟨w.heap.size + 1 + 1, 0, none⟩ = false ∧ W.frozen? ⟨w.heap.size + 1 + 1, 1, none⟩ = false) :
    Below w.heap.size w w1 ∧ w1.cell? ⟨w.heap.size, 0, none⟩ = some v0 ∧ w1.cell? ⟨w.heap.size, 1, none⟩ = some v1 ∧ w1.cell? ⟨w.heap.size + 1, 0, none⟩ = some v2 ∧ w1.cell? ⟨w.heap.size + 1, 1, none⟩ = some v3 ∧ (∃ x, w1.cell? ⟨w.heap.size + 1 + 1, 0, none⟩ = some x) ∧ (∃ x, w1.cell? ⟨w.heap.size + 1 + 1, 1, none⟩ = some x) ∧ w1.frozen? ⟨w.heap.size + 1 + 1, 0, none⟩ = false ∧ w1.frozen? ⟨w.heap.size + 1 + 1, 1, none⟩ = false := by
  obtain ⟨q, q0, q1, q2, q3, ⟨x4, q4⟩, ⟨x5, q5⟩, q6, q7⟩ := h
  exact ⟨q.trans (hb.mono q.size), (hb.cell (cell_there q0).1).trans q0, (hb.cell (cell_there q1).1).trans q1, (hb.cell (cell_there q2).1).trans q2, (hb.cell (cell_there q3).1).trans q3, ⟨x4, (hb.cell (cell_there q4).1).trans q4⟩, ⟨x5, (hb.cell (cell_there q5).1).trans q5⟩, (hb.frozen (cell_there q4).1).trans q6, (hb.frozen (cell_there q5).1).trans q7⟩
theorem heldSet {w W : World} {v0 v1 v2 v3 : Value} (a b : Value) (h : Below w.heap.size w W ∧ W.cell? ⟨w.heap.size, 0, none⟩ = some v0 ∧ W.cell? ⟨w.heap.size, 1, none⟩ = some v1 ∧ W.cell? ⟨w.heap.size + 1, 0, none⟩ = some v2 ∧ W.cell? ⟨w.heap.size + 1, 1, none⟩ = some v3 ∧ (∃ x, W.cell? ⟨w.heap.size + 1 + 1, 0, none⟩ = some x) ∧ (∃ x, W.cell? ⟨w.heap.size + 1 + 1, 1, none⟩ = some x) ∧ W.frozen? ⟨w.heap.size + 1 + 1, 0, none⟩ = false ∧ W.frozen? ⟨w.heap.size + 1 + 1, 1, none⟩ = false) :
    Below w.heap.size w ((W.setCell ⟨w.heap.size + 1 + 1, 0, none⟩ a).setCell ⟨w.heap.size + 1 + 1, 1, none⟩ b) ∧ ((W.setCell ⟨w.heap.size + 1 + 1, 0, none⟩ a).setCell ⟨w.heap.size + 1 + 1, 1, none⟩ b).cell? ⟨w.heap.size, 0, none⟩ = some v0 ∧ ((W.setCell ⟨w.heap.size + 1 + 1, 0, none⟩ a).setCell ⟨w.heap.size + 1 + 1, 1, none⟩ b).cell? ⟨w.heap.size, 1, none⟩ = some v1 ∧ ((W.setCell ⟨w.heap.size + 1 + 1, 0, none⟩ a).setCell ⟨w.heap.size + 1 + 1, 1, none⟩ b).cell? ⟨w.heap.size + 1, 0, none⟩ = some v2 ∧ ((W.setCell ⟨w.heap.size + 1 + 1, 0, none⟩ a).setCell ⟨w.heap.size + 1 + 1, 1, none⟩ b).cell? ⟨w.heap.size + 1, 1, none⟩ = some v3 ∧ (∃ x, ((W.setCell ⟨w.heap.size + 1 + 1, 0, none⟩ a).setCell ⟨w.heap.size + 1 + 1, 1, none⟩ b).cell? ⟨w.heap.size + 1 + 1, 0, none⟩ = some x) ∧ (∃ x, ((W.setCell ⟨w.heap.size + 1 + 1, 0, none⟩ a).setCell ⟨w.heap.size + 1 + 1, 1, none⟩ b).cell? ⟨w.heap.size + 1 + 1, 1, none⟩ = some x) ∧ ((W.setCell ⟨w.heap.size + 1 + 1, 0, none⟩ a).setCell ⟨w.heap.size + 1 + 1, 1, none⟩ b).frozen? ⟨w.heap.size + 1 + 1, 0, none⟩ = false ∧ ((W.setCell ⟨w.heap.size + 1 + 1, 0, none⟩ a).setCell ⟨w.heap.size + 1 + 1, 1, none⟩ b).frozen? ⟨w.heap.size + 1 + 1, 1, none⟩ = false := by
  obtain ⟨q, q0, q1, q2, q3, ⟨x4, q4⟩, ⟨x5, q5⟩, q6, q7⟩ := h
  have e : ∀ p : Addr, p.block ≠ w.heap.size + 1 + 1 → ((W.setCell ⟨w.heap.size + 1 + 1, 0, none⟩ a).setCell ⟨w.heap.size + 1 + 1, 1, none⟩ b).cell? p = W.cell? p := fun p hp => by
    rw [World.cell?_setCell_other _ _ _ _ (by rintro rfl; exact hp rfl), World.cell?_setCell_other _ _ _ _ (by rintro rfl; exact hp rfl)]
  refine ⟨(q.setCell (by show w.heap.size ≤ w.heap.size + 1 + 1; omega) _).setCell (by show w.heap.size ≤ w.heap.size + 1 + 1; omega) _, (e _ (by show w.heap.size ≠ w.heap.size + 1 + 1; omega)).trans q0, (e _ (by show w.heap.size ≠ w.heap.size + 1 + 1; omega)).trans q1, (e _ (by show w.heap.size + 1 ≠ w.heap.size + 1 + 1; omega)).trans q2, (e _ (by show w.heap.size + 1 ≠ w.heap.size + 1 + 1; omega)).trans q3, ⟨a, ?_⟩, ⟨b, ?_⟩, ?_, ?_⟩
  · rw [World.cell?_setCell_other _ _ _ _ (by simp)]
    exact World.cell?_setCell_same _ _ _ q4
  · exact World.cell?_setCell_same _ _ _ (by rw [World.cell?_setCell_other _ _ _ _ (by simp)]; exact q5)
  · rw [World.frozen?_setCell, World.frozen?_setCell]; exact q6
  · rw [World.frozen?_setCell, World.frozen?_setCell]; exact q7

set_option maxRecDepth 100000 in
set_option maxHeartbeats 4000000 in
theorem refSub_any (a b : Nat) (c : Int) (ha : a < B * B) (hb : b < B * B) (w : World) :
    Calls Try.prog 11 #[numV a, numV b, .int .i64 c] w (RetNum w (subN a b c)) := by
  have l1 : (b % 2 ^ sh 128) ^^^ (2 ^ sh 128 - 1) < B * B := by rw [BB_pow2] at hb ⊢; rw [not_num hb]; omega
  have l2 : (a + ((b % 2 ^ sh 128) ^^^ (2 ^ sh 128 - 1))) % 2 ^ 128 % 2 ^ sh 128 < B * B := by rw [BB_pow2]; exact Nat.lt_of_le_of_lt (Nat.mod_le _ _) (Nat.mod_lt _ (Nat.two_pow_pos _))
  have hnot : ∀ W, Calls Try.prog 28 #[numV b, .int .i64 128] W (RetNum W ((b % 2 ^ sh 128) ^^^ (2 ^ sh 128 - 1))) := fun W => refNot_any b 128 hb W
  have hadd : ∀ W, Calls Try.prog 10 #[numV a, numV ((b % 2 ^ sh 128) ^^^ (2 ^ sh 128 - 1)), .int .i64 128] W (RetNum W ((a + ((b % 2 ^ sh 128) ^^^ (2 ^ sh 128 - 1))) % 2 ^ 128 % 2 ^ sh 128)) := fun W => refAdd_any _ _ 128 ha l1 W
  have hof : ∀ W, Calls Try.prog 29 #[.int .u64 1] W (RetNum W 1) := fun W => refOf_any 1 (by unfold B; omega) W
  have hadd2 : ∀ W, Calls Try.prog 10 #[numV ((a + ((b % 2 ^ sh 128) ^^^ (2 ^ sh 128 - 1))) % 2 ^ 128 % 2 ^ sh 128), numV 1, .int .i64 c] W (RetNum W (subN a b c)) := fun W => by
    have h := refAdd_any _ 1 c l2 (by rw [BB_pow2]; omega) W
    rw [sub_num c (by rw [← BB_pow2]; exact ha) (by rw [← BB_pow2]; exact hb)] at h
    exact h
  obtain ⟨h1, k1, e1, -, -⟩ := numV_parts a
  obtain ⟨h2, k2, e2, -, -⟩ := numV_parts b
  obtain ⟨h3, k3, e3, -, -⟩ := numV_parts ((b % 2 ^ sh 128) ^^^ (2 ^ sh 128 - 1))
  obtain ⟨h4, k4, e4, -, -⟩ := numV_parts ((a + ((b % 2 ^ sh 128) ^^^ (2 ^ sh 128 - 1))) % 2 ^ 128 % 2 ^ sh 128)
  obtain ⟨h5, k5, e5, -, -⟩ := numV_parts 1
  obtain ⟨h6, k6, e6, -, -⟩ := numV_parts (subN a b c)
  have HE6 := Lib.hid e6
  unfold RetNum at hnot hadd hof hadd2
  rw [e2, e3] at hnot
  rw [e1, e3, e4] at hadd
  rw [e5] at hof
  rw [e4, e5, e6] at hadd2
  rw [e1, e2]
  have HNOT := Lib.hid hnot
  have HADD := Lib.hid hadd
  have HOF := Lib.hid hof
  have HADD2 := Lib.hid hadd2
  clear hnot hadd hof hadd2 e1 e2 e3 e4 e5 e6 l1 l2 ha hb
  go_enter Try.func11, Try.ntmps11
  go_wp2_with fail
  obtain ⟨W0, hW0⟩ : ∃ W0, W0 = ((w.alloc (.cells #[.int .u64 (h1 : Int), .int .u64 (k1 : Int)] 24)).alloc (.cells #[.int .u64 (h2 : Int), .int .u64 (k2 : Int)] 24)).alloc (.cells #[.int .u64 0, .int .u64 0] 24) := ⟨_, rfl⟩
  have hbW : Below w.heap.size w W0 := by rw [hW0]; exact (by repeat (first | exact Below.refl _ _ | assumption | refine Below.drew ?_ | refine Below.alloc ?_ (by first | omega | (simp <;> omega)) _ | refine Below.setCell ?_ (by first | omega | (simp <;> omega)) _ | refine Below.trans ?_ (Below.mono (by assumption) (by first | omega | (simp <;> omega)))))
  have z0 : w.heap.size < W0.heap.size := by rw [hW0]; simp <;> omega
  have z1 : w.heap.size + 1 < W0.heap.size := by rw [hW0]; simp
  have z2 : w.heap.size + 1 + 1 < W0.heap.size := by rw [hW0]; simp
  have c0 : W0.cell? ⟨w.heap.size, 0, none⟩ = some (.int .u64 (h1 : Int)) := by rw [hW0]; simp [go_sem]
  have c1 : W0.cell? ⟨w.heap.size, 1, none⟩ = some (.int .u64 (k1 : Int)) := by rw [hW0]; simp [go_sem]
  have c2 : W0.cell? ⟨w.heap.size + 1, 0, none⟩ = some (.int .u64 (h2 : Int)) := by rw [hW0]; simp [go_sem]
  have c3 : W0.cell? ⟨w.heap.size + 1, 1, none⟩ = some (.int .u64 (k2 : Int)) := by rw [hW0]; simp [go_sem]
  have c4 : W0.cell? ⟨w.heap.size + 1 + 1, 0, none⟩ = some (.int .u64 0) := by rw [hW0]; simp [go_sem]
  have c5 : W0.cell? ⟨w.heap.size + 1 + 1, 1, none⟩ = some (.int .u64 0) := by rw [hW0]; simp [go_sem]
  have f4 : W0.frozen? ⟨w.heap.size + 1 + 1, 0, none⟩ = false := by rw [hW0]; simp [go_sem]
  have f5 : W0.frozen? ⟨w.heap.size + 1 + 1, 1, none⟩ = false := by rw [hW0]; simp [go_sem]
  have cr : W0.heap[w.heap.size + 1 + 1]? = some (.cells #[.int .u64 0, .int .u64 0] 24 (0, 0)) := by
    rw [hW0]
    have := heap_new ((w.alloc (.cells #[.int .u64 (h1 : Int), .int .u64 (k1 : Int)] 24)).alloc (.cells #[.int .u64 (h2 : Int), .int .u64 (k2 : Int)] 24)) (.cells #[.int .u64 0, .int .u64 0] 24)
    simp only [World.size_alloc] at this
    exact this
  rw [← hW0]
  have HBW0 := Lib.hid hbW
  have HCR := Lib.hid cr
  clear hW0 hbW cr
  go_region_held3 (fun w' => Below w.heap.size w w' ∧ w'.cell? ⟨w.heap.size, 0, none⟩ = some (.int .u64 (h1 : Int)) ∧ w'.cell? ⟨w.heap.size, 1, none⟩ = some (.int .u64 (k1 : Int)) ∧ w'.cell? ⟨w.heap.size + 1, 0, none⟩ = some (.int .u64 (h2 : Int)) ∧ w'.cell? ⟨w.heap.size + 1, 1, none⟩ = some (.int .u64 (k2 : Int)) ∧ (∃ x, w'.cell? ⟨w.heap.size + 1 + 1, 0, none⟩ = some x) ∧ (∃ x, w'.cell? ⟨w.heap.size + 1 + 1, 1, none⟩ = some x) ∧ w'.frozen? ⟨w.heap.size + 1 + 1, 0, none⟩ = false ∧ w'.frozen? ⟨w.heap.size + 1 + 1, 1, none⟩ = false)
    (first | exact ⟨below_drewN HBW0.out 1, c0, c1, c2, c3, ⟨_, c4⟩, ⟨_, c5⟩, f4, f5⟩ | exact heldE hb1 (by assumption) | exact heldSet _ _ (by assumption))
    (first
      | (go_at_call 28; refine (HNOT.out _).mono ?_; rintro e w1 ⟨rfl, hb1⟩)
      | (go_at_call 29; refine (HOF.out _).mono ?_; rintro e w1 ⟨rfl, hb1⟩)
      | (go_at_call 10; (with_reducible refine (HADD.out _).mono ?_); rintro e w1 ⟨rfl, hb1⟩)
      | (go_at_call 10; (with_reducible refine (HADD2.out _).mono ?_); rintro e w1 ⟨rfl, hb1⟩; obtain ⟨-, -, -, -, -, ⟨x4, g4⟩, ⟨x5, g5⟩, g6, g7⟩ := heldE hb1 (by assumption)))
  rename_i hS
  have HBF := Lib.hid hS.1
  clear hS
  have y5 : (w1.setCell ⟨w.heap.size + 1 + 1, 0, none⟩ (.int .u64 (h6 : Int))).cell? ⟨w.heap.size + 1 + 1, 1, none⟩ = some x5 := by rw [World.cell?_setCell_other _ _ _ _ (by simp)]; exact g5
  have y0 : ((w1.setCell ⟨w.heap.size + 1 + 1, 0, none⟩ (.int .u64 (h6 : Int))).setCell ⟨w.heap.size + 1 + 1, 1, none⟩ (.int .u64 (k6 : Int))).cell? ⟨w.heap.size + 1 + 1, 0, none⟩ = some (.int .u64 (h6 : Int)) := by
    rw [World.cell?_setCell_other _ _ _ _ (by simp)]
    exact World.cell?_setCell_same _ _ _ g4
  have y1 : ((w1.setCell ⟨w.heap.size + 1 + 1, 0, none⟩ (.int .u64 (h6 : Int))).setCell ⟨w.heap.size + 1 + 1, 1, none⟩ (.int .u64 (k6 : Int))).cell? ⟨w.heap.size + 1 + 1, 1, none⟩ = some (.int .u64 (k6 : Int)) := World.cell?_setCell_same _ _ _ y5
  clear y5 g4 g5 g6 g7 c0 c1 c2 c3 c4 c5 f4 f5
  generalize (w1.setCell ⟨w.heap.size + 1 + 1, 0, none⟩ (.int .u64 (h6 : Int))).setCell ⟨w.heap.size + 1 + 1, 1, none⟩ (.int .u64 (k6 : Int)) = WF at *
  go_wp2_with fail
  exact bodyPost_ret (v := .agg #[.int .u64 (h6 : Int), .int .u64 (k6 : Int)]) (by simp [results, Try.results11, go_sem, y0, y1]) rfl ⟨by rw [HE6.out], HBF.out⟩

end Go.Proofs.Ytnknpgfconfgjaa

/-
  The law's closures: a number's node; code's value.
-/
namespace Go.Proofs.Ytnknpgfconfgjaa
open Go.RowKit Go.Maps

def six (w : World) (g : Nat) (b0 b1 b2 b3 b4 b5 : Value) : World := (((((w.setCell ⟨g, 0, none⟩ b0).setCell ⟨g, 1, none⟩ b1).setCell ⟨g, 2, none⟩ b2).setCell ⟨g, 3, none⟩ b3).setCell ⟨g, 4, none⟩ b4).setCell ⟨g, 5, none⟩ b5
theorem six_set {w : World} {g : Nat} {a0 a1 a2 a3 a4 a5 b0 b1 b2 b3 b4 b5 : Value} {t : TypeId} (h : w.heap[g]? = some (.cells #[a0, a1, a2, a3, a4, a5] t (0, 0))) : (six w g b0 b1 b2 b3 b4 b5).heap[g]? = some (.cells #[b0, b1, b2, b3, b4, b5] t (0, 0)) :=
  heap_setCell_same _ g 5 _ t b5 (heap_setCell_same _ g 4 _ t b4 (heap_setCell_same _ g 3 _ t b3 (heap_setCell_same _ g 2 _ t b2 (heap_setCell_same _ g 1 _ t b1 (heap_setCell_same _ g 0 _ t b0 h)))))

set_option maxRecDepth 100000 in
set_option maxHeartbeats 8000000 in
theorem c_any (gw : Nat) (n : Nat) (k : Int) (w : World) (hn : n < B * B) (hw : w.cell? ⟨gw, 0, none⟩ = some (.int .i64 k)) :
    Calls Try.prog 6 #[numV n, .pointer (some ⟨gw, 0, none⟩)] w fun e w' => e = .returned (Nd.val ⟨1, k, 0, 0, n % 2 ^ sh k⟩) ∧ Below w.heap.size w w' := by
  have HC : Hid (∀ W, Calls Try.prog 7 #[numV n, .int .i64 k] W (RetNum W (n % 2 ^ sh k))) := fun W => refCut_any n k hn W
  unfold Nd.val nodeV
  dsimp only
  generalize n % 2 ^ sh k = r at *
  obtain ⟨y, z, he, -, -⟩ := numV_parts n
  obtain ⟨y3, z3, he3, ey3, ez3⟩ := numV_parts r
  unfold RetNum at HC
  rw [he, he3] at HC
  rw [he, ← ey3, ← ez3]
  clear he he3 ey3 ez3 hn
  have hl := (cell_there hw).1
  simp only at hl
  have hl1 : gw < w.heap.size + 1 := by omega
  go_enter Try.func6, Try.ntmps6
  go_wp2_with fail
  go_region_with (first
    | (go_at_call 7; refine (HC.out _).mono ?_; rintro e w1 ⟨rfl, hb1⟩; obtain ⟨hc, hf⟩ := bcell hb1; have hz1 := hb1.size; (try simp at hz1); have L1 : w.heap.size + 1 < w1.heap.size := by omega))
  all_goals go_wp2_with fail
  all_goals
    have h0 : w1.heap[w.heap.size + 1]? = some (.cells #[.int .u8 0, .int .i64 0, .int .i64 0, .int .i64 0, .int .u64 0, .int .u64 0] 33 (0, 0)) := by
      rw [hb1.block _ (by simp)]
      have := heap_new (w.alloc (.cells #[.int .u64 (y : Int), .int .u64 (z : Int)] 24)) (.cells #[.int .u8 0, .int .i64 0, .int .i64 0, .int .i64 0, .int .u64 0, .int .u64 0] 33)
      simp only [World.size_alloc] at this
      exact this
    have h6 := six_set (b0 := .int .u8 1) (b1 := .int .i64 k) (b2 := .int .i64 0) (b3 := .int .i64 0) (b4 := .int .u64 (y3 : Int)) (b5 := .int .u64 (z3 : Int)) h0
    have hbF : Below w.heap.size w (six w1 (w.heap.size + 1) (.int .u8 1) (.int .i64 k) (.int .i64 0) (.int .i64 0) (.int .u64 (y3 : Int)) (.int .u64 (z3 : Int))) := by
      have hA : Below w.heap.size w w1 := Below.trans (by repeat (first | exact Below.refl _ _ | assumption | refine Below.drew ?_ | refine Below.alloc ?_ (by first | omega | (simp <;> omega)) _ | refine Below.setCell ?_ (by first | omega | (simp <;> omega)) _ | refine Below.trans ?_ (Below.mono (by assumption) (by first | omega | (simp <;> omega))))) (hb1.mono (by simp <;> omega))
      exact (((((hA.setCell (Nat.le_succ _) _).setCell (Nat.le_succ _) _).setCell (Nat.le_succ _) _).setCell (Nat.le_succ _) _).setCell (Nat.le_succ _) _).setCell (Nat.le_succ _) _
    change bodyPost _ _ _ _ _ (six w1 (w.heap.size + 1) (.int .u8 1) (.int .i64 k) (.int .i64 0) (.int .i64 0) (.int .u64 (y3 : Int)) (.int .u64 (z3 : Int)))
    generalize six w1 (w.heap.size + 1) (.int .u8 1) (.int .i64 k) (.int .i64 0) (.int .i64 0) (.int .u64 (y3 : Int)) (.int .u64 (z3 : Int)) = WF at *
    have e0 : WF.cell? ⟨w.heap.size + 1, 0, none⟩ = some (.int .u8 1) := by simp [World.cell?, h6]
    have e1 : WF.cell? ⟨w.heap.size + 1, 1, none⟩ = some (.int .i64 k) := by simp [World.cell?, h6]
    have e2 : WF.cell? ⟨w.heap.size + 1, 2, none⟩ = some (.int .i64 0) := by simp [World.cell?, h6]
    have e3 : WF.cell? ⟨w.heap.size + 1, 3, none⟩ = some (.int .i64 0) := by simp [World.cell?, h6]
    have e4 : WF.cell? ⟨w.heap.size + 1, 4, none⟩ = some (.int .u64 (y3 : Int)) := by simp [World.cell?, h6]
    have e5 : WF.cell? ⟨w.heap.size + 1, 5, none⟩ = some (.int .u64 (z3 : Int)) := by simp [World.cell?, h6]
    exact bodyPost_ret (v := .agg #[.int .u8 1, .int .i64 k, .int .i64 0, .int .i64 0, .int .u64 (y3 : Int), .int .u64 (z3 : Int)]) (by simp [results, Try.results6, go_sem, e0, e1, e2, e3, e4, e5]) rfl ⟨rfl, hbF⟩

end Go.Proofs.Ytnknpgfconfgjaa

/-
  The law's closures: code's value; code of two, three, four, five nodes.
-/
namespace Go.Proofs.Ytnknpgfconfgjaa
open Go.RowKit Go.Maps

/-- Code that has a value: its nodes, the stacks between them. -/
structure Runs (nd : Nat → Nd) (N : Nat) (r : Nat) (sts : Nat → List (Nat × Int)) (kr : Int) : Prop where
  small : N ≤ 50
  step : ∀ i, i < N → Step (nd i) (sts i) (sts (i + 1))
  len : ∀ i, i ≤ N → (sts i).length ≤ 50
  start : sts 0 = []
  fin : sts N = [(r, kr)]
/-- The code lies in block gc. -/
def CodeAt (w : World) (gc N : Nat) (nd : Nat → Nd) : Prop := ∀ i, i < N → ∀ j v, (nd i).cells[j]? = some v → w.cell? ⟨gc, i * 6 + j, none⟩ = some v

set_option maxRecDepth 100000 in
set_option maxHeartbeats 2000000 in
theorem of_any {nd : Nat → Nd} {N r : Nat} {sts : Nat → List (Nat × Int)} {kr : Int} (hr : Runs nd N r sts kr) (gp gx gc cap : Nat) (w : World) (hp : w.cell? ⟨gp, 0, none⟩ = some (.pointer (some ⟨gx, 0, none⟩))) (hc : CodeAt w gc N nd) (h0 : 0 < N) :
    Calls Try.prog 8 #[.slice (some ⟨gc, 0, none⟩) N cap, .pointer (some ⟨gp, 0, none⟩)] w (RetNum w r) := by
  have hl := (cell_there hp).1
  simp only at hl
  have hgc : gc < w.heap.size := (cell_there (hc 0 h0 0 (.int .u8 (nd 0).op) rfl)).1
  have HV : Hid (∀ W, Below w.heap.size w W → Calls Try.prog 9 #[prog0, .pointer (some ⟨gx, 0, none⟩), .slice (some ⟨gc, 0, none⟩) N cap, .slice none 0 0] W (RetNum W r)) := fun W hW => value_any nd sts N cap gx gc r kr W hr.small hr.step hr.len hr.start hr.fin fun i hi j v hv => (hW.cell (p := ⟨gc, i * 6 + j, none⟩) hgc).trans (hc i hi j v hv)
  obtain ⟨y3, z3, he3, -, -⟩ := numV_parts r
  have HE3 := Lib.hid he3
  unfold RetNum prog0 at HV
  rw [he3] at HV
  clear he3 hc hr
  go_enter Try.func8, Try.ntmps8
  go_wp2_with (go_at_call 9; refine (HV.out _ (by repeat (first | exact Below.refl _ _ | assumption | refine Below.drew ?_ | refine Below.alloc ?_ (by first | omega | (simp <;> omega)) _ | refine Below.setCell ?_ (by first | omega | (simp <;> omega)) _ | refine Below.trans ?_ (Below.mono (by assumption) (by first | omega | (simp <;> omega)))))).mono ?_; rintro e w1 ⟨rfl, hb⟩; obtain ⟨hc, hf⟩ := bcell hb; have hz := hb.size; (try simp at hz); have L1 : w.heap.size < w1.heap.size := by omega)
  exact bodyPost_ret (v := .agg #[.int .u64 (y3 : Int), .int .u64 (z3 : Int)]) (by simp [results, Try.results8, go_sem, hc, hf, L1]) rfl ⟨by rw [HE3.out], (by repeat (first | exact Below.refl _ _ | assumption | refine Below.drew ?_ | refine Below.alloc ?_ (by first | omega | (simp <;> omega)) _ | refine Below.setCell ?_ (by first | omega | (simp <;> omega)) _ | refine Below.trans ?_ (Below.mono (by assumption) (by first | omega | (simp <;> omega)))))⟩

/-- Nodes in a list. -/
def ndL (l : List Nd) (i : Nat) : Nd := l.getD i ⟨0, 0, 0, 0, 0⟩
def stL (l : List (List (Nat × Int))) (i : Nat) : List (Nat × Int) := l.getD i []
theorem CodeAt.of_block {w : World} {gc : Nat} {l : List Nd} {t : TypeId} {fr : Nat × Nat} (h : w.heap[gc]? = some (.cells (l.flatMap Nd.cells).toArray t fr)) : CodeAt w gc l.length (ndL l) := by
  intro i hi j v hv
  have hj : j < 6 := by
    have := (List.getElem?_eq_some_iff.1 hv).1
    simpa [Nd.cells] using this
  have key : ∀ (l : List Nd) (i : Nat), i < l.length → (l.flatMap Nd.cells)[i * 6 + j]? = (ndL l i).cells[j]? := by
    intro l
    induction l with
    | nil => intro i hi; simp at hi
    | cons d l ih =>
      intro i hi
      rw [List.flatMap_cons]
      cases i with
      | zero =>
        rw [Nat.zero_mul, Nat.zero_add, List.getElem?_append_left (by simp [Nd.cells]; omega)]
        rfl
      | succ i =>
        have hd : d.cells.length = 6 := rfl
        rw [List.getElem?_append_right (by rw [hd]; omega), hd, show (i + 1) * 6 + j - 6 = i * 6 + j by omega]
        exact ih i (by simpa using hi)
  have e := (key l i hi).trans hv
  simp only [World.cell?, h]
  simpa using e

theorem Runs.of_list {l : List Nd} {ss : List (List (Nat × Int))} {r : Nat} {kr : Int} (hn : l.length ≤ 40) (hs : ∀ i, i < l.length → Step (ndL l i) (stL ss i) (stL ss (i + 1))) (hl : ∀ s ∈ ss, s.length ≤ 50) (h0 : stL ss 0 = []) (hr : stL ss l.length = [(r, kr)]) : Runs (ndL l) l.length r (stL ss) kr := by
  refine ⟨by omega, hs, fun i _ => ?_, h0, hr⟩
  unfold stL
  rw [List.getD_eq_getElem?_getD]
  cases h : ss[i]? with
  | none => simp
  | some s => simpa using hl s (List.mem_of_getElem? h)

end Go.Proofs.Ytnknpgfconfgjaa

/-
  What the law's codes come to: plain numbers.
-/
namespace Go.Proofs.Ytnknpgfconfgjaa
open Go.RowKit Go.Maps

abbrev cN (k : Int) (v : Nat) : Nd := ⟨1, k, 0, 0, v⟩
def RunsTo (l : List Nd) (r : Nat) : Prop := ∃ sts kr, Runs (ndL l) l.length r sts kr

variable {k : Int} {m n : Nat}

theorem pow_le_BB (k : Int) : 2 ^ sh k ≤ B * B := by rw [BB_pow]; exact Nat.pow_le_pow_right (by omega) (sh_le k)
theorem lt_BB (hm : m < 2 ^ sh k) : m < B * B := Nat.lt_of_lt_of_le hm (pow_le_BB k)

theorem run_two (op : Int) (v : Nat) (hm : m < 2 ^ sh k) (hn : n < 2 ^ sh k) (kk : Int) (h : ∀ i j, Step ⟨op, kk, 0, 0, 0⟩ ([] ++ [(m, i)] ++ [(n, j)]) ([] ++ [(v % 2 ^ sh kk, kk)])) : RunsTo [cN k m, cN k n, ⟨op, kk, 0, 0, 0⟩] (v % 2 ^ sh kk) := by
  have e1 : m % 2 ^ sh k = m := Nat.mod_eq_of_lt hm
  have e2 : n % 2 ^ sh k = n := Nat.mod_eq_of_lt hn
  refine ⟨stL [[], [(m, k)], [(m, k), (n, k)], [(v % 2 ^ sh kk, kk)]], kk, Runs.of_list (by simp) (fun i hi => ?_) (by simp) rfl rfl⟩
  match i, hi with
  | 0, _ =>
    have := Step.const k 0 0 m [] (lt_BB hm)
    rw [e1] at this
    exact this
  | 1, _ =>
    have := Step.const k 0 0 n [(m, k)] (lt_BB hn)
    rw [e2] at this
    exact this
  | 2, _ => exact h k k
  | i + 3, hi => exact absurd hi (by show ¬ (i + 3 < 3); omega)

theorem run_add (hm : m < 2 ^ sh k) (hn : n < 2 ^ sh k) : RunsTo [cN k m, cN k n, ⟨11, k, 0, 0, 0⟩] ((m + n) % 2 ^ 128 % 2 ^ sh k) := by
  have h := run_two (k := k) 11 ((m + n) % (B * B) % 2 ^ sh k) hm hn k (fun i j => Step.add k 0 0 0 [] m n i j (lt_BB hm) (lt_BB hn))
  rw [Nat.mod_mod, BB_pow] at h
  exact h
theorem run_sub (hm : m < 2 ^ sh k) (hn : n < 2 ^ sh k) : RunsTo [cN k m, cN k n, ⟨12, k, 0, 0, 0⟩] (subN m n k) := by
  have h := run_two (k := k) 12 ((m + (B * B - n)) % (B * B) % 2 ^ sh k) hm hn k (fun i j => Step.sub k 0 0 0 [] m n i j (lt_BB hm) (lt_BB hn))
  rw [Nat.mod_mod, BB_pow] at h
  exact h
theorem sh_one : sh 1 = 1 := by unfold sh; omega
theorem one_mod (b : Bool) : oneN b % 2 ^ sh 1 = oneN b := by rw [sh_one]; cases b <;> rfl
theorem run_lt (hm : m < 2 ^ sh k) (hn : n < 2 ^ sh k) : RunsTo [cN k m, cN k n, ⟨19, 1, 0, 0, 0⟩] (oneN (decide (m < n))) := by
  have h := run_two (k := k) 19 (oneN (decide (m < n))) hm hn 1 (fun i j => Step.lt 1 0 0 0 [] m n i j (lt_BB hm) (lt_BB hn))
  rwa [one_mod] at h

theorem xor_mask {x t : Nat} (hx : x < 2 ^ t) : x ^^^ (2 ^ t - 1) = 2 ^ t - 1 - x := by
  apply Nat.eq_of_testBit_eq
  intro i
  rw [Nat.testBit_xor, Nat.testBit_two_pow_sub_one, show 2 ^ t - 1 - x = 2 ^ t - (x + 1) by omega, Nat.testBit_two_pow_sub_succ hx]
  by_cases h : i < t
  · simp [h]
  · have := Nat.testBit_lt_two_pow (Nat.lt_of_lt_of_le hx (Nat.pow_le_pow_right (by omega) (by omega : t ≤ i)))
    simp [h, this]

theorem run_notnot (hm : m < 2 ^ sh k) : RunsTo [cN k m, ⟨7, k, 0, 0, 0⟩, ⟨7, k, 0, 0, 0⟩] m := by
  have e1 : m % 2 ^ sh k = m := Nat.mod_eq_of_lt hm
  have e2 : ((m % 2 ^ sh k) ^^^ (2 ^ sh k - 1)) % 2 ^ sh k = 2 ^ sh k - 1 - m := by
    rw [e1, xor_mask hm]; exact Nat.mod_eq_of_lt (by omega)
  have e3 : (((2 ^ sh k - 1 - m) % 2 ^ sh k) ^^^ (2 ^ sh k - 1)) % 2 ^ sh k = m := by
    rw [Nat.mod_eq_of_lt (show 2 ^ sh k - 1 - m < 2 ^ sh k by omega), xor_mask (by omega)]
    rw [Nat.mod_eq_of_lt (by omega)]; omega
  refine ⟨stL [[], [(m, k)], [(2 ^ sh k - 1 - m, k)], [(m, k)]], k, Runs.of_list (by simp) (fun i hi => ?_) (by simp) rfl rfl⟩
  match i, hi with
  | 0, _ =>
    have := Step.const k 0 0 m [] (lt_BB hm)
    rw [e1] at this
    exact this
  | 1, _ =>
    have := Step.bnot k 0 0 0 [] m k (lt_BB hm)
    rw [e2] at this
    exact this
  | 2, _ =>
    have := Step.bnot k 0 0 0 [] (2 ^ sh k - 1 - m) k (lt_BB (k := k) (by omega))
    rw [e3] at this
    exact this
  | i + 3, hi => exact absurd hi (by show ¬ (i + 3 < 3); omega)

theorem run_neg (hm : m < 2 ^ sh k) : RunsTo [cN k m, ⟨8, k, 0, 0, 0⟩, cN k m, ⟨11, k, 0, 0, 0⟩] 0 := by
  have e1 : m % 2 ^ sh k = m := Nat.mod_eq_of_lt hm
  have hdvd : 2 ^ sh k ∣ B * B := by rw [BB_pow]; exact Nat.pow_dvd_pow 2 (sh_le k)
  obtain ⟨x, hx⟩ : ∃ x, x = (0 + (B * B - m)) % (B * B) % 2 ^ sh k % 2 ^ sh k := ⟨_, rfl⟩
  have hxl : x < 2 ^ sh k := by rw [hx]; exact Nat.mod_lt _ (Nat.two_pow_pos _)
  have e3 : (x + m) % (B * B) % 2 ^ sh k % 2 ^ sh k = 0 := by
    rw [Nat.mod_mod, Nat.mod_mod_of_dvd _ hdvd, hx, Nat.mod_mod, Nat.mod_mod_of_dvd _ hdvd, Nat.mod_add_mod, Nat.zero_add, Nat.sub_add_cancel (Nat.le_of_lt (lt_BB hm))]
    exact Nat.mod_eq_zero_of_dvd hdvd
  refine ⟨stL [[], [(m, k)], [(x, k)], [(x, k), (m, k)], [(0, k)]], k, Runs.of_list (by simp) (fun i hi => ?_) (by simp) rfl rfl⟩
  match i, hi with
  | 0, _ =>
    have := Step.const k 0 0 m [] (lt_BB hm)
    rw [e1] at this
    exact this
  | 1, _ =>
    have := Step.neg k 0 0 0 [] m k (lt_BB hm)
    rw [← hx] at this
    exact this
  | 2, _ =>
    have := Step.const k 0 0 m [(x, k)] (lt_BB hm)
    rw [e1] at this
    exact this
  | 3, _ =>
    have := Step.add k 0 0 0 [] x m k k (lt_BB hxl) (lt_BB hm)
    rw [e3] at this
    exact this
  | i + 4, hi => exact absurd hi (by show ¬ (i + 4 < 4); omega)

theorem run_lenot (hm : m < 2 ^ sh k) (hn : n < 2 ^ sh k) : RunsTo [cN k n, cN k m, ⟨20, 1, 0, 0, 0⟩, ⟨7, 1, 0, 0, 0⟩] (oneN (decide (m < n))) := by
  have e1 : m % 2 ^ sh k = m := Nat.mod_eq_of_lt hm
  have e2 : n % 2 ^ sh k = n := Nat.mod_eq_of_lt hn
  have e3 : ((oneN (decide (n ≤ m)) % 2 ^ sh 1) ^^^ (2 ^ sh 1 - 1)) % 2 ^ sh 1 = oneN (decide (m < n)) := by
    rw [one_mod, sh_one]
    by_cases h : n ≤ m
    · have h2 : ¬ m < n := by omega
      simp [h, h2, oneN]
    · have h2 : m < n := by omega
      simp [h, h2, oneN]
  refine ⟨stL [[], [(n, k)], [(n, k), (m, k)], [(oneN (decide (n ≤ m)), 1)], [(oneN (decide (m < n)), 1)]], 1, Runs.of_list (by simp) (fun i hi => ?_) (by simp) rfl rfl⟩
  match i, hi with
  | 0, _ =>
    have := Step.const k 0 0 n [] (lt_BB hn)
    rw [e2] at this
    exact this
  | 1, _ =>
    have := Step.const k 0 0 m [(n, k)] (lt_BB hm)
    rw [e1] at this
    exact this
  | 2, _ =>
    have := Step.le 1 0 0 0 [] n m k k (lt_BB hn) (lt_BB hm)
    rw [one_mod] at this
    exact this
  | 3, _ =>
    have := Step.bnot 1 0 0 0 [] (oneN (decide (n ≤ m))) 1 (one_lt _)
    rw [e3] at this
    exact this
  | i + 4, hi => exact absurd hi (by show ¬ (i + 4 < 4); omega)

theorem run_cat {W j : Nat} (hW : W ≤ 128) (h0 : 0 < j) (hj : j < W) (hm : m < 2 ^ W) :
    RunsTo [cN W m, ⟨9, (W : Int) - j, (W : Int) - 1, j, 0⟩, cN W m, ⟨9, j, (j : Int) - 1, 0, 0⟩, ⟨10, W, 0, 0, 0⟩] m := by
  have hsW : sh (W : Int) = W := by unfold sh; omega
  have hsj : sh (j : Int) = j := by unfold sh; omega
  have hsd : sh ((W : Int) - j) = W - j := by unfold sh; omega
  have hsd2 : sh ((W : Int) - 1 - j + 1) = W - j := by unfold sh; omega
  have hs0 : sh 0 = 0 := by unfold sh; omega
  have hsj2 : sh ((j : Int) - 1 - 0 + 1) = j := by unfold sh; omega
  have hm' : m < 2 ^ sh (W : Int) := by rw [hsW]; exact hm
  have e1 : m % 2 ^ sh (W : Int) = m := Nat.mod_eq_of_lt hm'
  have hd : m / 2 ^ j < 2 ^ (W - j) := by
    rw [Nat.div_lt_iff_lt_mul (Nat.two_pow_pos _), ← Nat.pow_add]
    rwa [show W - j + j = W by omega]
  have e2 : m / 2 ^ sh (j : Int) % 2 ^ sh ((W : Int) - 1 - j + 1) % 2 ^ sh ((W : Int) - j) = m / 2 ^ j := by
    rw [hsj, hsd2, hsd, Nat.mod_mod, Nat.mod_eq_of_lt hd]
  have e3 : m / 2 ^ sh 0 % 2 ^ sh ((j : Int) - 1 - 0 + 1) % 2 ^ sh (j : Int) = m % 2 ^ j := by
    rw [hs0, hsj2, hsj, Nat.mod_mod, Nat.pow_zero, Nat.div_one]
  have hBB : 2 ^ W ≤ B * B := by rw [BB_pow]; exact Nat.pow_le_pow_right (by omega) hW
  have hmul : m / 2 ^ j * 2 ^ j ≤ m := Nat.div_mul_le_self _ _
  have e4 : ((m / 2 ^ j * 2 ^ sh (j : Int) % (B * B) % 2 ^ sh 128) ||| (m % 2 ^ j % 2 ^ sh (j : Int))) % 2 ^ sh (W : Int) = m := by
    rw [hsj, hsW, sh128, ← BB_pow, Nat.mod_mod, Nat.mod_mod, Nat.mod_eq_of_lt (show m / 2 ^ j * 2 ^ j < B * B by omega)]
    rw [Nat.mul_comm, ← Nat.two_pow_add_eq_or_of_lt (Nat.mod_lt _ (Nat.two_pow_pos _)), Nat.div_add_mod]
    exact Nat.mod_eq_of_lt hm
  have hlm : m < B * B := by omega
  refine ⟨stL [[], [(m, (W : Int))], [(m / 2 ^ j, (W : Int) - j)], [(m / 2 ^ j, (W : Int) - j), (m, (W : Int))], [(m / 2 ^ j, (W : Int) - j), (m % 2 ^ j, (j : Int))], [(m, (W : Int))]], W, Runs.of_list (by simp) (fun i hi => ?_) (by simp) rfl rfl⟩
  match i, hi with
  | 0, _ =>
    have := Step.const W 0 0 m [] hlm
    rw [e1] at this
    exact this
  | 1, _ =>
    have := Step.slice ((W : Int) - j) ((W : Int) - 1) j 0 [] m W hlm (by omega) (by omega) (by omega)
    rw [e2] at this
    exact this
  | 2, _ =>
    have := Step.const W 0 0 m [(m / 2 ^ j, (W : Int) - j)] hlm
    rw [e1] at this
    exact this
  | 3, _ =>
    have := Step.slice j ((j : Int) - 1) 0 0 [(m / 2 ^ j, (W : Int) - j)] m W hlm (by omega) (by omega) (by omega)
    rw [e3] at this
    exact this
  | 4, _ =>
    have := Step.cat W 0 0 0 [] (m / 2 ^ j) (m % 2 ^ j) ((W : Int) - j) j (by have := Nat.div_le_self m (2 ^ j); omega) (by have := Nat.mod_le m (2 ^ j); omega)
    rw [e4] at this
    exact this
  | i + 5, hi => exact absurd hi (by show ¬ (i + 5 < 5); omega)

end Go.Proofs.Ytnknpgfconfgjaa
