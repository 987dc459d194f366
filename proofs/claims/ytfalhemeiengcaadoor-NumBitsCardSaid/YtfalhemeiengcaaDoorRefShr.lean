/-
  Contract of quillonref01.Shr.
-/
import Derived.Test.YtfalhemeiengcaaDoorIn2
namespace Go.Proofs.YtfalhemeiengcaaDoor
open Go.RowKit

set_option maxRecDepth 100000 in
set_option maxHeartbeats 4000000 in
theorem refShr_nat (n : Nat) (K : Nat) (hn : n < B * B) (w : World) :
    Calls Tryd.prog 38 #[numV n, .int .i64 (K : Int)] w (RetNum w (n / 2 ^ min K 128)) := by
  obtain ⟨f, hf⟩ : ∃ f, f = n.testBit := ⟨_, rfl⟩
  have HA : Hid (∀ W, Calls Tryd.prog 53 #[numV n] W fun e w' => e = .returned (.agg (rowA f)) ∧ Below W.heap.size W w') := fun W => by rw [hf]; exact refBits_any n hn W
  have HF := Lib.hid hf
  obtain ⟨h1, l1, e1, -, -⟩ := numV_parts n
  rw [e1] at HA ⊢
  clear e1 hf
  go_enter Tryd.func38, Tryd.ntmps38
  go_wp2_with fail
  refine (HA.out _).mono ?_
  rintro e w1 ⟨rfl, hb1⟩
  obtain ⟨W0, hW0⟩ : ∃ W0, W0 = (w.alloc (.cells #[.int .u64 (h1 : Int), .int .u64 (l1 : Int)] 24)).alloc (.cells #[.int .u64 0, .int .u64 0] 24) := ⟨_, rfl⟩
  have hbW : Below w.heap.size w W0 := by rw [hW0]; exact (by repeat (first | exact Below.refl _ _ | assumption | refine Below.drew ?_ | refine Below.alloc ?_ (by first | omega | (simp <;> omega)) _ | refine Below.setCell ?_ (by first | omega | (simp <;> omega)) _ | refine Below.trans ?_ (Below.mono (by assumption) (by first | omega | (simp <;> omega)))))
  have z1 : w.heap.size + 1 < W0.heap.size := by rw [hW0]; simp
  have cr : W0.heap[w.heap.size + 1]? = some (.cells #[.int .u64 0, .int .u64 0] 24 (0, 0)) := by
    rw [hW0]
    have := heap_new (w.alloc (.cells #[.int .u64 (h1 : Int), .int .u64 (l1 : Int)] 24)) (.cells #[.int .u64 0, .int .u64 0] 24)
    simp only [World.size_alloc] at this
    exact this
  rw [← hW0] at hb1
  have hs1 := hb1.size
  have cr1 := (hb1.block _ z1).trans cr
  have HB1 : Hid (Below w.heap.size w w1) := hbW.trans (hb1.mono hbW.size)
  clear hb1 hW0 hbW cr
  have hZ : Tryd.zeroCells56 = rowA fun _ => false := by kernel_rfl
  have hnew := heap_new w1 (.cells Tryd.zeroCells56 56)
  have HZS : Hid ((Tryd.zeroCells56).size = 128) := by show _ = _; rw [hZ]; exact rowA_size _
  have hset := setRow_heap _ _ _ (rowA f) _ _ hnew
  have HNW := Lib.hid hnew
  have hal := heap_new ((w1.alloc (.cells Tryd.zeroCells56 56)).setRow w1.heap.size (rowA f)) (.cells Tryd.zeroCells56 56)
  simp only [setRow_size, World.size_alloc] at hal
  have hzz : ∀ i, i < 128 → (fun _ => false : Nat → Bool) i = (fun k i => decide (i < k) && f (i + K)) 0 i := fun i _ => by simp
  have hez : Tryd.zeroCells56 = rowA ((fun k i => decide (i < k) && f (i + K)) 0) := hZ.trans (rowA_congr hzz)
  have H0 : Hid (In2 (fun k i => decide (i < k) && f (i + K)) f w w1.heap.size (w1.heap.size + 1) (w.heap.size + 1) 0 (((w1.alloc (.cells Tryd.zeroCells56 56)).setRow w1.heap.size (rowA f)).alloc (.cells Tryd.zeroCells56 56))) := by
    refine ⟨?_, hal.trans (by rw [hez]), ⟨.int .u64 0, .int .u64 0, ?_⟩, ?_⟩
    · rw [Below.heap_alloc _ _ _ (by simp), hset]
    · rw [Below.heap_alloc _ _ _ (by simp; omega), setRow_other _ _ _ _ (by omega), Below.heap_alloc _ _ _ (by omega)]
      exact cr1
    · exact (below_setRow (HB1.out.alloc (by omega) _) (by omega) _).alloc (by simp; omega) _
  clear hZ hnew hset hal hzz hez cr1 HA
  go_wp2_with (refine wpList_store_row rfl 56 (.tmp 5) (.tmp 11) rfl w1.heap.size (rowA f) rfl rfl 56 _ HNW.out (by rw [rowA_size]; exact infoRow) (by rw [rowA_size]; exact HZS.out) (rowA_one _) ?_)
  clear HNW HZS HB1
  generalize (((w1.alloc (.cells Tryd.zeroCells56 56)).setRow w1.heap.size (rowA f)).alloc (.cells Tryd.zeroCells56 56)) = W2 at *
  obtain ⟨M, hM⟩ : ∃ M : Nat, M = 128 - K := ⟨_, rfl⟩
  obtain ⟨g, hg⟩ : ∃ g : Nat → Bool, g = fun i => decide (i < M) && f (i + K) := ⟨_, rfl⟩
  have HE : Hid (ofBits g 128 = n / 2 ^ min K 128) := by
    show _ = _
    refine ofBits_eq (by rw [← BB_pow2]; exact Nat.lt_of_le_of_lt (Nat.div_le_self _ _) hn) fun i hi => ?_
    rw [hg, HF.out, Nat.testBit_div_two_pow]
    by_cases h : i < M
    · have hk : min K 128 = K := by omega
      simp [h, hk, Nat.add_comm]
    · simp only [h, decide_false, Bool.false_and]
      symm
      apply Nat.testBit_lt_two_pow
      rw [BB_pow2] at hn
      exact Nat.lt_of_lt_of_le hn (Nat.pow_le_pow_right (by omega) (by omega))
  have HG : Hid (∀ i, i < 128 → g i = (fun k i => decide (i < k) && f (i + K)) M i) := fun i hi => by rw [hg]
  clear hg
  have hMs : M ≤ 128 := by omega
  go_loopw [7] (fun i wr => ∃ k : Nat, k ≤ M ∧ i = .int .i64 k ∧ Hid (In2 (fun k i => decide (i < k) && f (i + K)) f w w1.heap.size (w1.heap.size + 1) (w.heap.size + 1) k wr)) (fun i _ => 128 - (intOf i).toNat)
  case atStart => exact ⟨0, Nat.zero_le _, rfl, H0⟩
  case round =>
    obtain ⟨k, hk, rfl, HK⟩ := hrel
    by_cases hlt : k < M
    · have hM2 : k + K < 128 := by omega
      have hM3 : (k : Int) < 128 - (K : Int) := by omega
      have hM4 : (K : Int) < 128 := by omega
      have HM := Lib.hid hM
      clear hM
      obtain ⟨r1, ⟨c2, r2⟩, r3⟩ := HK.out.cells (i := k + K) (j := k) (by omega) (by omega)
      go_wp2_with fail
      go_roundw
      case rel => exact ⟨k + 1, by omega, by go_num, HK.out.step (by omega) (by omega) (by omega) (fun i _ => by unfold put; by_cases e : i = k <;> simp [e] <;> (try omega) <;> (by_cases e2 : i < k <;> simp [e2] <;> omega))⟩
      case measure => simp [intOf]; omega
    · obtain rfl : k = M := by omega
      have hM5 : (128 : Int) - K ≤ k := by omega
      have hM6 : (K : Int) < 128 → (k : Int) = 128 - (K : Int) := by omega
      have HM := Lib.hid hM
      clear hM hM6
      obtain ⟨-, r1, ⟨x0, x1, r3⟩, r4⟩ := HK.out
      have e : rowA ((fun k i => decide (i < k) && f (i + K)) k) = rowA g := rowA_congr fun i hi => (HG.out i hi).symm
      rw [e] at r1
      clear e
      have HNUM : Hid (∀ W, Calls Tryd.prog 54 #[.agg (rowA g)] W (RetNum W (n / 2 ^ min K 128))) := fun W => by rw [← HE.out]; exact refNum_any _ W
      have HB4 := Lib.hid r4
      have H3 := Lib.hid r3
      clear r3 r4 HE HK H0 HG
      have hRR : (rowA g).size = 128 := rowA_size _
      generalize rowA g = RR at r1 HNUM hRR
      by_cases hK8 : (K : Int) < 128
      all_goals
       go_wp2_with (first
        | (refine wpList_load_row rfl 56 (.tmp 6) rfl (w1.heap.size + 1) rfl 56 RR (0, 0) _ r1 Tryd.underlying56 rfl (by rw [hRR]; exact infoRow) ?_))
       clear r1
       obtain ⟨h3, l3, e3, -, -⟩ := numV_parts (n / 2 ^ min K 128)
       have HE3 := Lib.hid e3
       have HNUM2 : Hid (∀ W, Calls Tryd.prog 54 #[.agg RR] W fun e w' => e = .returned (.agg #[.int .u64 (h3 : Int), .int .u64 (l3 : Int)]) ∧ Below W.heap.size W w') := fun W => by rw [← HE3.out]; exact HNUM.out W
       clear HNUM e3
       refine (HNUM2.out _).mono ?_
       rintro e w3 ⟨rfl, hb1⟩
       have hr := (hb1.block (w.heap.size + 1) (lt_of_block H3.out)).trans H3.out
       have q0 : w3.cell? ⟨w.heap.size + 1, 0, none⟩ = some x0 := by simp [World.cell?, hr]
       have q1 : w3.cell? ⟨w.heap.size + 1, 1, none⟩ = some x1 := by simp [World.cell?, hr]
       have qz : ∀ j, w3.frozen? ⟨w.heap.size + 1, j, none⟩ = false := fun j => by simp [World.frozen?, hr]
       have HR := Lib.hid hr
       have HB5 : Hid (Below w.heap.size w w3) := HB4.out.trans (hb1.mono HB4.out.size)
       clear hr hb1
       go_wp2_with fail
       have hg := set_lo (.int .u64 (l3 : Int)) (set_hi (.int .u64 (h3 : Int)) HR.out)
       exact bodyPost_ret (v := .agg #[.int .u64 (h3 : Int), .int .u64 (l3 : Int)]) (results_cell_row Tryd.results38 _ _ (w.heap.size + 1) _ _ _ _ (by simp [go_sem]) hg Tryd.underlying24 rfl (by kernel_rfl)) rfl ⟨by rw [HE3.out], (HB5.out.setCell (by show w.heap.size ≤ w.heap.size + 1; omega) _).setCell (by show w.heap.size ≤ w.heap.size + 1; omega) _⟩

set_option maxRecDepth 100000 in
set_option maxHeartbeats 4000000 in
theorem refShr_neg (n : Nat) (c : Int) (hc : c < 0) (hn : n < B * B) (w : World) :
    Calls Tryd.prog 38 #[numV n, .int .i64 c] w (RetNum w (n)) := by
  obtain ⟨f, hf⟩ : ∃ f, f = n.testBit := ⟨_, rfl⟩
  have HA : Hid (∀ W, Calls Tryd.prog 53 #[numV n] W fun e w' => e = .returned (.agg (rowA f)) ∧ Below W.heap.size W w') := fun W => by rw [hf]; exact refBits_any n hn W
  have HF := Lib.hid hf
  obtain ⟨h1, l1, e1, -, -⟩ := numV_parts n
  rw [e1] at HA ⊢
  clear e1 hf
  go_enter Tryd.func38, Tryd.ntmps38
  go_wp2_with fail
  refine (HA.out _).mono ?_
  rintro e w1 ⟨rfl, hb1⟩
  obtain ⟨W0, hW0⟩ : ∃ W0, W0 = (w.alloc (.cells #[.int .u64 (h1 : Int), .int .u64 (l1 : Int)] 24)).alloc (.cells #[.int .u64 0, .int .u64 0] 24) := ⟨_, rfl⟩
  have hbW : Below w.heap.size w W0 := by rw [hW0]; exact (by repeat (first | exact Below.refl _ _ | assumption | refine Below.drew ?_ | refine Below.alloc ?_ (by first | omega | (simp <;> omega)) _ | refine Below.setCell ?_ (by first | omega | (simp <;> omega)) _ | refine Below.trans ?_ (Below.mono (by assumption) (by first | omega | (simp <;> omega)))))
  have z1 : w.heap.size + 1 < W0.heap.size := by rw [hW0]; simp
  have cr : W0.heap[w.heap.size + 1]? = some (.cells #[.int .u64 0, .int .u64 0] 24 (0, 0)) := by
    rw [hW0]
    have := heap_new (w.alloc (.cells #[.int .u64 (h1 : Int), .int .u64 (l1 : Int)] 24)) (.cells #[.int .u64 0, .int .u64 0] 24)
    simp only [World.size_alloc] at this
    exact this
  rw [← hW0] at hb1
  have hs1 := hb1.size
  have cr1 := (hb1.block _ z1).trans cr
  have HB1 : Hid (Below w.heap.size w w1) := hbW.trans (hb1.mono hbW.size)
  clear hb1 hW0 hbW cr
  have hZ : Tryd.zeroCells56 = rowA fun _ => false := by kernel_rfl
  have hnew := heap_new w1 (.cells Tryd.zeroCells56 56)
  have HZS : Hid ((Tryd.zeroCells56).size = 128) := by show _ = _; rw [hZ]; exact rowA_size _
  have hset := setRow_heap _ _ _ (rowA f) _ _ hnew
  have HNW := Lib.hid hnew
  have hal := heap_new ((w1.alloc (.cells Tryd.zeroCells56 56)).setRow w1.heap.size (rowA f)) (.cells Tryd.zeroCells56 56)
  simp only [setRow_size, World.size_alloc] at hal
  have hzz : ∀ i, i < 128 → (fun _ => false : Nat → Bool) i = (fun k i => decide (i < k) && f i) 0 i := fun i _ => by simp
  have hez : Tryd.zeroCells56 = rowA ((fun k i => decide (i < k) && f i) 0) := hZ.trans (rowA_congr hzz)
  have H0 : Hid (In2 (fun k i => decide (i < k) && f i) f w w1.heap.size (w1.heap.size + 1) (w.heap.size + 1) 0 (((w1.alloc (.cells Tryd.zeroCells56 56)).setRow w1.heap.size (rowA f)).alloc (.cells Tryd.zeroCells56 56))) := by
    refine ⟨?_, hal.trans (by rw [hez]), ⟨.int .u64 0, .int .u64 0, ?_⟩, ?_⟩
    · rw [Below.heap_alloc _ _ _ (by simp), hset]
    · rw [Below.heap_alloc _ _ _ (by simp; omega), setRow_other _ _ _ _ (by omega), Below.heap_alloc _ _ _ (by omega)]
      exact cr1
    · exact (below_setRow (HB1.out.alloc (by omega) _) (by omega) _).alloc (by simp; omega) _
  clear hZ hnew hset hal hzz hez cr1 HA
  go_wp2_with (refine wpList_store_row rfl 56 (.tmp 5) (.tmp 11) rfl w1.heap.size (rowA f) rfl rfl 56 _ HNW.out (by rw [rowA_size]; exact infoRow) (by rw [rowA_size]; exact HZS.out) (rowA_one _) ?_)
  clear HNW HZS HB1
  generalize (((w1.alloc (.cells Tryd.zeroCells56 56)).setRow w1.heap.size (rowA f)).alloc (.cells Tryd.zeroCells56 56)) = W2 at *
  obtain ⟨M, hM⟩ : ∃ M : Nat, M = 128 := ⟨_, rfl⟩
  obtain ⟨g, hg⟩ : ∃ g : Nat → Bool, g = fun i => f i := ⟨_, rfl⟩
  have HE : Hid (ofBits g 128 = n) := by
    show _ = _
    refine ofBits_eq (by rw [← BB_pow2]; exact hn) fun i hi => ?_
    rw [hg, HF.out]
  have HG : Hid (∀ i, i < 128 → g i = (fun k i => decide (i < k) && f i) M i) := fun i hi => by rw [hg]; simp; omega
  clear hg
  have hMs : M ≤ 128 := by omega
  have HMM := Lib.hid hM
  have hM1 : M = 128 := hM
  go_loopw [7] (fun i wr => ∃ k : Nat, k ≤ M ∧ i = .int .i64 k ∧ Hid (In2 (fun k i => decide (i < k) && f i) f w w1.heap.size (w1.heap.size + 1) (w.heap.size + 1) k wr)) (fun i _ => 128 - (intOf i).toNat)
  case atStart => exact ⟨0, Nat.zero_le _, rfl, H0⟩
  case round =>
    obtain ⟨k, hk, rfl, HK⟩ := hrel
    by_cases hlt : k < M
    · have hM2 : k < 128 := by omega
      clear hM1 hM
      obtain ⟨r1, ⟨c2, r2⟩, r3⟩ := HK.out.cells (i := k) (j := k) (by omega) (by omega)
      go_wp2_with fail
      go_roundw
      case rel => exact ⟨k + 1, by omega, by go_num, HK.out.step (by omega) (by omega) (by omega) (fun i _ => by unfold put; by_cases e : i = k <;> simp [e] <;> (try omega) <;> (by_cases e2 : i < k <;> simp [e2] <;> omega))⟩
      case measure => simp [intOf]; omega
    · obtain rfl : k = M := by omega
      obtain rfl : k = 128 := hM1
      clear hM
      obtain ⟨-, r1, ⟨x0, x1, r3⟩, r4⟩ := HK.out
      have e : rowA ((fun k i => decide (i < k) && f i) 128) = rowA g := rowA_congr fun i hi => (HG.out i hi).symm
      rw [e] at r1
      clear e
      have HNUM : Hid (∀ W, Calls Tryd.prog 54 #[.agg (rowA g)] W (RetNum W (n))) := fun W => by rw [← HE.out]; exact refNum_any _ W
      have HB4 := Lib.hid r4
      have H3 := Lib.hid r3
      clear r3 r4 HE HK H0 HG
      have hRR : (rowA g).size = 128 := rowA_size _
      generalize rowA g = RR at r1 HNUM hRR
      go_wp2_with (first
        | (refine wpList_load_row rfl 56 (.tmp 6) rfl (w1.heap.size + 1) rfl 56 RR (0, 0) _ r1 Tryd.underlying56 rfl (by rw [hRR]; exact infoRow) ?_))
      clear r1
      obtain ⟨h3, l3, e3, -, -⟩ := numV_parts (n)
      have HE3 := Lib.hid e3
      have HNUM2 : Hid (∀ W, Calls Tryd.prog 54 #[.agg RR] W fun e w' => e = .returned (.agg #[.int .u64 (h3 : Int), .int .u64 (l3 : Int)]) ∧ Below W.heap.size W w') := fun W => by rw [← HE3.out]; exact HNUM.out W
      clear HNUM e3
      refine (HNUM2.out _).mono ?_
      rintro e w3 ⟨rfl, hb1⟩
      have hr := (hb1.block (w.heap.size + 1) (lt_of_block H3.out)).trans H3.out
      have q0 : w3.cell? ⟨w.heap.size + 1, 0, none⟩ = some x0 := by simp [World.cell?, hr]
      have q1 : w3.cell? ⟨w.heap.size + 1, 1, none⟩ = some x1 := by simp [World.cell?, hr]
      have qz : ∀ j, w3.frozen? ⟨w.heap.size + 1, j, none⟩ = false := fun j => by simp [World.frozen?, hr]
      have HR := Lib.hid hr
      have HB5 : Hid (Below w.heap.size w w3) := HB4.out.trans (hb1.mono HB4.out.size)
      clear hr hb1
      go_wp2_with fail
      have hg := set_lo (.int .u64 (l3 : Int)) (set_hi (.int .u64 (h3 : Int)) HR.out)
      exact bodyPost_ret (v := .agg #[.int .u64 (h3 : Int), .int .u64 (l3 : Int)]) (results_cell_row Tryd.results38 _ _ (w.heap.size + 1) _ _ _ _ (by simp [go_sem]) hg Tryd.underlying24 rfl (by kernel_rfl)) rfl ⟨by rw [HE3.out], (HB5.out.setCell (by show w.heap.size ≤ w.heap.size + 1; omega) _).setCell (by show w.heap.size ≤ w.heap.size + 1; omega) _⟩

theorem refShr_any (n : Nat) (c : Int) (hn : n < B * B) (w : World) : Calls Tryd.prog 38 #[numV n, .int .i64 c] w (RetNum w (n / 2 ^ sh c)) := by
  by_cases hc : c < 0
  · have e : sh c = 0 := by unfold sh; omega
    rw [e, Nat.pow_zero, Nat.div_one]
    exact refShr_neg n c hc hn w
  · obtain ⟨K, rfl⟩ : ∃ K : Nat, c = (K : Int) := ⟨c.toNat, by omega⟩
    have e : sh (K : Int) = min K 128 := by unfold sh; omega
    rw [e]
    exact refShr_nat n K hn w

end Go.Proofs.YtfalhemeiengcaaDoor
