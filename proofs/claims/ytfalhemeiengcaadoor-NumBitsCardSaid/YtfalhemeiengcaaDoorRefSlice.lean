/-
  Contract of quillonref01.Slice.
-/
import Derived.Test.YtfalhemeiengcaaDoorIn2
namespace Go.Proofs.YtfalhemeiengcaaDoor
open Go.RowKit

/-- The bits of a number from lo to hi. -/
def sliceN (n : Nat) (hi lo : Int) : Nat := if lo < 0 ∨ hi < lo then 0 else n / 2 ^ sh lo % 2 ^ sh (min hi 127 - lo + 1)

theorem sliceN_bits (n L M : Nat) (hi : Int) (hn : n < 2 ^ 128) (hM : M = max L (min 128 (hi + 1).toNat)) (i : Nat) (hi8 : i < 128) : (decide (L + i < M) && n.testBit (L + i)) = (sliceN n hi (L : Int)).testBit i := by
  unfold sliceN
  by_cases h : hi < (L : Int)
  · rw [if_pos (by omega)]
    have : decide (L + i < M) = false := by simp; omega
    rw [this]
    simp
  · rw [if_neg (by omega), Nat.testBit_mod_two_pow, Nat.testBit_div_two_pow]
    by_cases hL : 128 ≤ L
    · have : decide (L + i < M) = false := by simp; omega
      rw [this]
      have e : sh (L : Int) = 128 := by unfold sh; omega
      have q : n.testBit (i + 128) = false := Nat.testBit_lt_two_pow (Nat.lt_of_lt_of_le hn (Nat.pow_le_pow_right (by omega) (by omega)))
      rw [e, q]
      simp
    · have e : sh (L : Int) = L := by unfold sh; omega
      rw [e, Nat.add_comm i L]
      congr 1
      unfold sh
      simp only [decide_eq_decide]
      omega
theorem sliceN_lt (n : Nat) (hi lo : Int) (hn : n < B * B) : sliceN n hi lo < B * B := by
  unfold sliceN
  split
  · rw [BB_pow2]; exact Nat.two_pow_pos _
  · exact Nat.lt_of_le_of_lt (Nat.le_trans (Nat.mod_le _ _) (Nat.div_le_self _ _)) hn

set_option maxRecDepth 100000 in
set_option maxHeartbeats 4000000 in
theorem refSlice_nat (n L : Nat) (hi : Int) (hn : n < B * B) (w : World) :
    Calls Tryd.prog 41 #[numV n, .int .i64 hi, .int .i64 (L : Int)] w (RetNum w (sliceN n hi (L : Int))) := by
  obtain ⟨f, hf⟩ : ∃ f, f = n.testBit := ⟨_, rfl⟩
  have HA : Hid (∀ W, Calls Tryd.prog 53 #[numV n] W fun e w' => e = .returned (.agg (rowA f)) ∧ Below W.heap.size W w') := fun W => by rw [hf]; exact refBits_any n hn W
  have HF := Lib.hid hf
  obtain ⟨h1, l1, e1, -, -⟩ := numV_parts n
  rw [e1] at HA ⊢
  clear e1 hf
  go_enter Tryd.func41, Tryd.ntmps41
  go_wp2_with fail
  refine (HA.out _).mono ?_
  rintro e w1 ⟨rfl, hb1⟩
  obtain ⟨W0, hW0⟩ : ∃ W0, W0 = (w.alloc (.cells #[.int .u64 (h1 : Int), .int .u64 (l1 : Int)] 24)).alloc (.cells #[.int .u64 0, .int .u64 0] 24) := ⟨_, rfl⟩
  have hbW : Below w.heap.size w W0 := by rw [hW0]; exact (by repeat (first | exact Below.refl _ _ | assumption | refine Below.drew ?_ | refine Below.alloc ?_ (by first | omega | (simp <;> omega)) _ | refine Below.setCell ?_ (by first | omega | (simp <;> omega)) _ | refine Below.trans ?_ (Below.mono (by assumption) (by first | omega | (simp <;> omega)))))
  have z1 : w.heap.size + 1 < W0.heap.size := by rw [hW0]; simp
  have cr : W0.heap[w.heap.size + 1]? = some (.cells #[.int .u64 0, .int .u64 0] 24 (0, 0)) := by
    rw [hW0]
    have := heap_new (w.alloc (.cells #[.int .u64 (h1 : Int), .int .u64 (l1 : Int)] 24)) (.cells #[.int .u64 0, .int .u64 0] 24)
    simp only [World.size_alloc] at this
    exact this
  rw [← hW0] at hb1
  have hs1 := hb1.size
  have cr1 := (hb1.block _ z1).trans cr
  have HB1 : Hid (Below w.heap.size w w1) := hbW.trans (hb1.mono hbW.size)
  clear hb1 hW0 hbW cr
  have hZ : Tryd.zeroCells56 = rowA fun _ => false := by kernel_rfl
  have hnew := heap_new w1 (.cells Tryd.zeroCells56 56)
  have HZS : Hid ((Tryd.zeroCells56).size = 128) := by show _ = _; rw [hZ]; exact rowA_size _
  have hset := setRow_heap _ _ _ (rowA f) _ _ hnew
  have HNW := Lib.hid hnew
  have hal := heap_new ((w1.alloc (.cells Tryd.zeroCells56 56)).setRow w1.heap.size (rowA f)) (.cells Tryd.zeroCells56 56)
  simp only [setRow_size, World.size_alloc] at hal
  have hzz : ∀ i, i < 128 → (fun _ => false : Nat → Bool) i = (fun k i => decide (L + i < k) && f (L + i)) L i := fun i _ => by simp; intro h; omega
  have hez : Tryd.zeroCells56 = rowA ((fun k i => decide (L + i < k) && f (L + i)) L) := hZ.trans (rowA_congr hzz)
  have H0 : Hid (In2 (fun k i => decide (L + i < k) && f (L + i)) f w w1.heap.size (w1.heap.size + 1) (w.heap.size + 1) L (((w1.alloc (.cells Tryd.zeroCells56 56)).setRow w1.heap.size (rowA f)).alloc (.cells Tryd.zeroCells56 56))) := by
    refine ⟨?_, hal.trans (by rw [hez]), ⟨.int .u64 0, .int .u64 0, ?_⟩, ?_⟩
    · rw [Below.heap_alloc _ _ _ (by simp), hset]
    · rw [Below.heap_alloc _ _ _ (by simp; omega), setRow_other _ _ _ _ (by omega), Below.heap_alloc _ _ _ (by omega)]
      exact cr1
    · exact (below_setRow (HB1.out.alloc (by omega) _) (by omega) _).alloc (by simp; omega) _
  clear hZ hnew hset hal hzz hez cr1 HA
  go_wp2_with (refine wpList_store_row rfl 56 (.tmp 7) (.tmp 14) rfl w1.heap.size (rowA f) rfl rfl 56 _ HNW.out (by rw [rowA_size]; exact infoRow) (by rw [rowA_size]; exact HZS.out) (rowA_one _) ?_)
  clear HNW HZS HB1
  generalize (((w1.alloc (.cells Tryd.zeroCells56 56)).setRow w1.heap.size (rowA f)).alloc (.cells Tryd.zeroCells56 56)) = W2 at *
  obtain ⟨M, hM⟩ : ∃ M : Nat, M = max L (min 128 (hi + 1).toNat) := ⟨_, rfl⟩
  obtain ⟨g, hg⟩ : ∃ g : Nat → Bool, g = fun i => decide (L + i < M) && f (L + i) := ⟨_, rfl⟩
  have HE : Hid (ofBits g 128 = sliceN n hi (L : Int)) := by
    show _ = _
    refine ofBits_eq (by rw [← BB_pow2]; exact sliceN_lt n hi _ hn) fun i hi8 => ?_
    rw [hg, HF.out]
    exact sliceN_bits n L M hi (by rw [← BB_pow2]; exact hn) hM i hi8
  have HG : Hid (∀ i, i < 128 → g i = (fun k i => decide (L + i < k) && f (L + i)) M i) := fun i _ => by rw [hg]
  clear hg
  have hM1 : L ≤ M := by omega
  have hM2 : ∀ k : Nat, L ≤ k → k < M → k < 128 ∧ (k : Int) ≤ hi := fun k h1 h2 => by omega
  have hM3 : 128 ≤ M ∨ hi < (M : Int) := by omega
  have HM2 := Lib.hid hM2
  have HM3 := Lib.hid hM3
  clear hM hM2 hM3
  go_loopw [9] (fun i wr => ∃ k : Nat, L ≤ k ∧ k ≤ M ∧ i = .int .i64 k ∧ Hid (In2 (fun k i => decide (L + i < k) && f (L + i)) f w w1.heap.size (w1.heap.size + 1) (w.heap.size + 1) k wr)) (fun i _ => M - (intOf i).toNat)
  case atStart => exact ⟨L, Nat.le_refl _, hM1, rfl, H0⟩
  case round =>
    obtain ⟨k, hk, hkM, rfl, HK⟩ := hrel
    by_cases hlt : k < M
    · obtain ⟨hk8, hkh⟩ := HM2.out k hk hlt
      obtain ⟨r1, ⟨c2, r2⟩, r3⟩ := HK.out.cells (i := k) (j := k - L) (by omega) (by omega)
      have hx0 : (0 : Int) ≤ (k : Int) - L := by omega
      have hx1 : (k : Int) - L < 128 := by omega
      have hx2 : ((k : Int) - L).toNat = k - L := by omega
      go_wp2_with fail
      go_roundw
      case rel => exact ⟨k + 1, by omega, by omega, by go_num, HK.out.step (by omega) (by omega) (by omega) (fun i _ => by
        unfold put
        by_cases e : i = k - L
        · subst e
          have e2 : L + (k - L) = k := by omega
          simp [e2]
        · have e1 : decide (L + i < k + 1) = decide (L + i < k) := by simp; omega
          simp [e, e1])⟩
      case measure => simp [intOf]; omega
    · obtain rfl : k = M := by omega
      have hM3 := HM3.out
      clear HM2 HM3
      by_cases hk8 : k < 128
      · have hhk : hi < (k : Int) := by omega
        clear hM3
        obtain ⟨-, r1, ⟨x0, x1, r3⟩, r4⟩ := HK.out
        have e : rowA ((fun k i => decide (L + i < k) && f (L + i)) k) = rowA g := rowA_congr fun i hi => (HG.out i hi).symm
        rw [e] at r1
        clear e
        have HNUM : Hid (∀ W, Calls Tryd.prog 54 #[.agg (rowA g)] W (RetNum W (sliceN n hi (L : Int)))) := fun W => by rw [← HE.out]; exact refNum_any _ W
        have HB4 := Lib.hid r4
        have H3 := Lib.hid r3
        clear r3 r4 HE HK H0 HG
        have hRR : (rowA g).size = 128 := rowA_size _
        generalize rowA g = RR at r1 HNUM hRR
        go_wp2_with (first
          | (refine wpList_load_row rfl 56 (.tmp 8) rfl (w1.heap.size + 1) rfl 56 RR (0, 0) _ r1 Tryd.underlying56 rfl (by rw [hRR]; exact infoRow) ?_))
        clear r1
        obtain ⟨h3, l3, e3, -, -⟩ := numV_parts (sliceN n hi (L : Int))
        have HE3 := Lib.hid e3
        have HNUM2 : Hid (∀ W, Calls Tryd.prog 54 #[.agg RR] W fun e w' => e = .returned (.agg #[.int .u64 (h3 : Int), .int .u64 (l3 : Int)]) ∧ Below W.heap.size W w') := fun W => by rw [← HE3.out]; exact HNUM.out W
        clear HNUM e3
        refine (HNUM2.out _).mono ?_
        rintro e w3 ⟨rfl, hb1⟩
        have hr := (hb1.block (w.heap.size + 1) (lt_of_block H3.out)).trans H3.out
        have q0 : w3.cell? ⟨w.heap.size + 1, 0, none⟩ = some x0 := by simp [World.cell?, hr]
        have q1 : w3.cell? ⟨w.heap.size + 1, 1, none⟩ = some x1 := by simp [World.cell?, hr]
        have qz : ∀ j, w3.frozen? ⟨w.heap.size + 1, j, none⟩ = false := fun j => by simp [World.frozen?, hr]
        have HR := Lib.hid hr
        have HB5 : Hid (Below w.heap.size w w3) := HB4.out.trans (hb1.mono HB4.out.size)
        clear hr hb1
        go_wp2_with fail
        have hg := set_lo (.int .u64 (l3 : Int)) (set_hi (.int .u64 (h3 : Int)) HR.out)
        exact bodyPost_ret (v := .agg #[.int .u64 (h3 : Int), .int .u64 (l3 : Int)]) (results_cell_row Tryd.results41 _ _ (w.heap.size + 1) _ _ _ _ (by simp [go_sem]) hg Tryd.underlying24 rfl (by kernel_rfl)) rfl ⟨by rw [HE3.out], (HB5.out.setCell (by show w.heap.size ≤ w.heap.size + 1; omega) _).setCell (by show w.heap.size ≤ w.heap.size + 1; omega) _⟩
      · clear hM3
        obtain ⟨-, r1, ⟨x0, x1, r3⟩, r4⟩ := HK.out
        have e : rowA ((fun k i => decide (L + i < k) && f (L + i)) k) = rowA g := rowA_congr fun i hi => (HG.out i hi).symm
        rw [e] at r1
        clear e
        have HNUM : Hid (∀ W, Calls Tryd.prog 54 #[.agg (rowA g)] W (RetNum W (sliceN n hi (L : Int)))) := fun W => by rw [← HE.out]; exact refNum_any _ W
        have HB4 := Lib.hid r4
        have H3 := Lib.hid r3
        clear r3 r4 HE HK H0 HG
        have hRR : (rowA g).size = 128 := rowA_size _
        generalize rowA g = RR at r1 HNUM hRR
        go_wp2_with (first
          | (refine wpList_load_row rfl 56 (.tmp 8) rfl (w1.heap.size + 1) rfl 56 RR (0, 0) _ r1 Tryd.underlying56 rfl (by rw [hRR]; exact infoRow) ?_))
        clear r1
        obtain ⟨h3, l3, e3, -, -⟩ := numV_parts (sliceN n hi (L : Int))
        have HE3 := Lib.hid e3
        have HNUM2 : Hid (∀ W, Calls Tryd.prog 54 #[.agg RR] W fun e w' => e = .returned (.agg #[.int .u64 (h3 : Int), .int .u64 (l3 : Int)]) ∧ Below W.heap.size W w') := fun W => by rw [← HE3.out]; exact HNUM.out W
        clear HNUM e3
        refine (HNUM2.out _).mono ?_
        rintro e w3 ⟨rfl, hb1⟩
        have hr := (hb1.block (w.heap.size + 1) (lt_of_block H3.out)).trans H3.out
        have q0 : w3.cell? ⟨w.heap.size + 1, 0, none⟩ = some x0 := by simp [World.cell?, hr]
        have q1 : w3.cell? ⟨w.heap.size + 1, 1, none⟩ = some x1 := by simp [World.cell?, hr]
        have qz : ∀ j, w3.frozen? ⟨w.heap.size + 1, j, none⟩ = false := fun j => by simp [World.frozen?, hr]
        have HR := Lib.hid hr
        have HB5 : Hid (Below w.heap.size w w3) := HB4.out.trans (hb1.mono HB4.out.size)
        clear hr hb1
        go_wp2_with fail
        have hg := set_lo (.int .u64 (l3 : Int)) (set_hi (.int .u64 (h3 : Int)) HR.out)
        exact bodyPost_ret (v := .agg #[.int .u64 (h3 : Int), .int .u64 (l3 : Int)]) (results_cell_row Tryd.results41 _ _ (w.heap.size + 1) _ _ _ _ (by simp [go_sem]) hg Tryd.underlying24 rfl (by kernel_rfl)) rfl ⟨by rw [HE3.out], (HB5.out.setCell (by show w.heap.size ≤ w.heap.size + 1; omega) _).setCell (by show w.heap.size ≤ w.heap.size + 1; omega) _⟩

set_option maxRecDepth 100000 in
set_option maxHeartbeats 1000000 in
theorem refSlice_neg (n : Nat) (hi lo : Int) (hl : lo < 0) (w : World) :
    Calls Tryd.prog 41 #[numV n, .int .i64 hi, .int .i64 lo] w (RetNum w 0) := by
  obtain ⟨h1, l1, e1, -, -⟩ := numV_parts n
  rw [e1]
  clear e1
  have hnew := heap_new (w.alloc (.cells #[.int .u64 (h1 : Int), .int .u64 (l1 : Int)] 24)) (.cells #[.int .u64 0, .int .u64 0] 24)
  simp only [World.size_alloc] at hnew
  have HNEW := Lib.hid hnew
  clear hnew
  go_enter Tryd.func41, Tryd.ntmps41
  go_wp2_with fail
  exact bodyPost_ret (v := .agg #[.int .u64 0, .int .u64 0]) (results_cell_row Tryd.results41 _ _ (w.heap.size + 1) _ _ _ _ (by simp [go_sem]) HNEW.out Tryd.underlying24 rfl (by kernel_rfl)) rfl ⟨rfl, (by repeat (first | exact Below.refl _ _ | assumption | refine Below.drew ?_ | refine Below.alloc ?_ (by first | omega | (simp <;> omega)) _ | refine Below.setCell ?_ (by first | omega | (simp <;> omega)) _ | refine Below.trans ?_ (Below.mono (by assumption) (by first | omega | (simp <;> omega)))))⟩

theorem refSlice_any (n : Nat) (hi lo : Int) (hn : n < B * B) (w : World) : Calls Tryd.prog 41 #[numV n, .int .i64 hi, .int .i64 lo] w (RetNum w (sliceN n hi lo)) := by
  by_cases hl : lo < 0
  · have e : sliceN n hi lo = 0 := by unfold sliceN; rw [if_pos (Or.inl hl)]
    rw [e]
    exact refSlice_neg n hi lo hl w
  · obtain ⟨L, rfl⟩ : ∃ L : Nat, lo = (L : Int) := ⟨lo.toNat, by omega⟩
    exact refSlice_nat n L hi hn w

end Go.Proofs.YtfalhemeiengcaaDoor
