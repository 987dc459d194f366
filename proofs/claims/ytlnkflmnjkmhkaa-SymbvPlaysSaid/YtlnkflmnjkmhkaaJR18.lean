/-
  Lemmas, joined: RefNot, In2, RefShl, RefCat.
-/
import Derived.Test.YtlnkflmnjkmhkaaJR17
/-
  Contract of quillonref01.Not.
-/
namespace Go.Proofs.Ytlnkflmnjkmhkaa
open Go.RowKit

set_option maxRecDepth 100000 in
set_option maxHeartbeats 4000000 in
theorem refNot_any (n : Nat) (c : Int) (hn : n < B * B) (w : World) :
    Calls Try.prog 35 #[numV n, .int .i64 c] w (RetNum w ((n % 2 ^ sh c) ^^^ (2 ^ sh c - 1))) := by
  obtain ⟨f, hf⟩ : ∃ f, f = n.testBit := ⟨_, rfl⟩
  have HA : Hid (∀ W, Calls Try.prog 88 #[numV n] W fun e w' => e = .returned (.agg (rowA f)) ∧ Below W.heap.size W w') := fun W => by rw [hf]; exact refBits_any n hn W
  have HF := Lib.hid hf
  obtain ⟨h1, l1, e1, -, -⟩ := numV_parts n
  rw [e1] at HA ⊢
  clear e1 hf
  go_enter Try.func35, Try.ntmps35
  go_wp2_with fail
  refine (HA.out _).mono ?_
  rintro e w1 ⟨rfl, hb1⟩
  obtain ⟨W0, hW0⟩ : ∃ W0, W0 = (w.alloc (.cells #[.int .u64 (h1 : Int), .int .u64 (l1 : Int)] 41)).alloc (.cells #[.int .u64 0, .int .u64 0] 41) := ⟨_, rfl⟩
  have hbW : Below w.heap.size w W0 := by rw [hW0]; exact (by repeat (first | exact Below.refl _ _ | assumption | refine Below.drew ?_ | refine Below.alloc ?_ (by first | omega | (simp <;> omega)) _ | refine Below.setCell ?_ (by first | omega | (simp <;> omega)) _ | refine Below.trans ?_ (Below.mono (by assumption) (by first | omega | (simp <;> omega)))))
  have z1 : w.heap.size + 1 < W0.heap.size := by rw [hW0]; simp
  have cr : W0.heap[w.heap.size + 1]? = some (.cells #[.int .u64 0, .int .u64 0] 41 (0, 0)) := by
    rw [hW0]
    have := heap_new (w.alloc (.cells #[.int .u64 (h1 : Int), .int .u64 (l1 : Int)] 41)) (.cells #[.int .u64 0, .int .u64 0] 41)
    simp only [World.size_alloc] at this
    exact this
  rw [← hW0] at hb1
  have hs1 := hb1.size
  have cr1 := (hb1.block _ z1).trans cr
  have HB1 : Hid (Below w.heap.size w w1) := hbW.trans (hb1.mono hbW.size)
  clear hb1 hW0 hbW cr
  have hZ : Try.zeroCells120 = rowA fun _ => false := by kernel_rfl
  have hnew := heap_new w1 (.cells Try.zeroCells120 120)
  have HZS : Hid ((Try.zeroCells120).size = 128) := by show _ = _; rw [hZ]; exact rowA_size _
  have hset := setRow_heap _ _ _ (rowA f) _ _ hnew
  have HNW := Lib.hid hnew
  have HST := Lib.hid hset
  clear hZ hnew hset
  go_wp2_with (refine wpList_store_row rfl 120 (.tmp 5) (.tmp 8) rfl w1.heap.size (rowA f) rfl rfl 120 _ HNW.out (by rw [rowA_size]; exact infoRow) (by rw [rowA_size]; exact HZS.out) (rowA_one _) ?_)
  obtain ⟨g, hg⟩ : ∃ g : Nat → Bool, g = fun i => !f i && decide ((i : Int) < c) := ⟨_, rfl⟩
  have HG : Hid (∀ i, g i = (!f i && decide ((i : Int) < c))) := fun i => by rw [hg]
  have H0 : Hid (InAt g f w w1.heap.size (w.heap.size + 1) 0 ((w1.alloc (.cells Try.zeroCells120 120)).setRow w1.heap.size (rowA f))) :=
    ⟨by rw [HST.out]; congr 2, ⟨_, _, by rw [setRow_other _ _ _ _ (by omega), Below.heap_alloc _ _ _ (by omega)]; exact cr1⟩, below_setRow (HB1.out.alloc (by omega) _) (by omega) _⟩
  have HE : Hid (ofBits g 128 = ((n % 2 ^ sh c) ^^^ (2 ^ sh c - 1))) := by
    show _ = _
    have hp : 2 ^ sh c ≤ 2 ^ 128 := Nat.pow_le_pow_right (by omega) (sh_le c)
    have hpp : 0 < 2 ^ sh c := Nat.two_pow_pos _
    have hm : n % 2 ^ sh c < 2 ^ sh c := Nat.mod_lt _ hpp
    refine ofBits_eq (Nat.xor_lt_two_pow (by omega) (by omega)) fun i hi => ?_
    rw [HG.out, HF.out, Nat.testBit_xor, Nat.testBit_mod_two_pow, Nat.testBit_two_pow_sub_one, ← sh_bit c i hi]
    cases n.testBit i <;> cases decide (i < sh c) <;> rfl
  clear hg HST HNW HZS HB1 cr1 HA
  generalize (w1.alloc (.cells Try.zeroCells120 120)).setRow w1.heap.size (rowA f) = W2 at *
  go_loopw [6] (fun i wr => ∃ k : Nat, k ≤ 128 ∧ i = .int .i64 k ∧ Hid (InAt g f w w1.heap.size (w.heap.size + 1) k wr)) (fun i _ => 128 - (intOf i).toNat)
  case atStart => exact ⟨0, Nat.zero_le _, rfl, H0⟩
  case round =>
    obtain ⟨k, hk, rfl, HK⟩ := hrel
    by_cases hlt : k < 128
    · obtain ⟨r1, r2⟩ := HK.out.cells hlt
      by_cases hc : (k : Int) < c <;> cases hf1 : f k
      all_goals
        rw [hf1] at r1
        have HGK : Hid (g k = (!f k && decide ((k : Int) < c))) := HG.out k
        have HF1 := Lib.hid hf1
        have HC := Lib.hid hc
        clear hf1
        go_wp2_with fail
        go_roundw
        case rel => exact ⟨k + 1, by omega, by go_num, HK.out.step (by omega) (by omega) (by rw [HGK.out, HF1.out]; simp [HC.out])⟩
        case measure => simp [intOf]; omega
    · obtain rfl : k = 128 := by omega
      obtain ⟨r1, ⟨x0, x1, r3⟩, r4⟩ := HK.out.done
      have HNUM : Hid (∀ W, Calls Try.prog 89 #[.agg (rowA g)] W (RetNum W ((n % 2 ^ sh c) ^^^ (2 ^ sh c - 1)))) := fun W => by rw [← HE.out]; exact refNum_any _ W
      have HB4 := Lib.hid r4
      have H3 := Lib.hid r3
      clear r3 r4 HE HK H0 HG
      have hRR : (rowA g).size = 128 := rowA_size _
      generalize rowA g = RR at r1 HNUM hRR
      go_wp2_with (first
        | (refine wpList_load_row rfl 120 (.tmp 5) rfl w1.heap.size rfl 120 RR (0, 0) _ r1 Try.underlying120 rfl (by rw [hRR]; exact infoRow) ?_))
      clear r1
      obtain ⟨h3, l3, e3, -, -⟩ := numV_parts ((n % 2 ^ sh c) ^^^ (2 ^ sh c - 1))
      have HE3 := Lib.hid e3
      have HNUM2 : Hid (∀ W, Calls Try.prog 89 #[.agg RR] W fun e w' => e = .returned (.agg #[.int .u64 (h3 : Int), .int .u64 (l3 : Int)]) ∧ Below W.heap.size W w') := fun W => by rw [← HE3.out]; exact HNUM.out W
      clear HNUM e3
      refine (HNUM2.out _).mono ?_
      rintro e w3 ⟨rfl, hb1⟩
      have hr := (hb1.block (w.heap.size + 1) (lt_of_block H3.out)).trans H3.out
      have q0 : w3.cell? ⟨w.heap.size + 1, 0, none⟩ = some x0 := by simp [World.cell?, hr]
      have q1 : w3.cell? ⟨w.heap.size + 1, 1, none⟩ = some x1 := by simp [World.cell?, hr]
      have qz : ∀ j, w3.frozen? ⟨w.heap.size + 1, j, none⟩ = false := fun j => by simp [World.frozen?, hr]
      have HR := Lib.hid hr
      have HB5 : Hid (Below w.heap.size w w3) := HB4.out.trans (hb1.mono HB4.out.size)
      clear hr hb1
      go_wp2_with fail
      have hg := set_lo (.int .u64 (l3 : Int)) (set_hi (.int .u64 (h3 : Int)) HR.out)
      exact bodyPost_ret (v := .agg #[.int .u64 (h3 : Int), .int .u64 (l3 : Int)]) (results_cell_row Try.results35 _ _ (w.heap.size + 1) _ _ _ _ (by simp [go_sem]) hg Try.underlying41 rfl (by kernel_rfl)) rfl ⟨by rw [HE3.out], (HB5.out.setCell (by show w.heap.size ≤ w.heap.size + 1; omega) _).setCell (by show w.heap.size ≤ w.heap.size + 1; omega) _⟩

end Go.Proofs.Ytlnkflmnjkmhkaa

/-
  Loops that fill a new row out of another one.
-/
namespace Go.Proofs.Ytlnkflmnjkmhkaa
open Go.RowKit

/-- What holds at a round's head: the row gx holds f, the row gy what F says of k. -/
def In2 (F : Nat → Nat → Bool) (f : Nat → Bool) (w : World) (gx gy N k : Nat) (wr : World) : Prop :=
  wr.heap[gx]? = some (.cells (rowA f) 120 (0, 0)) ∧ wr.heap[gy]? = some (.cells (rowA (F k)) 120 (0, 0)) ∧
  (∃ c0 c1, wr.heap[N]? = some (.cells #[c0, c1] 41 (0, 0))) ∧ Below w.heap.size w wr

theorem In2.cells {F : Nat → Nat → Bool} {f : Nat → Bool} {w wr : World} {gx gy N k : Nat} (h : In2 F f w gx gy N k wr) {i j : Nat} (hi : i < 128) (hj : j < 128) :
    wr.cell? ⟨gx, i, none⟩ = some (.bool (f i)) ∧ (∃ c, wr.cell? ⟨gy, j, none⟩ = some (.bool c)) ∧ wr.frozen? ⟨gy, j, none⟩ = false := by
  obtain ⟨h1, h2, h3, h4⟩ := h
  refine ⟨?_, ⟨F k j, ?_⟩, ?_⟩
  · rw [cell_of_row wr _ i _ _ _ h1, rowA_at _ i hi]
  · rw [cell_of_row wr _ j _ _ _ h2, rowA_at _ j hj]
  · simp [World.frozen?, h2]

theorem In2.step {F : Nat → Nat → Bool} {f : Nat → Bool} {w wr : World} {gx gy N k j : Nat} {c : Bool} (h : In2 F f w gx gy N k wr) (hn : gx ≠ gy) (hN : N ≠ gy) (hx : w.heap.size ≤ gy) (hF : ∀ i, i < 128 → put (F k) j c i = F (k + 1) i) :
    Hid (In2 F f w gx gy N (k + 1) (wr.setCell ⟨gy, j, none⟩ (.bool c))) := by
  obtain ⟨h1, h2, ⟨c0, c1, h3⟩, h4⟩ := h
  refine ⟨?_, ?_, ⟨c0, c1, ?_⟩, h4.setCell (by show w.heap.size ≤ gy; omega) _⟩
  · rw [setCell_heap hn]; exact h1
  · rw [setCell_row _ h2]
    congr 2
    exact rowA_congr hF
  · rw [setCell_heap hN]; exact h3

end Go.Proofs.Ytlnkflmnjkmhkaa

/-
  Contract of quillonref01.Shl.
-/
namespace Go.Proofs.Ytlnkflmnjkmhkaa
open Go.RowKit

set_option maxRecDepth 100000 in
set_option maxHeartbeats 4000000 in
theorem refShl_nat (n : Nat) (K : Nat) (c : Int) (hn : n < B * B) (w : World) :
    Calls Try.prog 37 #[numV n, .int .i64 (K : Int), .int .i64 c] w (RetNum w (n * 2 ^ min K 128 % 2 ^ 128 % 2 ^ sh c)) := by
  obtain ⟨f, hf⟩ : ∃ f, f = n.testBit := ⟨_, rfl⟩
  have HA : Hid (∀ W, Calls Try.prog 88 #[numV n] W fun e w' => e = .returned (.agg (rowA f)) ∧ Below W.heap.size W w') := fun W => by rw [hf]; exact refBits_any n hn W
  have HF := Lib.hid hf
  obtain ⟨h1, l1, e1, -, -⟩ := numV_parts n
  rw [e1] at HA ⊢
  clear e1 hf
  go_enter Try.func37, Try.ntmps37
  go_wp2_with fail
  refine (HA.out _).mono ?_
  rintro e w1 ⟨rfl, hb1⟩
  obtain ⟨W0, hW0⟩ : ∃ W0, W0 = (w.alloc (.cells #[.int .u64 (h1 : Int), .int .u64 (l1 : Int)] 41)).alloc (.cells #[.int .u64 0, .int .u64 0] 41) := ⟨_, rfl⟩
  have hbW : Below w.heap.size w W0 := by rw [hW0]; exact (by repeat (first | exact Below.refl _ _ | assumption | refine Below.drew ?_ | refine Below.alloc ?_ (by first | omega | (simp <;> omega)) _ | refine Below.setCell ?_ (by first | omega | (simp <;> omega)) _ | refine Below.trans ?_ (Below.mono (by assumption) (by first | omega | (simp <;> omega)))))
  have z1 : w.heap.size + 1 < W0.heap.size := by rw [hW0]; simp
  have cr : W0.heap[w.heap.size + 1]? = some (.cells #[.int .u64 0, .int .u64 0] 41 (0, 0)) := by
    rw [hW0]
    have := heap_new (w.alloc (.cells #[.int .u64 (h1 : Int), .int .u64 (l1 : Int)] 41)) (.cells #[.int .u64 0, .int .u64 0] 41)
    simp only [World.size_alloc] at this
    exact this
  rw [← hW0] at hb1
  have hs1 := hb1.size
  have cr1 := (hb1.block _ z1).trans cr
  have HB1 : Hid (Below w.heap.size w w1) := hbW.trans (hb1.mono hbW.size)
  clear hb1 hW0 hbW cr
  have hZ : Try.zeroCells120 = rowA fun _ => false := by kernel_rfl
  have hnew := heap_new w1 (.cells Try.zeroCells120 120)
  have HZS : Hid ((Try.zeroCells120).size = 128) := by show _ = _; rw [hZ]; exact rowA_size _
  have hset := setRow_heap _ _ _ (rowA f) _ _ hnew
  have HNW := Lib.hid hnew
  have hal := heap_new ((w1.alloc (.cells Try.zeroCells120 120)).setRow w1.heap.size (rowA f)) (.cells Try.zeroCells120 120)
  simp only [setRow_size, World.size_alloc] at hal
  have hzz : ∀ i, i < 128 → (fun _ => false : Nat → Bool) i = (fun k i => decide (K ≤ i) && (decide (i < k) && f (i - K))) K i := fun i _ => by by_cases h : K ≤ i <;> simp [h] <;> intro h2 <;> omega
  have hez : Try.zeroCells120 = rowA ((fun k i => decide (K ≤ i) && (decide (i < k) && f (i - K))) K) := hZ.trans (rowA_congr hzz)
  have H0 : Hid (In2 (fun k i => decide (K ≤ i) && (decide (i < k) && f (i - K))) f w w1.heap.size (w1.heap.size + 1) (w.heap.size + 1) K (((w1.alloc (.cells Try.zeroCells120 120)).setRow w1.heap.size (rowA f)).alloc (.cells Try.zeroCells120 120))) := by
    refine ⟨?_, hal.trans (by rw [hez]), ⟨.int .u64 0, .int .u64 0, ?_⟩, ?_⟩
    · rw [Below.heap_alloc _ _ _ (by simp), hset]
    · rw [Below.heap_alloc _ _ _ (by simp; omega), setRow_other _ _ _ _ (by omega), Below.heap_alloc _ _ _ (by omega)]
      exact cr1
    · exact (below_setRow (HB1.out.alloc (by omega) _) (by omega) _).alloc (by simp; omega) _
  clear hZ hnew hset hal hzz hez cr1 HA
  go_wp2_with (refine wpList_store_row rfl 120 (.tmp 7) (.tmp 13) rfl w1.heap.size (rowA f) rfl rfl 120 _ HNW.out (by rw [rowA_size]; exact infoRow) (by rw [rowA_size]; exact HZS.out) (rowA_one _) ?_)
  clear HNW HZS HB1
  generalize (((w1.alloc (.cells Try.zeroCells120 120)).setRow w1.heap.size (rowA f)).alloc (.cells Try.zeroCells120 120)) = W2 at *
  obtain ⟨g, hg⟩ : ∃ g : Nat → Bool, g = fun i => decide (K ≤ i) && f (i - K) := ⟨_, rfl⟩
  have HE : Hid (ofBits g 128 = n * 2 ^ min K 128 % 2 ^ 128) := by
    show _ = _
    refine ofBits_eq (Nat.mod_lt _ (Nat.two_pow_pos _)) fun i hi => ?_
    rw [hg, HF.out, Nat.testBit_mod_two_pow, Nat.testBit_mul_two_pow]
    by_cases h : K ≤ i
    · have hk : min K 128 = K := by omega
      simp [h, hk, hi]
    · have h2 : ¬ min K 128 ≤ i := by omega
      simp [h, h2]
  have HG : Hid (∀ j, 128 ≤ j → ∀ i, i < 128 → g i = (fun k i => decide (K ≤ i) && (decide (i < k) && f (i - K))) j i) := by
    show ∀ j, 128 ≤ j → ∀ i, i < 128 → g i = (fun k i => decide (K ≤ i) && (decide (i < k) && f (i - K))) j i
    intro j hj i hi
    have hd : decide (i < j) = true := by simp; omega
    rw [hg]
    simp only [hd, Bool.true_and]
  clear hg
  go_loopw [9] (fun i wr => ∃ k : Nat, K ≤ k ∧ i = .int .i64 k ∧ Hid (In2 (fun k i => decide (K ≤ i) && (decide (i < k) && f (i - K))) f w w1.heap.size (w1.heap.size + 1) (w.heap.size + 1) k wr)) (fun i _ => 128 - (intOf i).toNat)
  case atStart => exact ⟨K, by omega, rfl, H0⟩
  case round =>
    obtain ⟨k, hk, rfl, HK⟩ := hrel
    by_cases hlt : k < 128
    · obtain ⟨r1, ⟨c2, r2⟩, r3⟩ := HK.out.cells (i := k - K) (j := k) (by omega) (by omega)
      have hx0 : (0 : Int) ≤ (k : Int) - K := by omega
      have hx1 : (k : Int) - K < 128 := by omega
      have hx2 : ((k : Int) - K).toNat = k - K := by omega
      go_wp2_with fail
      go_roundw
      case rel => exact ⟨k + 1, by omega, by go_num, HK.out.step (by omega) (by omega) (by omega) (fun i _ => by
        unfold put
        by_cases e : i = k
        · subst e; simp [hk]
        · have e1 : decide (i < k + 1) = decide (i < k) := by simp; omega
          simp [e, e1])⟩
      case measure => simp [intOf]; omega
    · have hk8 : 128 ≤ k := by omega
      obtain ⟨-, r1, ⟨x0, x1, r3⟩, r4⟩ := HK.out
      have e : rowA ((fun k i => decide (K ≤ i) && (decide (i < k) && f (i - K))) k) = rowA g := rowA_congr fun i hi => (HG.out k hk8 i hi).symm
      rw [e] at r1
      clear e
      have HNUM : Hid (∀ W, Calls Try.prog 89 #[.agg (rowA g)] W (RetNum W (n * 2 ^ min K 128 % 2 ^ 128))) := fun W => by rw [← HE.out]; exact refNum_any _ W
      have HB4 := Lib.hid r4
      have H3 := Lib.hid r3
      clear r3 r4 HE HK H0 HG
      have hRR : (rowA g).size = 128 := rowA_size _
      generalize rowA g = RR at r1 HNUM hRR
      go_wp2_with (first
        | (refine wpList_load_row rfl 120 (.tmp 8) rfl (w1.heap.size + 1) rfl 120 RR (0, 0) _ r1 Try.underlying120 rfl (by rw [hRR]; exact infoRow) ?_))
      clear r1
      obtain ⟨h3, l3, e3, -, -⟩ := numV_parts (n * 2 ^ min K 128 % 2 ^ 128)
      have HE3 := Lib.hid e3
      have HNUM2 : Hid (∀ W, Calls Try.prog 89 #[.agg RR] W fun e w' => e = .returned (.agg #[.int .u64 (h3 : Int), .int .u64 (l3 : Int)]) ∧ Below W.heap.size W w') := fun W => by rw [← HE3.out]; exact HNUM.out W
      have hcut : ∀ W, Calls Try.prog 31 #[numV (n * 2 ^ min K 128 % 2 ^ 128), .int .i64 c] W (RetNum W (n * 2 ^ min K 128 % 2 ^ 128 % 2 ^ sh c)) := fun W => refCut_any _ c (by rw [BB_pow2]; exact Nat.mod_lt _ (Nat.two_pow_pos _)) W
      rw [HE3.out] at hcut
      obtain ⟨h4, l4, e4, -, -⟩ := numV_parts (n * 2 ^ min K 128 % 2 ^ 128 % 2 ^ sh c)
      have HE4 := Lib.hid e4
      have HCUT2 : Hid (∀ W, Calls Try.prog 31 #[.agg #[.int .u64 (h3 : Int), .int .u64 (l3 : Int)], .int .i64 c] W fun e w' => e = .returned (.agg #[.int .u64 (h4 : Int), .int .u64 (l4 : Int)]) ∧ Below W.heap.size W w') := fun W => by rw [← HE4.out]; exact hcut W
      clear HNUM e3 hcut e4 HE3
      refine (HNUM2.out _).mono ?_
      rintro e w3 ⟨rfl, hb1⟩
      have HB6 : Hid (Below w.heap.size w w3) := HB4.out.trans (hb1.mono HB4.out.size)
      have H6 := Lib.hid ((hb1.block (w.heap.size + 1) (lt_of_block H3.out)).trans H3.out)
      clear hb1 H3 HB4
      go_wp2_with fail
      refine (HCUT2.out _).mono ?_
      rintro e w4 ⟨rfl, hb1⟩
      have hr := (hb1.block (w.heap.size + 1) (lt_of_block H6.out)).trans H6.out
      have q0 : w4.cell? ⟨w.heap.size + 1, 0, none⟩ = some x0 := by simp [World.cell?, hr]
      have q1 : w4.cell? ⟨w.heap.size + 1, 1, none⟩ = some x1 := by simp [World.cell?, hr]
      have qz : ∀ j, w4.frozen? ⟨w.heap.size + 1, j, none⟩ = false := fun j => by simp [World.frozen?, hr]
      have HR := Lib.hid hr
      have HB5 : Hid (Below w.heap.size w w4) := HB6.out.trans (hb1.mono HB6.out.size)
      clear hr hb1
      go_wp2_with fail
      have hg := set_lo (.int .u64 (l4 : Int)) (set_hi (.int .u64 (h4 : Int)) HR.out)
      exact bodyPost_ret (v := .agg #[.int .u64 (h4 : Int), .int .u64 (l4 : Int)]) (results_cell_row Try.results37 _ _ (w.heap.size + 1) _ _ _ _ (by simp [go_sem]) hg Try.underlying41 rfl (by kernel_rfl)) rfl ⟨by rw [HE4.out], (HB5.out.setCell (by show w.heap.size ≤ w.heap.size + 1; omega) _).setCell (by show w.heap.size ≤ w.heap.size + 1; omega) _⟩

set_option maxRecDepth 100000 in
set_option maxHeartbeats 4000000 in
theorem refShl_neg (n : Nat) (a : Int) (ha : a < 0) (c : Int) (hn : n < B * B) (w : World) :
    Calls Try.prog 37 #[numV n, .int .i64 a, .int .i64 c] w (RetNum w (n % 2 ^ sh c)) := by
  obtain ⟨f, hf⟩ : ∃ f, f = n.testBit := ⟨_, rfl⟩
  have HA : Hid (∀ W, Calls Try.prog 88 #[numV n] W fun e w' => e = .returned (.agg (rowA f)) ∧ Below W.heap.size W w') := fun W => by rw [hf]; exact refBits_any n hn W
  have HF := Lib.hid hf
  obtain ⟨h1, l1, e1, -, -⟩ := numV_parts n
  rw [e1] at HA ⊢
  clear e1 hf
  go_enter Try.func37, Try.ntmps37
  go_wp2_with fail
  refine (HA.out _).mono ?_
  rintro e w1 ⟨rfl, hb1⟩
  obtain ⟨W0, hW0⟩ : ∃ W0, W0 = (w.alloc (.cells #[.int .u64 (h1 : Int), .int .u64 (l1 : Int)] 41)).alloc (.cells #[.int .u64 0, .int .u64 0] 41) := ⟨_, rfl⟩
  have hbW : Below w.heap.size w W0 := by rw [hW0]; exact (by repeat (first | exact Below.refl _ _ | assumption | refine Below.drew ?_ | refine Below.alloc ?_ (by first | omega | (simp <;> omega)) _ | refine Below.setCell ?_ (by first | omega | (simp <;> omega)) _ | refine Below.trans ?_ (Below.mono (by assumption) (by first | omega | (simp <;> omega)))))
  have z1 : w.heap.size + 1 < W0.heap.size := by rw [hW0]; simp
  have cr : W0.heap[w.heap.size + 1]? = some (.cells #[.int .u64 0, .int .u64 0] 41 (0, 0)) := by
    rw [hW0]
    have := heap_new (w.alloc (.cells #[.int .u64 (h1 : Int), .int .u64 (l1 : Int)] 41)) (.cells #[.int .u64 0, .int .u64 0] 41)
    simp only [World.size_alloc] at this
    exact this
  rw [← hW0] at hb1
  have hs1 := hb1.size
  have cr1 := (hb1.block _ z1).trans cr
  have HB1 : Hid (Below w.heap.size w w1) := hbW.trans (hb1.mono hbW.size)
  clear hb1 hW0 hbW cr
  have hZ : Try.zeroCells120 = rowA fun _ => false := by kernel_rfl
  have hnew := heap_new w1 (.cells Try.zeroCells120 120)
  have HZS : Hid ((Try.zeroCells120).size = 128) := by show _ = _; rw [hZ]; exact rowA_size _
  have hset := setRow_heap _ _ _ (rowA f) _ _ hnew
  have HNW := Lib.hid hnew
  have hal := heap_new ((w1.alloc (.cells Try.zeroCells120 120)).setRow w1.heap.size (rowA f)) (.cells Try.zeroCells120 120)
  simp only [setRow_size, World.size_alloc] at hal
  have hzz : ∀ i, i < 128 → (fun _ => false : Nat → Bool) i = (fun k i => decide (i < k) && f i) 0 i := fun i _ => by simp
  have hez : Try.zeroCells120 = rowA ((fun k i => decide (i < k) && f i) 0) := hZ.trans (rowA_congr hzz)
  have H0 : Hid (In2 (fun k i => decide (i < k) && f i) f w w1.heap.size (w1.heap.size + 1) (w.heap.size + 1) 0 (((w1.alloc (.cells Try.zeroCells120 120)).setRow w1.heap.size (rowA f)).alloc (.cells Try.zeroCells120 120))) := by
    refine ⟨?_, hal.trans (by rw [hez]), ⟨.int .u64 0, .int .u64 0, ?_⟩, ?_⟩
    · rw [Below.heap_alloc _ _ _ (by simp), hset]
    · rw [Below.heap_alloc _ _ _ (by simp; omega), setRow_other _ _ _ _ (by omega), Below.heap_alloc _ _ _ (by omega)]
      exact cr1
    · exact (below_setRow (HB1.out.alloc (by omega) _) (by omega) _).alloc (by simp; omega) _
  clear hZ hnew hset hal hzz hez cr1 HA
  go_wp2_with (refine wpList_store_row rfl 120 (.tmp 7) (.tmp 13) rfl w1.heap.size (rowA f) rfl rfl 120 _ HNW.out (by rw [rowA_size]; exact infoRow) (by rw [rowA_size]; exact HZS.out) (rowA_one _) ?_)
  clear HNW HZS HB1
  generalize (((w1.alloc (.cells Try.zeroCells120 120)).setRow w1.heap.size (rowA f)).alloc (.cells Try.zeroCells120 120)) = W2 at *
  obtain ⟨g, hg⟩ : ∃ g : Nat → Bool, g = fun i => f i := ⟨_, rfl⟩
  have HE : Hid (ofBits g 128 = n) := by
    show _ = _
    refine ofBits_eq (by rw [← BB_pow2]; exact hn) fun i hi => ?_
    rw [hg, HF.out]
  have HG : Hid (∀ j, 128 ≤ j → ∀ i, i < 128 → g i = (fun k i => decide (i < k) && f i) j i) := by
    show ∀ j, 128 ≤ j → ∀ i, i < 128 → g i = (fun k i => decide (i < k) && f i) j i
    intro j hj i hi
    have hd : decide (i < j) = true := by simp; omega
    rw [hg]
    simp only [hd, Bool.true_and]
  clear hg
  go_loopw [9] (fun i wr => ∃ k : Nat, k ≤ 128 ∧ i = .int .i64 k ∧ Hid (In2 (fun k i => decide (i < k) && f i) f w w1.heap.size (w1.heap.size + 1) (w.heap.size + 1) k wr)) (fun i _ => 128 - (intOf i).toNat)
  case atStart => exact ⟨0, by omega, rfl, H0⟩
  case round =>
    obtain ⟨k, hk, rfl, HK⟩ := hrel
    by_cases hlt : k < 128
    · obtain ⟨r1, ⟨c2, r2⟩, r3⟩ := HK.out.cells (i := k) (j := k) (by omega) (by omega)
      go_wp2_with fail
      go_roundw
      case rel => exact ⟨k + 1, by omega, by go_num, HK.out.step (by omega) (by omega) (by omega) (fun i _ => by unfold put; by_cases e : i = k <;> simp [e] <;> (try omega) <;> (by_cases e2 : i < k <;> simp [e2] <;> omega))⟩
      case measure => simp [intOf]; omega
    · obtain rfl : k = 128 := by omega
      obtain ⟨-, r1, ⟨x0, x1, r3⟩, r4⟩ := HK.out
      have e : rowA ((fun k i => decide (i < k) && f i) 128) = rowA g := rowA_congr fun i hi => (HG.out 128 (by omega) i hi).symm
      rw [e] at r1
      clear e
      have HNUM : Hid (∀ W, Calls Try.prog 89 #[.agg (rowA g)] W (RetNum W (n))) := fun W => by rw [← HE.out]; exact refNum_any _ W
      have HB4 := Lib.hid r4
      have H3 := Lib.hid r3
      clear r3 r4 HE HK H0 HG
      have hRR : (rowA g).size = 128 := rowA_size _
      generalize rowA g = RR at r1 HNUM hRR
      go_wp2_with (first
        | (refine wpList_load_row rfl 120 (.tmp 8) rfl (w1.heap.size + 1) rfl 120 RR (0, 0) _ r1 Try.underlying120 rfl (by rw [hRR]; exact infoRow) ?_))
      clear r1
      obtain ⟨h3, l3, e3, -, -⟩ := numV_parts (n)
      have HE3 := Lib.hid e3
      have HNUM2 : Hid (∀ W, Calls Try.prog 89 #[.agg RR] W fun e w' => e = .returned (.agg #[.int .u64 (h3 : Int), .int .u64 (l3 : Int)]) ∧ Below W.heap.size W w') := fun W => by rw [← HE3.out]; exact HNUM.out W
      have hcut : ∀ W, Calls Try.prog 31 #[numV (n), .int .i64 c] W (RetNum W (n % 2 ^ sh c)) := fun W => refCut_any _ c hn W
      rw [HE3.out] at hcut
      obtain ⟨h4, l4, e4, -, -⟩ := numV_parts (n % 2 ^ sh c)
      have HE4 := Lib.hid e4
      have HCUT2 : Hid (∀ W, Calls Try.prog 31 #[.agg #[.int .u64 (h3 : Int), .int .u64 (l3 : Int)], .int .i64 c] W fun e w' => e = .returned (.agg #[.int .u64 (h4 : Int), .int .u64 (l4 : Int)]) ∧ Below W.heap.size W w') := fun W => by rw [← HE4.out]; exact hcut W
      clear HNUM e3 hcut e4 HE3
      refine (HNUM2.out _).mono ?_
      rintro e w3 ⟨rfl, hb1⟩
      have HB6 : Hid (Below w.heap.size w w3) := HB4.out.trans (hb1.mono HB4.out.size)
      have H6 := Lib.hid ((hb1.block (w.heap.size + 1) (lt_of_block H3.out)).trans H3.out)
      clear hb1 H3 HB4
      go_wp2_with fail
      refine (HCUT2.out _).mono ?_
      rintro e w4 ⟨rfl, hb1⟩
      have hr := (hb1.block (w.heap.size + 1) (lt_of_block H6.out)).trans H6.out
      have q0 : w4.cell? ⟨w.heap.size + 1, 0, none⟩ = some x0 := by simp [World.cell?, hr]
      have q1 : w4.cell? ⟨w.heap.size + 1, 1, none⟩ = some x1 := by simp [World.cell?, hr]
      have qz : ∀ j, w4.frozen? ⟨w.heap.size + 1, j, none⟩ = false := fun j => by simp [World.frozen?, hr]
      have HR := Lib.hid hr
      have HB5 : Hid (Below w.heap.size w w4) := HB6.out.trans (hb1.mono HB6.out.size)
      clear hr hb1
      go_wp2_with fail
      have hg := set_lo (.int .u64 (l4 : Int)) (set_hi (.int .u64 (h4 : Int)) HR.out)
      exact bodyPost_ret (v := .agg #[.int .u64 (h4 : Int), .int .u64 (l4 : Int)]) (results_cell_row Try.results37 _ _ (w.heap.size + 1) _ _ _ _ (by simp [go_sem]) hg Try.underlying41 rfl (by kernel_rfl)) rfl ⟨by rw [HE4.out], (HB5.out.setCell (by show w.heap.size ≤ w.heap.size + 1; omega) _).setCell (by show w.heap.size ≤ w.heap.size + 1; omega) _⟩

theorem refShl_any (n : Nat) (a c : Int) (hn : n < B * B) (w : World) : Calls Try.prog 37 #[numV n, .int .i64 a, .int .i64 c] w (RetNum w (n * 2 ^ sh a % (B * B) % 2 ^ sh c)) := by
  by_cases ha : a < 0
  · have e : sh a = 0 := by unfold sh; omega
    rw [e, Nat.pow_zero, Nat.mul_one, Nat.mod_eq_of_lt hn]
    exact refShl_neg n a ha c hn w
  · obtain ⟨K, rfl⟩ : ∃ K : Nat, a = (K : Int) := ⟨a.toNat, by omega⟩
    have e : sh (K : Int) = min K 128 := by unfold sh; omega
    rw [e, BB_pow2]
    exact refShl_nat n K c hn w

end Go.Proofs.Ytlnkflmnjkmhkaa

/-
  Contract of quillonref01.Cat.
-/
namespace Go.Proofs.Ytlnkflmnjkmhkaa
open Go.RowKit

/-- Two numbers put together: the second one has the lowest c bits. -/
def catN (a b : Nat) (c : Int) : Nat := a * 2 ^ sh c % (B * B) % 2 ^ sh 128 ||| b % 2 ^ sh c

theorem catX_lt (a : Nat) (c : Int) : a * 2 ^ sh c % (B * B) % 2 ^ sh 128 < B * B :=
  Nat.lt_of_le_of_lt (Nat.mod_le _ _) (Nat.mod_lt _ (by rw [BB_pow2]; exact Nat.two_pow_pos _))
theorem catY_lt (b : Nat) (c : Int) (hb : b < B * B) : b % 2 ^ sh c < B * B := Nat.lt_of_le_of_lt (Nat.mod_le _ _) hb
theorem catN_lt (a b : Nat) (c : Int) (hb : b < B * B) : catN a b c < B * B := by
  have h1 := catX_lt a c
  have h2 := catY_lt b c hb
  rw [BB_pow2] at *
  exact Nat.or_lt_two_pow h1 h2

/-- A row that was stored into a new block. -/
theorem newRow {w : World} (f : Nat → Bool) : ((w.alloc (.cells Try.zeroCells120 120)).setRow w.heap.size (rowA f)).heap[w.heap.size]? = some (.cells (rowA f) 120 (0, 0)) ∧
    Below w.heap.size w ((w.alloc (.cells Try.zeroCells120 120)).setRow w.heap.size (rowA f)) :=
  ⟨setRow_heap _ _ _ _ _ _ (heap_new _ _), below_setRow ((Below.refl _ _).alloc (Nat.le_refl _) _) (Nat.le_refl _) _⟩

set_option maxRecDepth 100000 in
set_option maxHeartbeats 4000000 in
theorem refCat_any (a b : Nat) (c : Int) (ha : a < B * B) (hb : b < B * B) (w : World) :
    Calls Try.prog 36 #[numV a, numV b, .int .i64 c] w (RetNum w (catN a b c)) := by
  obtain ⟨fa, hfa⟩ : ∃ fa, fa = (a * 2 ^ sh c % (B * B) % 2 ^ sh 128).testBit := ⟨_, rfl⟩
  obtain ⟨fb, hfb⟩ : ∃ fb, fb = (b % 2 ^ sh c).testBit := ⟨_, rfl⟩
  have hshl : ∀ W, Calls Try.prog 37 #[numV a, .int .i64 c, .int .i64 128] W (RetNum W (a * 2 ^ sh c % (B * B) % 2 ^ sh 128)) := fun W => refShl_any a c 128 ha W
  have hcut : ∀ W, Calls Try.prog 31 #[numV b, .int .i64 c] W (RetNum W (b % 2 ^ sh c)) := fun W => refCut_any b c hb W
  have hA : ∀ W, Calls Try.prog 88 #[numV (a * 2 ^ sh c % (B * B) % 2 ^ sh 128)] W fun e w' => e = .returned (.agg (rowA fa)) ∧ Below W.heap.size W w' := fun W => by rw [hfa]; exact refBits_any _ (catX_lt a c) W
  have hB : ∀ W, Calls Try.prog 88 #[numV (b % 2 ^ sh c)] W fun e w' => e = .returned (.agg (rowA fb)) ∧ Below W.heap.size W w' := fun W => by rw [hfb]; exact refBits_any _ (catY_lt b c hb) W
  have HFA := Lib.hid hfa
  have HFB := Lib.hid hfb
  obtain ⟨h1, l1, e1, -, -⟩ := numV_parts a
  obtain ⟨h2, l2, e2, -, -⟩ := numV_parts b
  obtain ⟨h3, l3, e3, -, -⟩ := numV_parts (a * 2 ^ sh c % (B * B) % 2 ^ sh 128)
  obtain ⟨h4, l4, e4, -, -⟩ := numV_parts (b % 2 ^ sh c)
  unfold RetNum at hshl hcut
  rw [e1, e3] at hshl
  rw [e2, e4] at hcut
  rw [e3] at hA
  rw [e4] at hB
  rw [e1, e2]
  have HSHL := Lib.hid hshl
  have HCUT := Lib.hid hcut
  have HA := Lib.hid hA
  have HB := Lib.hid hB
  clear e1 e2 e3 e4 hfa hfb hshl hcut hA hB
  have HZS : Hid ((Try.zeroCells120).size = 128) := by
    show _ = _
    have hZ : Try.zeroCells120 = rowA fun _ => false := by kernel_rfl
    rw [hZ]; exact rowA_size _
  go_enter Try.func36, Try.ntmps36
  go_wp2_with fail
  obtain ⟨W0, hW0⟩ : ∃ W0, W0 = ((w.alloc (.cells #[.int .u64 (h1 : Int), .int .u64 (l1 : Int)] 41)).alloc (.cells #[.int .u64 (h2 : Int), .int .u64 (l2 : Int)] 41)).alloc (.cells #[.int .u64 0, .int .u64 0] 41) := ⟨_, rfl⟩
  have hbW : Below w.heap.size w W0 := by rw [hW0]; exact (by repeat (first | exact Below.refl _ _ | assumption | refine Below.drew ?_ | refine Below.alloc ?_ (by first | omega | (simp <;> omega)) _ | refine Below.setCell ?_ (by first | omega | (simp <;> omega)) _ | refine Below.trans ?_ (Below.mono (by assumption) (by first | omega | (simp <;> omega)))))
  have z1 : w.heap.size + 1 < W0.heap.size := by rw [hW0]; simp
  have z2 : w.heap.size + 1 + 1 < W0.heap.size := by rw [hW0]; simp
  have c2 : W0.cell? ⟨w.heap.size + 1, 0, none⟩ = some (.int .u64 (h2 : Int)) := by rw [hW0]; simp [go_sem]
  have c3 : W0.cell? ⟨w.heap.size + 1, 1, none⟩ = some (.int .u64 (l2 : Int)) := by rw [hW0]; simp [go_sem]
  have cr : W0.heap[w.heap.size + 1 + 1]? = some (.cells #[.int .u64 0, .int .u64 0] 41 (0, 0)) := by
    rw [hW0]
    have := heap_new ((w.alloc (.cells #[.int .u64 (h1 : Int), .int .u64 (l1 : Int)] 41)).alloc (.cells #[.int .u64 (h2 : Int), .int .u64 (l2 : Int)] 41)) (.cells #[.int .u64 0, .int .u64 0] 41)
    simp only [World.size_alloc] at this
    exact this
  rw [← hW0]
  have HBW0 := Lib.hid hbW
  clear hW0 hbW
  refine (HSHL.out _).mono ?_
  rintro e w1 ⟨rfl, hb1⟩
  have HB1 := Lib.hid hb1
  clear hb1
  go_wp2_with fail
  refine (HA.out _).mono ?_
  rintro e w2 ⟨rfl, hb2⟩
  have HB2 : Hid (Below W0.heap.size W0 w2) := HB1.out.trans (hb2.mono HB1.out.size)
  obtain ⟨n1, n2⟩ := newRow (w := w2) fa
  have HN1 := Lib.hid n1
  have HB3 : Hid (Below W0.heap.size W0 ((w2.alloc (.cells Try.zeroCells120 120)).setRow w2.heap.size (rowA fa))) := HB2.out.trans (n2.mono HB2.out.size)
  have HNW := Lib.hid (heap_new w2 (.cells Try.zeroCells120 120))
  have hs2 := HB2.out.size
  clear n1 n2 hb2 HB1
  have d2 : ((w2.alloc (.cells Try.zeroCells120 120)).setRow w2.heap.size (rowA fa)).cell? ⟨w.heap.size + 1, 0, none⟩ = some (.int .u64 (h2 : Int)) := (HB3.out.cell (p := ⟨w.heap.size + 1, 0, none⟩) z1).trans c2
  have d3 : ((w2.alloc (.cells Try.zeroCells120 120)).setRow w2.heap.size (rowA fa)).cell? ⟨w.heap.size + 1, 1, none⟩ = some (.int .u64 (l2 : Int)) := (HB3.out.cell (p := ⟨w.heap.size + 1, 1, none⟩) z1).trans c3
  clear c2 c3
  go_wp2_with (refine wpList_store_row rfl 120 (.tmp 7) (.tmp 13) rfl w2.heap.size (rowA fa) rfl rfl 120 _ HNW.out (by rw [rowA_size]; exact infoRow) (by rw [rowA_size]; exact HZS.out) (rowA_one _) ?_; clear HNW)
  generalize hW3 : (w2.alloc (.cells Try.zeroCells120 120)).setRow w2.heap.size (rowA fa) = W3 at *
  refine (HCUT.out _).mono ?_
  rintro e w4 ⟨rfl, hb4⟩
  have HB4 := Lib.hid hb4
  clear hb4 d2 d3 hW3
  go_wp2_with fail
  refine (HB.out _).mono ?_
  rintro e w5 ⟨rfl, hb5⟩
  have HB5 : Hid (Below W3.heap.size W3 w5) := HB4.out.trans (hb5.mono HB4.out.size)
  obtain ⟨n1, n2⟩ := newRow (w := w5) fb
  have HN2 := Lib.hid n1
  have HB6 : Hid (Below W3.heap.size W3 ((w5.alloc (.cells Try.zeroCells120 120)).setRow w5.heap.size (rowA fb))) := HB5.out.trans (n2.mono HB5.out.size)
  have HNW := Lib.hid (heap_new w5 (.cells Try.zeroCells120 120))
  have hs5 := HB5.out.size
  have hg3 : w2.heap.size < W3.heap.size := lt_of_block HN1.out
  have hs3 := HB3.out.size
  clear n1 n2 hb5 HB4
  go_wp2_with (refine wpList_store_row rfl 120 (.tmp 8) (.tmp 17) rfl w5.heap.size (rowA fb) rfl rfl 120 _ HNW.out (by rw [rowA_size]; exact infoRow) (by rw [rowA_size]; exact HZS.out) (rowA_one _) ?_; clear HNW)
  generalize hW6 : (w5.alloc (.cells Try.zeroCells120 120)).setRow w5.heap.size (rowA fb) = W6 at *
  have HBW6 : Hid (Below w.heap.size w W6) := (HBW0.out.trans (HB3.out.mono HBW0.out.size)).trans (HB6.out.mono (by have := HBW0.out.size; omega))
  have H0 : Hid (OpAt or fa fb w w2.heap.size w5.heap.size 0 W6) := ⟨by rw [HB6.out.block _ hg3, HN1.out]; congr 2, HN2.out, ⟨_, _, by rw [HB6.out.block _ (by omega), HB3.out.block _ z2]; exact cr⟩, HBW6.out⟩
  have HGN : Hid (w2.heap.size ≠ w5.heap.size) := by show _ ≠ _; omega
  have hgx0 : w.heap.size + 1 + 1 < w2.heap.size := by omega
  clear hW6 HB5 HB6 HB3 HB2 HBW0 HN1 HN2 cr z1 z2 hs2 hs3 hs5 hg3 HSHL HCUT HA HB HZS
  generalize w2.heap.size = gx at *
  generalize w5.heap.size = gy at *
  go_loopw [9] (fun i wr => ∃ k : Nat, k ≤ 128 ∧ i = .int .i64 k ∧ Hid (OpAt or fa fb w gx gy k wr)) (fun i _ => 128 - (intOf i).toNat)
  case atStart => exact ⟨0, Nat.zero_le _, rfl, H0⟩
  case round =>
    obtain ⟨k, hk, rfl, HK⟩ := hrel
    by_cases hlt : k < 128
    · obtain ⟨r1, r2, r3⟩ := HK.out.cells hlt
      cases hf1 : fa k <;> cases hf2 : fb k
      all_goals
        rw [hf1] at r1
        rw [hf2] at r2
        have HF1 := Lib.hid hf1
        have HF2 := Lib.hid hf2
        clear hf1 hf2
        go_wp2_with fail
        go_roundw
        case rel => exact ⟨k + 1, by omega, by go_num, HK.out.step hlt HGN.out (by omega) (by rw [HF1.out, HF2.out]; rfl)⟩
        case measure => simp [intOf]; omega
    · obtain rfl : k = 128 := by omega
      obtain ⟨r1, r2, ⟨x0, x1, r3⟩, r4⟩ := HK.out
      have e : (rowA fun i => if i < 128 then or (fa i) (fb i) else fa i) = rowA fun i => or (fa i) (fb i) := rowA_congr fun i hi => by rw [if_pos hi]
      rw [e] at r1
      have HE : Hid (ofBits (fun i => or (fa i) (fb i)) 128 = catN a b c) := by
        show _ = _
        rw [HFA.out, HFB.out]
        refine ofBits_eq (by rw [← BB_pow2]; exact catN_lt a b c hb) fun i _ => ?_
        unfold catN
        simp [Nat.testBit_or]
      have HNUM : Hid (∀ W, Calls Try.prog 89 #[.agg (rowA fun i => or (fa i) (fb i))] W (RetNum W (catN a b c))) := fun W => by rw [← HE.out]; exact refNum_any _ W
      have HB4 := Lib.hid r4
      have H3 := Lib.hid r3
      clear e r2 r3 r4 HE HK H0 HGN
      have hRR : (rowA fun i => or (fa i) (fb i)).size = 128 := rowA_size _
      generalize (rowA fun i => or (fa i) (fb i)) = RR at r1 HNUM hRR
      go_wp2_with (first
        | (refine wpList_load_row rfl 120 (.tmp 7) rfl gx rfl 120 RR (0, 0) _ r1 Try.underlying120 rfl (by rw [hRR]; exact infoRow) ?_))
      clear r1
      obtain ⟨h6, l6, e3, -, -⟩ := numV_parts (catN a b c)
      have HE3 := Lib.hid e3
      have HNUM2 : Hid (∀ W, Calls Try.prog 89 #[.agg RR] W fun e w' => e = .returned (.agg #[.int .u64 (h6 : Int), .int .u64 (l6 : Int)]) ∧ Below W.heap.size W w') := fun W => by rw [← HE3.out]; exact HNUM.out W
      clear HNUM e3
      refine (HNUM2.out _).mono ?_
      rintro e w1 ⟨rfl, hb1⟩
      have hr := (hb1.block (w.heap.size + 1 + 1) (lt_of_block H3.out)).trans H3.out
      have q0 : w1.cell? ⟨w.heap.size + 1 + 1, 0, none⟩ = some x0 := by simp [World.cell?, hr]
      have q1 : w1.cell? ⟨w.heap.size + 1 + 1, 1, none⟩ = some x1 := by simp [World.cell?, hr]
      have qz : ∀ j, w1.frozen? ⟨w.heap.size + 1 + 1, j, none⟩ = false := fun j => by simp [World.frozen?, hr]
      have HR := Lib.hid hr
      have HB1 : Hid (Below w.heap.size w w1) := HB4.out.trans (hb1.mono HB4.out.size)
      clear hr hb1
      go_wp2_with fail
      have hg := set_lo (.int .u64 (l6 : Int)) (set_hi (.int .u64 (h6 : Int)) HR.out)
      exact bodyPost_ret (v := .agg #[.int .u64 (h6 : Int), .int .u64 (l6 : Int)]) (results_cell_row Try.results36 _ _ (w.heap.size + 1 + 1) _ _ _ _ (by simp [go_sem]) hg Try.underlying41 rfl (by kernel_rfl)) rfl ⟨by rw [HE3.out], (HB1.out.setCell (by show w.heap.size ≤ w.heap.size + 1 + 1; omega) _).setCell (by show w.heap.size ≤ w.heap.size + 1 + 1; omega) _⟩

end Go.Proofs.Ytlnkflmnjkmhkaa
