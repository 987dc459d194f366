/-
  quillonref01.Mask; Fits, of the program and of the document.
-/
import Derived.Test.YtfalhemeiengcaaDoorBitsS
namespace Go.Proofs.YtfalhemeiengcaaDoor
open Go.RowKit

set_option maxRecDepth 100000 in
set_option maxHeartbeats 4000000 in
theorem refMask_any (c : Int) (w : World) :
    Calls Tryd.prog 22 #[.int .i64 c] w (RetNum w (2 ^ sh c - 1)) := by
  have hZ : Tryd.zeroCells56 = rowA fun _ => false := by kernel_rfl
  have hnew := heap_new (w.alloc (.cells #[.int .u64 0, .int .u64 0] 24)) (.cells Tryd.zeroCells56 56)
  rw [World.size_alloc] at hnew
  have hnum : ((w.alloc (.cells #[.int .u64 0, .int .u64 0] 24)).alloc (.cells Tryd.zeroCells56 56)).heap[w.heap.size]? = some (.cells #[.int .u64 0, .int .u64 0] 24 (0, 0)) := by
    rw [Below.heap_alloc _ _ _ (by simp), heap_new]
  obtain ⟨g, hg⟩ : ∃ g : Nat → Bool, g = fun (i : Nat) => decide ((i : Int) < c) := ⟨_, rfl⟩
  have HG : Hid (∀ i : Nat, g i = decide ((i : Int) < c)) := fun i => by rw [hg]
  have H0 : Hid (InAt g (fun _ => false) w (w.heap.size + 1) w.heap.size 0 ((w.alloc (.cells #[.int .u64 0, .int .u64 0] 24)).alloc (.cells Tryd.zeroCells56 56))) :=
    ⟨by rw [hnew, hZ]; congr 2, ⟨_, _, hnum⟩, ((Below.refl _ _).alloc (Nat.le_refl _) _).alloc (by simp) _⟩
  have HE : Hid (ofBits g 128 = 2 ^ sh c - 1) := by
    show _ = _
    have hs : sh c ≤ 128 := by unfold sh; omega
    refine ofBits_eq (Nat.lt_of_lt_of_le (Nat.sub_lt (Nat.two_pow_pos _) (by decide)) (Nat.pow_le_pow_right (by omega) hs)) fun i hi => ?_
    rw [HG.out, Nat.testBit_two_pow_sub_one, sh_bit c i hi]
  clear hZ hnew hnum hg
  go_enter Tryd.func22, Tryd.ntmps22
  go_wp2_with fail
  generalize (w.alloc (.cells #[.int .u64 0, .int .u64 0] 24)).alloc (.cells Tryd.zeroCells56 56) = W2 at *
  go_loopw [4] (fun i wr => ∃ k : Nat, k ≤ 128 ∧ i = .int .i64 k ∧ Hid (InAt g (fun _ => false) w (w.heap.size + 1) w.heap.size k wr)) (fun i _ => 128 - (intOf i).toNat)
  case atStart => exact ⟨0, Nat.zero_le _, rfl, H0⟩
  case round =>
    obtain ⟨k, hk, rfl, HK⟩ := hrel
    by_cases hlt : k < 128
    · obtain ⟨r1, r2⟩ := HK.out.cells hlt
      by_cases hc : (k : Int) < c
      all_goals
        have HGK : Hid (g k = decide ((k : Int) < c)) := HG.out k
        have HC := Lib.hid hc
        go_wp2_with fail
        go_roundw
        case rel => exact ⟨k + 1, by omega, by go_num, HK.out.step (by omega) (by omega) (by rw [HGK.out]; simp [HC.out])⟩
        case measure => simp [intOf]; omega
    · obtain rfl : k = 128 := by omega
      obtain ⟨r1, ⟨x0, x1, r3⟩, r4⟩ := HK.out.done
      have HNUM : Hid (∀ W, Calls Tryd.prog 54 #[.agg (rowA g)] W (RetNum W (2 ^ sh c - 1))) := fun W => by rw [← HE.out]; exact refNum_any _ W
      have HB4 := Lib.hid r4
      have H3 := Lib.hid r3
      clear r3 r4 HE HK H0 HG
      have hRR : (rowA g).size = 128 := rowA_size _
      generalize rowA g = RR at r1 HNUM hRR
      go_wp2_with (first
        | (refine wpList_load_row rfl 56 (.tmp 3) rfl (w.heap.size + 1) rfl 56 RR (0, 0) _ r1 Tryd.underlying56 rfl (by rw [hRR]; exact infoRow) ?_))
      clear r1
      obtain ⟨h3, l3, e3, -, -⟩ := numV_parts (2 ^ sh c - 1)
      have HE3 := Lib.hid e3
      have HNUM2 : Hid (∀ W, Calls Tryd.prog 54 #[.agg RR] W fun e w' => e = .returned (.agg #[.int .u64 (h3 : Int), .int .u64 (l3 : Int)]) ∧ Below W.heap.size W w') := fun W => by rw [← HE3.out]; exact HNUM.out W
      clear HNUM e3
      refine (HNUM2.out _).mono ?_
      rintro e w3 ⟨rfl, hb1⟩
      have hr := (hb1.block w.heap.size (lt_of_block H3.out)).trans H3.out
      have q0 : w3.cell? ⟨w.heap.size, 0, none⟩ = some x0 := by simp [World.cell?, hr]
      have q1 : w3.cell? ⟨w.heap.size, 1, none⟩ = some x1 := by simp [World.cell?, hr]
      have qz : ∀ j, w3.frozen? ⟨w.heap.size, j, none⟩ = false := fun j => by simp [World.frozen?, hr]
      have HR := Lib.hid hr
      have HB5 : Hid (Below w.heap.size w w3) := HB4.out.trans (hb1.mono HB4.out.size)
      clear hr hb1
      go_wp2_with fail
      have hg := set_lo (.int .u64 (l3 : Int)) (set_hi (.int .u64 (h3 : Int)) HR.out)
      exact bodyPost_ret (v := .agg #[.int .u64 (h3 : Int), .int .u64 (l3 : Int)]) (results_cell_row Tryd.results22 _ _ w.heap.size _ _ _ _ (by simp [go_sem]) hg Tryd.underlying24 rfl (by kernel_rfl)) rfl ⟨by rw [HE3.out], (HB5.out.setCell (by show w.heap.size ≤ w.heap.size; omega) _).setCell (by show w.heap.size ≤ w.heap.size; omega) _⟩

theorem eql_pair {a b c d : Nat} (W : World) : (Go.binOp .eql 24 (.agg #[.int .u64 (a : Int), .int .u64 (b : Int)]) (.agg #[.int .u64 (c : Int), .int .u64 (d : Int)])).run Tryd.prog W = .ok (.bool (decide (a = c) && decide (b = d))) W := by
  have e1 : decide (a = c) = decide ((a : Int) = c) := by simp only [decide_eq_decide]; omega
  have e2 : decide (b = d) = decide ((b : Int) = d) := by simp only [decide_eq_decide]; omega
  rw [e1, e2]
  by_cases h1 : (a : Int) = c <;> by_cases h2 : (b : Int) = d <;> simp [go_sem, h1, h2]

end Go.Proofs.YtfalhemeiengcaaDoor
