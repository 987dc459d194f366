/-
  Contract of quillonref01.Not.
-/
import Derived.Test.YtfalhemeiengcaaDoorRefCut
namespace Go.Proofs.YtfalhemeiengcaaDoor
open Go.RowKit

set_option maxRecDepth 100000 in
set_option maxHeartbeats 4000000 in
theorem refNot_any (n : Nat) (c : Int) (hn : n < B * B) (w : World) :
    Calls Tryd.prog 32 #[numV n, .int .i64 c] w (RetNum w ((n % 2 ^ sh c) ^^^ (2 ^ sh c - 1))) := by
  obtain ⟨f, hf⟩ : ∃ f, f = n.testBit := ⟨_, rfl⟩
  have HA : Hid (∀ W, Calls Tryd.prog 53 #[numV n] W fun e w' => e = .returned (.agg (rowA f)) ∧ Below W.heap.size W w') := fun W => by rw [hf]; exact refBits_any n hn W
  have HF := Lib.hid hf
  obtain ⟨h1, l1, e1, -, -⟩ := numV_parts n
  rw [e1] at HA ⊢
  clear e1 hf
  go_enter Tryd.func32, Tryd.ntmps32
  go_wp2_with fail
  refine (HA.out _).mono ?_
  rintro e w1 ⟨rfl, hb1⟩
  obtain ⟨W0, hW0⟩ : ∃ W0, W0 = (w.alloc (.cells #[.int .u64 (h1 : Int), .int .u64 (l1 : Int)] 24)).alloc (.cells #[.int .u64 0, .int .u64 0] 24) := ⟨_, rfl⟩
  have hbW : Below w.heap.size w W0 := by rw [hW0]; exact (by repeat (first | exact Below.refl _ _ | assumption | refine Below.drew ?_ | refine Below.alloc ?_ (by first | omega | (simp <;> omega)) _ | refine Below.setCell ?_ (by first | omega | (simp <;> omega)) _ | refine Below.trans ?_ (Below.mono (by assumption) (by first | omega | (simp <;> omega)))))
  have z1 : w.heap.size + 1 < W0.heap.size := by rw [hW0]; simp
  have cr : W0.heap[w.heap.size + 1]? = some (.cells #[.int .u64 0, .int .u64 0] 24 (0, 0)) := by
    rw [hW0]
    have := heap_new (w.alloc (.cells #[.int .u64 (h1 : Int), .int .u64 (l1 : Int)] 24)) (.cells #[.int .u64 0, .int .u64 0] 24)
    simp only [World.size_alloc] at this
    exact this
  rw [← hW0] at hb1
  have hs1 := hb1.size
  have cr1 := (hb1.block _ z1).trans cr
  have HB1 : Hid (Below w.heap.size w w1) := hbW.trans (hb1.mono hbW.size)
  clear hb1 hW0 hbW cr
  have hZ : Tryd.zeroCells56 = rowA fun _ => false := by kernel_rfl
  have hnew := heap_new w1 (.cells Tryd.zeroCells56 56)
  have HZS : Hid ((Tryd.zeroCells56).size = 128) := by show _ = _; rw [hZ]; exact rowA_size _
  have hset := setRow_heap _ _ _ (rowA f) _ _ hnew
  have HNW := Lib.hid hnew
  have HST := Lib.hid hset
  clear hZ hnew hset
  go_wp2_with (refine wpList_store_row rfl 56 (.tmp 5) (.tmp 8) rfl w1.heap.size (rowA f) rfl rfl 56 _ HNW.out (by rw [rowA_size]; exact infoRow) (by rw [rowA_size]; exact HZS.out) (rowA_one _) ?_)
  obtain ⟨g, hg⟩ : ∃ g : Nat → Bool, g = fun i => !f i && decide ((i : Int) < c) := ⟨_, rfl⟩
  have HG : Hid (∀ i, g i = (!f i && decide ((i : Int) < c))) := fun i => by rw [hg]
  have H0 : Hid (InAt g f w w1.heap.size (w.heap.size + 1) 0 ((w1.alloc (.cells Tryd.zeroCells56 56)).setRow w1.heap.size (rowA f))) :=
    ⟨by rw [HST.out]; congr 2, ⟨_, _, by rw [setRow_other _ _ _ _ (by omega), Below.heap_alloc _ _ _ (by omega)]; exact cr1⟩, below_setRow (HB1.out.alloc (by omega) _) (by omega) _⟩
  have HE : Hid (ofBits g 128 = ((n % 2 ^ sh c) ^^^ (2 ^ sh c - 1))) := by
    show _ = _
    have hp : 2 ^ sh c ≤ 2 ^ 128 := Nat.pow_le_pow_right (by omega) (sh_le c)
    have hpp : 0 < 2 ^ sh c := Nat.two_pow_pos _
    have hm : n % 2 ^ sh c < 2 ^ sh c := Nat.mod_lt _ hpp
    refine ofBits_eq (Nat.xor_lt_two_pow (by omega) (by omega)) fun i hi => ?_
    rw [HG.out, HF.out, Nat.testBit_xor, Nat.testBit_mod_two_pow, Nat.testBit_two_pow_sub_one, ← sh_bit c i hi]
    cases n.testBit i <;> cases decide (i < sh c) <;> rfl
  clear hg HST HNW HZS HB1 cr1 HA
  generalize (w1.alloc (.cells Tryd.zeroCells56 56)).setRow w1.heap.size (rowA f) = W2 at *
  go_loopw [6] (fun i wr => ∃ k : Nat, k ≤ 128 ∧ i = .int .i64 k ∧ Hid (InAt g f w w1.heap.size (w.heap.size + 1) k wr)) (fun i _ => 128 - (intOf i).toNat)
  case atStart => exact ⟨0, Nat.zero_le _, rfl, H0⟩
  case round =>
    obtain ⟨k, hk, rfl, HK⟩ := hrel
    by_cases hlt : k < 128
    · obtain ⟨r1, r2⟩ := HK.out.cells hlt
      by_cases hc : (k : Int) < c <;> cases hf1 : f k
      all_goals
        rw [hf1] at r1
        have HGK : Hid (g k = (!f k && decide ((k : Int) < c))) := HG.out k
        have HF1 := Lib.hid hf1
        have HC := Lib.hid hc
        clear hf1
        go_wp2_with fail
        go_roundw
        case rel => exact ⟨k + 1, by omega, by go_num, HK.out.step (by omega) (by omega) (by rw [HGK.out, HF1.out]; simp [HC.out])⟩
        case measure => simp [intOf]; omega
    · obtain rfl : k = 128 := by omega
      obtain ⟨r1, ⟨x0, x1, r3⟩, r4⟩ := HK.out.done
      have HNUM : Hid (∀ W, Calls Tryd.prog 54 #[.agg (rowA g)] W (RetNum W ((n % 2 ^ sh c) ^^^ (2 ^ sh c - 1)))) := fun W => by rw [← HE.out]; exact refNum_any _ W
      have HB4 := Lib.hid r4
      have H3 := Lib.hid r3
      clear r3 r4 HE HK H0 HG
      have hRR : (rowA g).size = 128 := rowA_size _
      generalize rowA g = RR at r1 HNUM hRR
      go_wp2_with (first
        | (refine wpList_load_row rfl 56 (.tmp 5) rfl w1.heap.size rfl 56 RR (0, 0) _ r1 Tryd.underlying56 rfl (by rw [hRR]; exact infoRow) ?_))
      clear r1
      obtain ⟨h3, l3, e3, -, -⟩ := numV_parts ((n % 2 ^ sh c) ^^^ (2 ^ sh c - 1))
      have HE3 := Lib.hid e3
      have HNUM2 : Hid (∀ W, Calls Tryd.prog 54 #[.agg RR] W fun e w' => e = .returned (.agg #[.int .u64 (h3 : Int), .int .u64 (l3 : Int)]) ∧ Below W.heap.size W w') := fun W => by rw [← HE3.out]; exact HNUM.out W
      clear HNUM e3
      refine (HNUM2.out _).mono ?_
      rintro e w3 ⟨rfl, hb1⟩
      have hr := (hb1.block (w.heap.size + 1) (lt_of_block H3.out)).trans H3.out
      have q0 : w3.cell? ⟨w.heap.size + 1, 0, none⟩ = some x0 := by simp [World.cell?, hr]
      have q1 : w3.cell? ⟨w.heap.size + 1, 1, none⟩ = some x1 := by simp [World.cell?, hr]
      have qz : ∀ j, w3.frozen? ⟨w.heap.size + 1, j, none⟩ = false := fun j => by simp [World.frozen?, hr]
      have HR := Lib.hid hr
      have HB5 : Hid (Below w.heap.size w w3) := HB4.out.trans (hb1.mono HB4.out.size)
      clear hr hb1
      go_wp2_with fail
      have hg := set_lo (.int .u64 (l3 : Int)) (set_hi (.int .u64 (h3 : Int)) HR.out)
      exact bodyPost_ret (v := .agg #[.int .u64 (h3 : Int), .int .u64 (l3 : Int)]) (results_cell_row Tryd.results32 _ _ (w.heap.size + 1) _ _ _ _ (by simp [go_sem]) hg Tryd.underlying24 rfl (by kernel_rfl)) rfl ⟨by rw [HE3.out], (HB5.out.setCell (by show w.heap.size ≤ w.heap.size + 1; omega) _).setCell (by show w.heap.size ≤ w.heap.size + 1; omega) _⟩

end Go.Proofs.YtfalhemeiengcaaDoor
