/-
  Contract of quillonref01.Cat.
-/
import Derived.Test.YtfalhemeiengcaaDoorRefShl
namespace Go.Proofs.YtfalhemeiengcaaDoor
open Go.RowKit

/-- Two numbers put together: the second one has the lowest c bits. -/
def catN (a b : Nat) (c : Int) : Nat := a * 2 ^ sh c % (B * B) % 2 ^ sh 128 ||| b % 2 ^ sh c

theorem catX_lt (a : Nat) (c : Int) : a * 2 ^ sh c % (B * B) % 2 ^ sh 128 < B * B :=
  Nat.lt_of_le_of_lt (Nat.mod_le _ _) (Nat.mod_lt _ (by rw [BB_pow2]; exact Nat.two_pow_pos _))
theorem catY_lt (b : Nat) (c : Int) (hb : b < B * B) : b % 2 ^ sh c < B * B := Nat.lt_of_le_of_lt (Nat.mod_le _ _) hb
theorem catN_lt (a b : Nat) (c : Int) (hb : b < B * B) : catN a b c < B * B := by
  have h1 := catX_lt a c
  have h2 := catY_lt b c hb
  rw [BB_pow2] at *
  exact Nat.or_lt_two_pow h1 h2

/-- A row that was stored into a new block. -/
theorem newRow {w : World} (f : Nat → Bool) : ((w.alloc (.cells Tryd.zeroCells56 56)).setRow w.heap.size (rowA f)).heap[w.heap.size]? = some (.cells (rowA f) 56 (0, 0)) ∧
    Below w.heap.size w ((w.alloc (.cells Tryd.zeroCells56 56)).setRow w.heap.size (rowA f)) :=
  ⟨setRow_heap _ _ _ _ _ _ (heap_new _ _), below_setRow ((Below.refl _ _).alloc (Nat.le_refl _) _) (Nat.le_refl _) _⟩

set_option maxRecDepth 100000 in
set_option maxHeartbeats 4000000 in
theorem refCat_any (a b : Nat) (c : Int) (ha : a < B * B) (hb : b < B * B) (w : World) :
    Calls Tryd.prog 42 #[numV a, numV b, .int .i64 c] w (RetNum w (catN a b c)) := by
  obtain ⟨fa, hfa⟩ : ∃ fa, fa = (a * 2 ^ sh c % (B * B) % 2 ^ sh 128).testBit := ⟨_, rfl⟩
  obtain ⟨fb, hfb⟩ : ∃ fb, fb = (b % 2 ^ sh c).testBit := ⟨_, rfl⟩
  have hshl : ∀ W, Calls Tryd.prog 36 #[numV a, .int .i64 c, .int .i64 128] W (RetNum W (a * 2 ^ sh c % (B * B) % 2 ^ sh 128)) := fun W => refShl_any a c 128 ha W
  have hcut : ∀ W, Calls Tryd.prog 23 #[numV b, .int .i64 c] W (RetNum W (b % 2 ^ sh c)) := fun W => refCut_any b c hb W
  have hA : ∀ W, Calls Tryd.prog 53 #[numV (a * 2 ^ sh c % (B * B) % 2 ^ sh 128)] W fun e w' => e = .returned (.agg (rowA fa)) ∧ Below W.heap.size W w' := fun W => by rw [hfa]; exact refBits_any _ (catX_lt a c) W
  have hB : ∀ W, Calls Tryd.prog 53 #[numV (b % 2 ^ sh c)] W fun e w' => e = .returned (.agg (rowA fb)) ∧ Below W.heap.size W w' := fun W => by rw [hfb]; exact refBits_any _ (catY_lt b c hb) W
  have HFA := Lib.hid hfa
  have HFB := Lib.hid hfb
  obtain ⟨h1, l1, e1, -, -⟩ := numV_parts a
  obtain ⟨h2, l2, e2, -, -⟩ := numV_parts b
  obtain ⟨h3, l3, e3, -, -⟩ := numV_parts (a * 2 ^ sh c % (B * B) % 2 ^ sh 128)
  obtain ⟨h4, l4, e4, -, -⟩ := numV_parts (b % 2 ^ sh c)
  unfold RetNum at hshl hcut
  rw [e1, e3] at hshl
  rw [e2, e4] at hcut
  rw [e3] at hA
  rw [e4] at hB
  rw [e1, e2]
  have HSHL := Lib.hid hshl
  have HCUT := Lib.hid hcut
  have HA := Lib.hid hA
  have HB := Lib.hid hB
  clear e1 e2 e3 e4 hfa hfb hshl hcut hA hB
  have HZS : Hid ((Tryd.zeroCells56).size = 128) := by
    show _ = _
    have hZ : Tryd.zeroCells56 = rowA fun _ => false := by kernel_rfl
    rw [hZ]; exact rowA_size _
  go_enter Tryd.func42, Tryd.ntmps42
  go_wp2_with fail
  obtain ⟨W0, hW0⟩ : ∃ W0, W0 = ((w.alloc (.cells #[.int .u64 (h1 : Int), .int .u64 (l1 : Int)] 24)).alloc (.cells #[.int .u64 (h2 : Int), .int .u64 (l2 : Int)] 24)).alloc (.cells #[.int .u64 0, .int .u64 0] 24) := ⟨_, rfl⟩
  have hbW : Below w.heap.size w W0 := by rw [hW0]; exact (by repeat (first | exact Below.refl _ _ | assumption | refine Below.drew ?_ | refine Below.alloc ?_ (by first | omega | (simp <;> omega)) _ | refine Below.setCell ?_ (by first | omega | (simp <;> omega)) _ | refine Below.trans ?_ (Below.mono (by assumption) (by first | omega | (simp <;> omega)))))
  have z1 : w.heap.size + 1 < W0.heap.size := by rw [hW0]; simp
  have z2 : w.heap.size + 1 + 1 < W0.heap.size := by rw [hW0]; simp
  have c2 : W0.cell? ⟨w.heap.size + 1, 0, none⟩ = some (.int .u64 (h2 : Int)) := by rw [hW0]; simp [go_sem]
  have c3 : W0.cell? ⟨w.heap.size + 1, 1, none⟩ = some (.int .u64 (l2 : Int)) := by rw [hW0]; simp [go_sem]
  have cr : W0.heap[w.heap.size + 1 + 1]? = some (.cells #[.int .u64 0, .int .u64 0] 24 (0, 0)) := by
    rw [hW0]
    have := heap_new ((w.alloc (.cells #[.int .u64 (h1 : Int), .int .u64 (l1 : Int)] 24)).alloc (.cells #[.int .u64 (h2 : Int), .int .u64 (l2 : Int)] 24)) (.cells #[.int .u64 0, .int .u64 0] 24)
    simp only [World.size_alloc] at this
    exact this
  rw [← hW0]
  have HBW0 := Lib.hid hbW
  clear hW0 hbW
  refine (HSHL.out _).mono ?_
  rintro e w1 ⟨rfl, hb1⟩
  have HB1 := Lib.hid hb1
  clear hb1
  go_wp2_with fail
  refine (HA.out _).mono ?_
  rintro e w2 ⟨rfl, hb2⟩
  have HB2 : Hid (Below W0.heap.size W0 w2) := HB1.out.trans (hb2.mono HB1.out.size)
  obtain ⟨n1, n2⟩ := newRow (w := w2) fa
  have HN1 := Lib.hid n1
  have HB3 : Hid (Below W0.heap.size W0 ((w2.alloc (.cells Tryd.zeroCells56 56)).setRow w2.heap.size (rowA fa))) := HB2.out.trans (n2.mono HB2.out.size)
  have HNW := Lib.hid (heap_new w2 (.cells Tryd.zeroCells56 56))
  have hs2 := HB2.out.size
  clear n1 n2 hb2 HB1
  have d2 : ((w2.alloc (.cells Tryd.zeroCells56 56)).setRow w2.heap.size (rowA fa)).cell? ⟨w.heap.size + 1, 0, none⟩ = some (.int .u64 (h2 : Int)) := (HB3.out.cell (p := ⟨w.heap.size + 1, 0, none⟩) z1).trans c2
  have d3 : ((w2.alloc (.cells Tryd.zeroCells56 56)).setRow w2.heap.size (rowA fa)).cell? ⟨w.heap.size + 1, 1, none⟩ = some (.int .u64 (l2 : Int)) := (HB3.out.cell (p := ⟨w.heap.size + 1, 1, none⟩) z1).trans c3
  clear c2 c3
  go_wp2_with (refine wpList_store_row rfl 56 (.tmp 7) (.tmp 13) rfl w2.heap.size (rowA fa) rfl rfl 56 _ HNW.out (by rw [rowA_size]; exact infoRow) (by rw [rowA_size]; exact HZS.out) (rowA_one _) ?_; clear HNW)
  generalize hW3 : (w2.alloc (.cells Tryd.zeroCells56 56)).setRow w2.heap.size (rowA fa) = W3 at *
  refine (HCUT.out _).mono ?_
  rintro e w4 ⟨rfl, hb4⟩
  have HB4 := Lib.hid hb4
  clear hb4 d2 d3 hW3
  go_wp2_with fail
  refine (HB.out _).mono ?_
  rintro e w5 ⟨rfl, hb5⟩
  have HB5 : Hid (Below W3.heap.size W3 w5) := HB4.out.trans (hb5.mono HB4.out.size)
  obtain ⟨n1, n2⟩ := newRow (w := w5) fb
  have HN2 := Lib.hid n1
  have HB6 : Hid (Below W3.heap.size W3 ((w5.alloc (.cells Tryd.zeroCells56 56)).setRow w5.heap.size (rowA fb))) := HB5.out.trans (n2.mono HB5.out.size)
  have HNW := Lib.hid (heap_new w5 (.cells Tryd.zeroCells56 56))
  have hs5 := HB5.out.size
  have hg3 : w2.heap.size < W3.heap.size := lt_of_block HN1.out
  have hs3 := HB3.out.size
  clear n1 n2 hb5 HB4
  go_wp2_with (refine wpList_store_row rfl 56 (.tmp 8) (.tmp 17) rfl w5.heap.size (rowA fb) rfl rfl 56 _ HNW.out (by rw [rowA_size]; exact infoRow) (by rw [rowA_size]; exact HZS.out) (rowA_one _) ?_; clear HNW)
  generalize hW6 : (w5.alloc (.cells Tryd.zeroCells56 56)).setRow w5.heap.size (rowA fb) = W6 at *
  have HBW6 : Hid (Below w.heap.size w W6) := (HBW0.out.trans (HB3.out.mono HBW0.out.size)).trans (HB6.out.mono (by have := HBW0.out.size; omega))
  have H0 : Hid (OpAt or fa fb w w2.heap.size w5.heap.size 0 W6) := ⟨by rw [HB6.out.block _ hg3, HN1.out]; congr 2, HN2.out, ⟨_, _, by rw [HB6.out.block _ (by omega), HB3.out.block _ z2]; exact cr⟩, HBW6.out⟩
  have HGN : Hid (w2.heap.size ≠ w5.heap.size) := by show _ ≠ _; omega
  have hgx0 : w.heap.size + 1 + 1 < w2.heap.size := by omega
  clear hW6 HB5 HB6 HB3 HB2 HBW0 HN1 HN2 cr z1 z2 hs2 hs3 hs5 hg3 HSHL HCUT HA HB HZS
  generalize w2.heap.size = gx at *
  generalize w5.heap.size = gy at *
  go_loopw [9] (fun i wr => ∃ k : Nat, k ≤ 128 ∧ i = .int .i64 k ∧ Hid (OpAt or fa fb w gx gy k wr)) (fun i _ => 128 - (intOf i).toNat)
  case atStart => exact ⟨0, Nat.zero_le _, rfl, H0⟩
  case round =>
    obtain ⟨k, hk, rfl, HK⟩ := hrel
    by_cases hlt : k < 128
    · obtain ⟨r1, r2, r3⟩ := HK.out.cells hlt
      cases hf1 : fa k <;> cases hf2 : fb k
      all_goals
        rw [hf1] at r1
        rw [hf2] at r2
        have HF1 := Lib.hid hf1
        have HF2 := Lib.hid hf2
        clear hf1 hf2
        go_wp2_with fail
        go_roundw
        case rel => exact ⟨k + 1, by omega, by go_num, HK.out.step hlt HGN.out (by omega) (by rw [HF1.out, HF2.out]; rfl)⟩
        case measure => simp [intOf]; omega
    · obtain rfl : k = 128 := by omega
      obtain ⟨r1, r2, ⟨x0, x1, r3⟩, r4⟩ := HK.out
      have e : (rowA fun i => if i < 128 then or (fa i) (fb i) else fa i) = rowA fun i => or (fa i) (fb i) := rowA_congr fun i hi => by rw [if_pos hi]
      rw [e] at r1
      have HE : Hid (ofBits (fun i => or (fa i) (fb i)) 128 = catN a b c) := by
        show _ = _
        rw [HFA.out, HFB.out]
        refine ofBits_eq (by rw [← BB_pow2]; exact catN_lt a b c hb) fun i _ => ?_
        unfold catN
        simp [Nat.testBit_or]
      have HNUM : Hid (∀ W, Calls Tryd.prog 54 #[.agg (rowA fun i => or (fa i) (fb i))] W (RetNum W (catN a b c))) := fun W => by rw [← HE.out]; exact refNum_any _ W
      have HB4 := Lib.hid r4
      have H3 := Lib.hid r3
      clear e r2 r3 r4 HE HK H0 HGN
      have hRR : (rowA fun i => or (fa i) (fb i)).size = 128 := rowA_size _
      generalize (rowA fun i => or (fa i) (fb i)) = RR at r1 HNUM hRR
      go_wp2_with (first
        | (refine wpList_load_row rfl 56 (.tmp 7) rfl gx rfl 56 RR (0, 0) _ r1 Tryd.underlying56 rfl (by rw [hRR]; exact infoRow) ?_))
      clear r1
      obtain ⟨h6, l6, e3, -, -⟩ := numV_parts (catN a b c)
      have HE3 := Lib.hid e3
      have HNUM2 : Hid (∀ W, Calls Tryd.prog 54 #[.agg RR] W fun e w' => e = .returned (.agg #[.int .u64 (h6 : Int), .int .u64 (l6 : Int)]) ∧ Below W.heap.size W w') := fun W => by rw [← HE3.out]; exact HNUM.out W
      clear HNUM e3
      refine (HNUM2.out _).mono ?_
      rintro e w1 ⟨rfl, hb1⟩
      have hr := (hb1.block (w.heap.size + 1 + 1) (lt_of_block H3.out)).trans H3.out
      have q0 : w1.cell? ⟨w.heap.size + 1 + 1, 0, none⟩ = some x0 := by simp [World.cell?, hr]
      have q1 : w1.cell? ⟨w.heap.size + 1 + 1, 1, none⟩ = some x1 := by simp [World.cell?, hr]
      have qz : ∀ j, w1.frozen? ⟨w.heap.size + 1 + 1, j, none⟩ = false := fun j => by simp [World.frozen?, hr]
      have HR := Lib.hid hr
      have HB1 : Hid (Below w.heap.size w w1) := HB4.out.trans (hb1.mono HB4.out.size)
      clear hr hb1
      go_wp2_with fail
      have hg := set_lo (.int .u64 (l6 : Int)) (set_hi (.int .u64 (h6 : Int)) HR.out)
      exact bodyPost_ret (v := .agg #[.int .u64 (h6 : Int), .int .u64 (l6 : Int)]) (results_cell_row Tryd.results42 _ _ (w.heap.size + 1 + 1) _ _ _ _ (by simp [go_sem]) hg Tryd.underlying24 rfl (by kernel_rfl)) rfl ⟨by rw [HE3.out], (HB1.out.setCell (by show w.heap.size ≤ w.heap.size + 1 + 1; omega) _).setCell (by show w.heap.size ≤ w.heap.size + 1 + 1; omega) _⟩

end Go.Proofs.YtfalhemeiengcaaDoor
