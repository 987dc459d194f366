/-
  Lemmas, joined: RefCut, RefAdd, RefNot, In2.
-/
import Derived.Test.YtlnkflmnjkmhkaaJO02
import Derived.Outline
import Derived.BigQuiet
import Derived.Deep.QuietTactic
/-
  Contracts of quillonref01.Cut and Not.
-/
namespace Go.Proofs.Ytlnkflmnjkmhkaa
open Go.RowKit

/-- What holds at a round's head of a loop that turns a row, bit by bit. -/
def InAt (g f : Nat → Bool) (w : World) (gx N k : Nat) (wr : World) : Prop :=
  wr.heap[gx]? = some (.cells (rowA fun i => if i < k then g i else f i) 120 (0, 0)) ∧
  (∃ c0 c1, wr.heap[N]? = some (.cells #[c0, c1] 41 (0, 0))) ∧ Below w.heap.size w wr

theorem InAt.cells {g f : Nat → Bool} {w wr : World} {gx N k : Nat} (h : InAt g f w gx N k wr) (hk : k < 128) :
    wr.cell? ⟨gx, k, none⟩ = some (.bool (f k)) ∧ wr.frozen? ⟨gx, k, none⟩ = false := by
  obtain ⟨h1, h2, h3⟩ := h
  refine ⟨?_, ?_⟩
  · rw [cell_of_row wr _ k _ _ _ h1, rowA_at _ k hk]
    simp
  · simp [World.frozen?, h1]

theorem InAt.step {g f : Nat → Bool} {w wr : World} {gx N k : Nat} {c : Bool} (h : InAt g f w gx N k wr) (hn : N ≠ gx) (hx : w.heap.size ≤ gx) (hc : g k = c) :
    Hid (InAt g f w gx N (k + 1) (wr.setCell ⟨gx, k, none⟩ (.bool c))) := by
  obtain ⟨h1, ⟨c0, c1, h2⟩, h3⟩ := h
  refine ⟨?_, ⟨c0, c1, ?_⟩, h3.setCell (by show w.heap.size ≤ gx; omega) _⟩
  · rw [setCell_row _ h1]
    congr 2
    apply rowA_congr
    intro i _
    simp only [put]
    by_cases e : i = k
    · subst e
      rw [if_pos rfl, if_pos (by omega), hc]
    · rw [if_neg e]
      by_cases e2 : i < k
      · rw [if_pos e2, if_pos (by omega)]
      · rw [if_neg e2, if_neg (by omega)]
  · rw [setCell_heap hn]
    exact h2

theorem InAt.done {g f : Nat → Bool} {w wr : World} {gx N : Nat} (h : InAt g f w gx N 128 wr) :
    wr.heap[gx]? = some (.cells (rowA g) 120 (0, 0)) ∧ (∃ c0 c1, wr.heap[N]? = some (.cells #[c0, c1] 41 (0, 0))) ∧ Below w.heap.size w wr := by
  obtain ⟨h1, h2, h3⟩ := h
  refine ⟨?_, h2, h3⟩
  rw [h1]
  congr 2
  exact rowA_congr fun i hi => by rw [if_pos hi]

theorem sh_bit (k : Int) (i : Nat) (hi : i < 128) : decide (i < sh k) = decide ((i : Int) < k) := by
  unfold sh
  simp only [decide_eq_decide]
  omega

set_option maxRecDepth 100000 in
set_option maxHeartbeats 4000000 in
theorem refCut_any (n : Nat) (c : Int) (hn : n < B * B) (w : World) :
    Calls Try.prog 31 #[numV n, .int .i64 c] w (RetNum w (n % 2 ^ sh c)) := by
  obtain ⟨f, hf⟩ : ∃ f, f = n.testBit := ⟨_, rfl⟩
  have HA : Hid (∀ W, Calls Try.prog 88 #[numV n] W fun e w' => e = .returned (.agg (rowA f)) ∧ Below W.heap.size W w') := fun W => by rw [hf]; exact refBits_any n hn W
  have HF := Lib.hid hf
  obtain ⟨h1, l1, e1, -, -⟩ := numV_parts n
  rw [e1] at HA ⊢
  clear e1 hf
  go_enter Try.func31, Try.ntmps31
  go_wp2_with fail
  refine (HA.out _).mono ?_
  rintro e w1 ⟨rfl, hb1⟩
  obtain ⟨W0, hW0⟩ : ∃ W0, W0 = (w.alloc (.cells #[.int .u64 (h1 : Int), .int .u64 (l1 : Int)] 41)).alloc (.cells #[.int .u64 0, .int .u64 0] 41) := ⟨_, rfl⟩
  have hbW : Below w.heap.size w W0 := by rw [hW0]; exact (by repeat (first | exact Below.refl _ _ | assumption | refine Below.drew ?_ | refine Below.alloc ?_ (by first | omega | (simp <;> omega)) _ | refine Below.setCell ?_ (by first | omega | (simp <;> omega)) _ | refine Below.trans ?_ (Below.mono (by assumption) (by first | omega | (simp <;> omega)))))
  have z1 : w.heap.size + 1 < W0.heap.size := by rw [hW0]; simp
  have cr : W0.heap[w.heap.size + 1]? = some (.cells #[.int .u64 0, .int .u64 0] 41 (0, 0)) := by
    rw [hW0]
    have := heap_new (w.alloc (.cells #[.int .u64 (h1 : Int), .int .u64 (l1 : Int)] 41)) (.cells #[.int .u64 0, .int .u64 0] 41)
    simp only [World.size_alloc] at this
    exact this
  rw [← hW0] at hb1
  have hs1 := hb1.size
  have cr1 := (hb1.block _ z1).trans cr
  have HB1 : Hid (Below w.heap.size w w1) := hbW.trans (hb1.mono hbW.size)
  clear hb1 hW0 hbW cr
  have hZ : Try.zeroCells120 = rowA fun _ => false := by kernel_rfl
  have hnew := heap_new w1 (.cells Try.zeroCells120 120)
  have HZS : Hid ((Try.zeroCells120).size = 128) := by show _ = _; rw [hZ]; exact rowA_size _
  have hset := setRow_heap _ _ _ (rowA f) _ _ hnew
  have HNW := Lib.hid hnew
  have HST := Lib.hid hset
  clear hZ hnew hset
  go_wp2_with (refine wpList_store_row rfl 120 (.tmp 5) (.tmp 8) rfl w1.heap.size (rowA f) rfl rfl 120 _ HNW.out (by rw [rowA_size]; exact infoRow) (by rw [rowA_size]; exact HZS.out) (rowA_one _) ?_)
  obtain ⟨g, hg⟩ : ∃ g : Nat → Bool, g = fun i => f i && decide ((i : Int) < c) := ⟨_, rfl⟩
  have HG : Hid (∀ i, g i = (f i && decide ((i : Int) < c))) := fun i => by rw [hg]
  have H0 : Hid (InAt g f w w1.heap.size (w.heap.size + 1) 0 ((w1.alloc (.cells Try.zeroCells120 120)).setRow w1.heap.size (rowA f))) :=
    ⟨by rw [HST.out]; congr 2, ⟨_, _, by rw [setRow_other _ _ _ _ (by omega), Below.heap_alloc _ _ _ (by omega)]; exact cr1⟩, below_setRow (HB1.out.alloc (by omega) _) (by omega) _⟩
  have HE : Hid (ofBits g 128 = n % 2 ^ sh c) := by
    show _ = _
    refine ofBits_eq (by rw [← BB_pow2]; exact Nat.lt_of_le_of_lt (Nat.mod_le _ _) hn) fun i hi => ?_
    rw [HG.out, HF.out, Nat.testBit_mod_two_pow, sh_bit c i hi, Bool.and_comm]
  clear hg HST HNW HZS HB1 cr1 HA
  generalize (w1.alloc (.cells Try.zeroCells120 120)).setRow w1.heap.size (rowA f) = W2 at *
  go_loopw [6] (fun i wr => ∃ k : Nat, k ≤ 128 ∧ i = .int .i64 k ∧ Hid (InAt g f w w1.heap.size (w.heap.size + 1) k wr)) (fun i _ => 128 - (intOf i).toNat)
  case atStart => exact ⟨0, Nat.zero_le _, rfl, H0⟩
  case round =>
    obtain ⟨k, hk, rfl, HK⟩ := hrel
    by_cases hlt : k < 128
    · obtain ⟨r1, r2⟩ := HK.out.cells hlt
      by_cases hc : (k : Int) < c <;> cases hf1 : f k
      all_goals
        rw [hf1] at r1
        have HGK : Hid (g k = (f k && decide ((k : Int) < c))) := HG.out k
        have HF1 := Lib.hid hf1
        have HC := Lib.hid hc
        clear hf1
        go_wp2_with fail
        go_roundw
        case rel => exact ⟨k + 1, by omega, by go_num, HK.out.step (by omega) (by omega) (by rw [HGK.out, HF1.out]; simp [HC.out])⟩
        case measure => simp [intOf]; omega
    · obtain rfl : k = 128 := by omega
      obtain ⟨r1, ⟨x0, x1, r3⟩, r4⟩ := HK.out.done
      have HNUM : Hid (∀ W, Calls Try.prog 89 #[.agg (rowA g)] W (RetNum W (n % 2 ^ sh c))) := fun W => by rw [← HE.out]; exact refNum_any _ W
      have HB4 := Lib.hid r4
      have H3 := Lib.hid r3
      clear r3 r4 HE HK H0 HG
      have hRR : (rowA g).size = 128 := rowA_size _
      generalize rowA g = RR at r1 HNUM hRR
      go_wp2_with (first
        | (refine wpList_load_row rfl 120 (.tmp 5) rfl w1.heap.size rfl 120 RR (0, 0) _ r1 Try.underlying120 rfl (by rw [hRR]; exact infoRow) ?_))
      clear r1
      obtain ⟨h3, l3, e3, -, -⟩ := numV_parts (n % 2 ^ sh c)
      have HE3 := Lib.hid e3
      have HNUM2 : Hid (∀ W, Calls Try.prog 89 #[.agg RR] W fun e w' => e = .returned (.agg #[.int .u64 (h3 : Int), .int .u64 (l3 : Int)]) ∧ Below W.heap.size W w') := fun W => by rw [← HE3.out]; exact HNUM.out W
      clear HNUM e3
      refine (HNUM2.out _).mono ?_
      rintro e w3 ⟨rfl, hb1⟩
      have hr := (hb1.block (w.heap.size + 1) (lt_of_block H3.out)).trans H3.out
      have q0 : w3.cell? ⟨w.heap.size + 1, 0, none⟩ = some x0 := by simp [World.cell?, hr]
      have q1 : w3.cell? ⟨w.heap.size + 1, 1, none⟩ = some x1 := by simp [World.cell?, hr]
      have qz : ∀ j, w3.frozen? ⟨w.heap.size + 1, j, none⟩ = false := fun j => by simp [World.frozen?, hr]
      have HR := Lib.hid hr
      have HB5 : Hid (Below w.heap.size w w3) := HB4.out.trans (hb1.mono HB4.out.size)
      clear hr hb1
      go_wp2_with fail
      have hg := set_lo (.int .u64 (l3 : Int)) (set_hi (.int .u64 (h3 : Int)) HR.out)
      exact bodyPost_ret (v := .agg #[.int .u64 (h3 : Int), .int .u64 (l3 : Int)]) (results_cell_row Try.results31 _ _ (w.heap.size + 1) _ _ _ _ (by simp [go_sem]) hg Try.underlying41 rfl (by kernel_rfl)) rfl ⟨by rw [HE3.out], (HB5.out.setCell (by show w.heap.size ≤ w.heap.size + 1; omega) _).setCell (by show w.heap.size ≤ w.heap.size + 1; omega) _⟩

end Go.Proofs.Ytlnkflmnjkmhkaa

/-
  Contract of quillonref01.Add: bit by bit.
-/
namespace Go.Proofs.Ytlnkflmnjkmhkaa
open Go.RowKit

/-- What is carried into a bit. -/
def carryB (fa fb : Nat → Bool) : Nat → Bool
  | 0 => false
  | k + 1 => fa k && fb k || fa k && carryB fa fb k || fb k && carryB fa fb k
def sumB (fa fb : Nat → Bool) (k : Nat) : Bool := (fa k != fb k) != carryB fa fb k
theorem sum_bits (fa fb : Nat → Bool) : ∀ k, ofBits fa k + ofBits fb k = ofBits (sumB fa fb) k + (if carryB fa fb k then 2 ^ k else 0)
  | 0 => by simp [ofBits, carryB]
  | k + 1 => by
    have ih := sum_bits fa fb k
    rw [ofBits, ofBits, ofBits, Nat.pow_succ]
    have e : sumB fa fb k = ((fa k != fb k) != carryB fa fb k) := rfl
    have e2 : carryB fa fb (k + 1) = (fa k && fb k || fa k && carryB fa fb k || fb k && carryB fa fb k) := rfl
    rw [e, e2]
    cases h1 : fa k <;> cases h2 : fb k <;> cases h3 : carryB fa fb k <;> simp [h3] at ih ⊢ <;> omega
theorem sum_num {a b : Nat} (ha : a < 2 ^ 128) (hb : b < 2 ^ 128) : ofBits (sumB a.testBit b.testBit) 128 = (a + b) % 2 ^ 128 := by
  have h := sum_bits a.testBit b.testBit 128
  rw [ofBits_eq ha fun _ _ => rfl, ofBits_eq hb fun _ _ => rfl] at h
  have l := ofBits_lt (sumB a.testBit b.testBit) 128
  rw [h]
  split
  · rw [Nat.add_mod_right, Nat.mod_eq_of_lt l]
  · rw [Nat.add_zero, Nat.mod_eq_of_lt l]

/-- What holds at a round's head of a loop that turns a row by another one, g of each bit. -/
def OpG (g fa fb : Nat → Bool) (w : World) (gx gy k : Nat) (wr : World) : Prop :=
  wr.heap[gx]? = some (.cells (rowA fun i => if i < k then g i else fa i) 120 (0, 0)) ∧ wr.heap[gy]? = some (.cells (rowA fb) 120 (0, 0)) ∧
  (∃ c0 c1, wr.heap[w.heap.size + 1 + 1]? = some (.cells #[c0, c1] 41 (0, 0))) ∧ Below w.heap.size w wr
theorem OpG.cells {g fa fb : Nat → Bool} {w wr : World} {gx gy k : Nat} (h : OpG g fa fb w gx gy k wr) (hk : k < 128) :
    wr.cell? ⟨gx, k, none⟩ = some (.bool (fa k)) ∧ wr.cell? ⟨gy, k, none⟩ = some (.bool (fb k)) ∧ wr.frozen? ⟨gx, k, none⟩ = false := by
  obtain ⟨h1, h2, h3, h4⟩ := h
  refine ⟨?_, ?_, ?_⟩
  · rw [cell_of_row wr _ k _ _ _ h1, rowA_at _ k hk]
    simp
  · rw [cell_of_row wr _ k _ _ _ h2, rowA_at _ k hk]
  · simp [World.frozen?, h1]
theorem OpG.step {g fa fb : Nat → Bool} {w wr w1 : World} {gx gy k : Nat} {c : Bool} (h : OpG g fa fb w gx gy k wr) (hw : w1.heap = wr.heap) (hb : Below w.heap.size w w1) (hn : gx ≠ gy) (hx : w.heap.size + 1 + 1 < gx) (hc : g k = c) :
    Hid (OpG g fa fb w gx gy (k + 1) (w1.setCell ⟨gx, k, none⟩ (.bool c))) := by
  obtain ⟨h1, h2, ⟨c0, c1, h3⟩, h4⟩ := h
  refine ⟨?_, ?_, ⟨c0, c1, ?_⟩, hb.setCell (by show w.heap.size ≤ gx; omega) _⟩
  · rw [setCell_row _ (by rw [hw]; exact h1)]
    congr 2
    apply rowA_congr
    intro i _
    simp only [put]
    by_cases e : i = k
    · subst e
      rw [if_pos rfl, if_pos (by omega), hc]
    · rw [if_neg e]
      by_cases e2 : i < k
      · rw [if_pos e2, if_pos (by omega)]
      · rw [if_neg e2, if_neg (by omega)]
  · rw [setCell_heap (fun e => hn e.symm), hw]
    exact h2
  · rw [setCell_heap (by omega), hw]
    exact h3

set_option maxRecDepth 100000 in
set_option maxHeartbeats 4000000 in
theorem refAdd_any (a b : Nat) (c : Int) (ha : a < B * B) (hb : b < B * B) (w : World) :
    Calls Try.prog 56 #[numV a, numV b, .int .i64 c] w (RetNum w ((a + b) % 2 ^ 128 % 2 ^ sh c)) := by
  obtain ⟨fa, hfa⟩ : ∃ fa, fa = a.testBit := ⟨_, rfl⟩
  obtain ⟨fb, hfb⟩ : ∃ fb, fb = b.testBit := ⟨_, rfl⟩
  have HA : Hid (∀ W, Calls Try.prog 88 #[numV a] W fun e w' => e = .returned (.agg (rowA fa)) ∧ Below W.heap.size W w') := fun W => by rw [hfa]; exact refBits_any a ha W
  have HB : Hid (∀ W, Calls Try.prog 88 #[numV b] W fun e w' => e = .returned (.agg (rowA fb)) ∧ Below W.heap.size W w') := fun W => by rw [hfb]; exact refBits_any b hb W
  have HFA := Lib.hid hfa
  have HFB := Lib.hid hfb
  obtain ⟨h1, l1, e1, -, -⟩ := numV_parts a
  obtain ⟨h2, l2, e2, -, -⟩ := numV_parts b
  rw [e1] at HA ⊢
  rw [e2] at HB ⊢
  clear e1 e2 hfa hfb
  go_enter Try.func56, Try.ntmps56
  go_wp2_with fail
  obtain ⟨W0, hW0⟩ : ∃ W0, W0 = ((w.alloc (.cells #[.int .u64 (h1 : Int), .int .u64 (l1 : Int)] 41)).alloc (.cells #[.int .u64 (h2 : Int), .int .u64 (l2 : Int)] 41)).alloc (.cells #[.int .u64 0, .int .u64 0] 41) := ⟨_, rfl⟩
  have hbW : Below w.heap.size w W0 := by rw [hW0]; exact (by repeat (first | exact Below.refl _ _ | assumption | refine Below.drew ?_ | refine Below.alloc ?_ (by first | omega | (simp <;> omega)) _ | refine Below.setCell ?_ (by first | omega | (simp <;> omega)) _ | refine Below.trans ?_ (Below.mono (by assumption) (by first | omega | (simp <;> omega)))))
  have z0 : w.heap.size < W0.heap.size := by rw [hW0]; simp <;> omega
  have z1 : w.heap.size + 1 < W0.heap.size := by rw [hW0]; simp
  have c0 : W0.cell? ⟨w.heap.size, 0, none⟩ = some (.int .u64 (h1 : Int)) := by rw [hW0]; simp [go_sem]
  have c1 : W0.cell? ⟨w.heap.size, 1, none⟩ = some (.int .u64 (l1 : Int)) := by rw [hW0]; simp [go_sem]
  have c2 : W0.cell? ⟨w.heap.size + 1, 0, none⟩ = some (.int .u64 (h2 : Int)) := by rw [hW0]; simp [go_sem]
  have c3 : W0.cell? ⟨w.heap.size + 1, 1, none⟩ = some (.int .u64 (l2 : Int)) := by rw [hW0]; simp [go_sem]
  have z2 : w.heap.size + 1 + 1 < W0.heap.size := by rw [hW0]; simp
  have cr : W0.heap[w.heap.size + 1 + 1]? = some (.cells #[.int .u64 0, .int .u64 0] 41 (0, 0)) := by
    rw [hW0]
    have := heap_new ((w.alloc (.cells #[.int .u64 (h1 : Int), .int .u64 (l1 : Int)] 41)).alloc (.cells #[.int .u64 (h2 : Int), .int .u64 (l2 : Int)] 41)) (.cells #[.int .u64 0, .int .u64 0] 41)
    simp only [World.size_alloc] at this
    exact this
  rw [← hW0]
  have HBW0 := Lib.hid hbW
  clear hW0 hbW
  refine wp_region_inv (by kernel_rfl) (fun L a' w' => ∃ v5 v6 v8 v9 v10 v11 : Value, a' = ⟨#[.agg #[.int .u64 (h1 : Int), .int .u64 (l1 : Int)], .agg #[.int .u64 (h2 : Int), .int .u64 (l2 : Int)], .int .i64 c, .pointer (some ⟨w.heap.size, 0, none⟩), .pointer (some ⟨w.heap.size + 1, 0, none⟩), undef, .pointer (some ⟨w.heap.size + 1 + 1, 0, none⟩), v5, v6, undef, undef, undef, v8, v9, v10, v11, undef, undef, undef, undef, undef, undef, undef, undef, undef, undef, undef, undef, undef, undef, undef, undef, undef, undef, undef, undef, undef, undef, undef, undef, undef, undef, undef, undef, undef, undef, undef, undef, undef, undef, undef, undef, undef, undef, undef, undef, undef, undef, undef, undef], []⟩ ∧ TwoI (.agg #[.int .u64 (h1 : Int), .int .u64 (l1 : Int)]) (.agg #[.int .u64 (h2 : Int), .int .u64 (l2 : Int)]) fa fb W0 L v5 v6 v8 v9 v10 v11 w') ?_ ?_ ?_ ?_
  · exact ⟨_, _, _, _, _, _, rfl, TwoI.init (by funext i; unfold did; match i with | 0 => rfl | 1 => rfl | 2 => rfl | 3 => rfl | 4 => rfl | 5 => rfl | 6 => rfl | 7 => rfl | i + 8 => rfl) (below_drewN (Below.refl _ _) 1)⟩
  · rintro L a' w' i hL hi hnd hdep ⟨v5, v6, v8, v9, v10, v11, rfl, hI⟩
    have hL8 : L.size = 8 := hL
    have HI := Lib.hid hI
    have d0 : w'.cell? ⟨w.heap.size, 0, none⟩ = some (.int .u64 (h1 : Int)) := (hI.below.cell (p := ⟨w.heap.size, 0, none⟩) z0).trans c0
    have d1 : w'.cell? ⟨w.heap.size, 1, none⟩ = some (.int .u64 (l1 : Int)) := (hI.below.cell (p := ⟨w.heap.size, 1, none⟩) z0).trans c1
    have d2 : w'.cell? ⟨w.heap.size + 1, 0, none⟩ = some (.int .u64 (h2 : Int)) := (hI.below.cell (p := ⟨w.heap.size + 1, 0, none⟩) z1).trans c2
    have d3 : w'.cell? ⟨w.heap.size + 1, 1, none⟩ = some (.int .u64 (l2 : Int)) := (hI.below.cell (p := ⟨w.heap.size + 1, 1, none⟩) z1).trans c3
    have hZ : Try.zeroCells120 = rowA fun _ => false := by kernel_rfl
    have HZ := Lib.hid hZ
    clear hZ hI
    match i, hi with
    | 0, _ =>
      clear hdep hnd
      refine wpOp_step rfl (fun K' hK => ?_)
      go_simp
      exact hK _ _ ⟨_, _, _, _, _, _, rfl, HI.out.s0 hL8⟩
    | 1, _ =>
      have q := HI.out.h0 (hdep _ rfl ⟨0, .data⟩ (by simp) (by kernel_rfl))
      subst q
      clear hdep hnd
      refine wpOp_step rfl (fun K' hK => ?_)
      go_simp
      refine (HA.out _).mono ?_
      rintro e w1 ⟨rfl, hb1⟩
      exact hK _ _ ⟨_, _, _, _, _, _, rfl, (HI.out.below' hb1).s1 hL8⟩
    | 2, _ =>
      clear hdep hnd
      refine wpOp_step rfl (fun K' hK => ?_)
      go_simp
      exact hK _ _ ⟨_, _, _, _, _, _, rfl, HI.out.s2 hL8⟩
    | 3, _ =>
      have q := HI.out.h2 (hdep _ rfl ⟨2, .data⟩ (by simp) (by kernel_rfl))
      subst q
      clear hdep hnd
      refine wpOp_step rfl (fun K' hK => ?_)
      go_simp
      refine (HB.out _).mono ?_
      rintro e w1 ⟨rfl, hb1⟩
      exact hK _ _ ⟨_, _, _, _, _, _, rfl, (HI.out.below' hb1).s3 hL8⟩
    | 4, _ =>
      have hnd' := Lib.hid hnd
      clear hdep hnd
      refine wpOp_step rfl (fun K' hK => ?_)
      go_simp
      rw [HZ.out]
      exact hK _ _ ⟨_, _, _, _, _, _, rfl, HI.out.s4 hL8 hnd'.out⟩
    | 5, _ =>
      have hnd' := Lib.hid hnd
      clear hdep hnd
      refine wpOp_step rfl (fun K' hK => ?_)
      go_simp
      rw [HZ.out]
      exact hK _ _ ⟨_, _, _, _, _, _, rfl, HI.out.s5 hL8 hnd'.out⟩
    | 6, _ =>
      have q4 := hdep _ rfl ⟨4, .data⟩ (by simp) (by kernel_rfl)
      have q := HI.out.h1 (hdep _ rfl ⟨1, .data⟩ (by simp) (by kernel_rfl))
      subst q
      obtain ⟨g, e1, -, e3⟩ := HI.out.h4 q4
      subst e1
      clear hdep hnd
      refine wpOp_step rfl (fun K' hK => ?_)
      refine store_wanted rfl ?_
      exact wp_store_row 120 (.tmp 7) (.tmp 13) rfl g (rowA fa) rfl rfl 120 _ e3 (by rw [rowA_size]; exact infoRow) (by rw [rowA_size, rowA_size]) (rowA_one _) (hK _ _ ⟨_, _, _, _, _, _, rfl, HI.out.s6 hL8 q4 rfl⟩)
    | 7, _ =>
      have q5 := hdep _ rfl ⟨5, .data⟩ (by simp) (by kernel_rfl)
      have q := HI.out.h3 (hdep _ rfl ⟨3, .data⟩ (by simp) (by kernel_rfl))
      subst q
      obtain ⟨g, e1, -, e3⟩ := HI.out.h5 q5
      subst e1
      clear hdep hnd
      refine wpOp_step rfl (fun K' hK => ?_)
      refine store_wanted rfl ?_
      exact wp_store_row 120 (.tmp 8) (.tmp 15) rfl g (rowA fb) rfl rfl 120 _ e3 (by rw [rowA_size]; exact infoRow) (by rw [rowA_size, rowA_size]) (rowA_one _) (hK _ _ ⟨_, _, _, _, _, _, rfl, HI.out.s7 hL8 q5 rfl⟩)
  · intro i o ho e he
    match i, ho with
    | 0, ho => cases ho; simp at he
    | 1, ho => cases ho; simp at he; subst he; show (0 : Nat) < 1; omega
    | 2, ho => cases ho; simp at he
    | 3, ho => cases ho; simp at he; rcases he with rfl | rfl <;> (simp <;> omega)
    | 4, ho => cases ho; simp at he
    | 5, ho => cases ho; simp at he
    | 6, ho => cases ho; simp at he; rcases he with rfl | rfl | rfl | rfl | rfl | rfl | rfl | rfl | rfl <;> (simp <;> omega)
    | 7, ho => cases ho; simp at he; rcases he with rfl | rfl | rfl | rfl | rfl | rfl | rfl | rfl | rfl | rfl <;> (simp <;> omega)
  rintro L a' w' hall ⟨v5, v6, v8, v9, v10, v11, rfl, hI⟩
  obtain ⟨rfl, rfl, rfl, rfl, gx, gy, hgn, rfl, rfl, hgx, hgy, hrx, hry, hbw⟩ := hI.all hall
  have HRX := Lib.hid hrx
  have HRY := Lib.hid hry
  have HBW := Lib.hid hbw
  have HGN := Lib.hid hgn
  clear hI hall hrx hry hbw hgn HA HB c0 c1 c2 c3
  have crx := (HBW.out.block (w.heap.size + 1 + 1) z2).trans cr
  have hgx0 : w.heap.size + 1 + 1 < gx := by omega
  have H0 : Hid (OpG (sumB fa fb) fa fb w gx gy 0 w') := ⟨by rw [HRX.out]; congr 2, HRY.out, ⟨_, _, crx⟩, HBW0.out.trans (HBW.out.mono HBW0.out.size)⟩
  clear crx cr HBW HBW0 z0 z1 z2 HRX HRY
  go_wp2_with fail
  go_loopw [9, 10] (fun cy i wr => ∃ k : Nat, k ≤ 128 ∧ i = .int .i64 k ∧ cy = .bool (carryB fa fb k) ∧ Hid (OpG (sumB fa fb) fa fb w gx gy k wr)) (fun _ i _ => 128 - (intOf i).toNat)
  case atStart => exact ⟨0, Nat.zero_le _, rfl, rfl, H0⟩
  case round =>
    obtain ⟨k, hk, rfl, rfl, HK⟩ := hrel
    by_cases hlt : k < 128
    · obtain ⟨r1, r2, r3⟩ := HK.out.cells hlt
      have HSU : Hid (sumB fa fb k = ((fa k != fb k) != carryB fa fb k)) := rfl
      have HCA : Hid (carryB fa fb (k + 1) = (fa k && fb k || fa k && carryB fa fb k || fb k && carryB fa fb k)) := rfl
      generalize hc0 : carryB fa fb k = cc at HSU HCA ⊢
      clear hc0
      cases hf1 : fa k <;> cases hf2 : fb k <;> cases cc
      all_goals
        rw [hf1] at r1 HSU HCA
        rw [hf2] at r2 HSU HCA
        clear hf1 hf2
        go_wp2_with fail
        go_quiet (fail)
        go_wp2_with fail
        go_roundw
        case rel => exact ⟨k + 1, by omega, by go_num, by rw [HCA.out]; rfl, HK.out.step rfl (below_drewN HK.out.2.2.2 _) HGN.out (by omega) (by rw [HSU.out]; rfl)⟩
        case measure => simp [intOf]; omega
    · obtain rfl : k = 128 := by omega
      obtain ⟨r1, r2, ⟨x0, x1, r3⟩, r4⟩ := HK.out
      have e : (rowA fun i => if i < 128 then sumB fa fb i else fa i) = rowA (sumB fa fb) := rowA_congr fun i hi => by rw [if_pos hi]
      rw [e] at r1
      have HE : Hid (ofBits (sumB fa fb) 128 = (a + b) % 2 ^ 128) := by
        show _ = _
        rw [HFA.out, HFB.out]
        exact sum_num (by rw [← BB_pow2]; exact ha) (by rw [← BB_pow2]; exact hb)
      have HNUM : Hid (∀ W, Calls Try.prog 89 #[.agg (rowA (sumB fa fb))] W (RetNum W ((a + b) % 2 ^ 128))) := fun W => by rw [← HE.out]; exact refNum_any _ W
      have HB4 := Lib.hid r4
      have H3 := Lib.hid r3
      clear e r2 r3 r4 HE HK H0 HGN
      have hRR : (rowA (sumB fa fb)).size = 128 := rowA_size _
      generalize (rowA (sumB fa fb)) = RR at r1 HNUM hRR
      generalize carryB fa fb 128 = cc
      go_wp2_with (first
        | (refine wpList_load_row rfl 120 (.tmp 7) rfl gx rfl 120 RR (0, 0) _ r1 Try.underlying120 rfl (by rw [hRR]; exact infoRow) ?_))
      clear r1
      obtain ⟨h3, l3, e3, -, -⟩ := numV_parts ((a + b) % 2 ^ 128)
      obtain ⟨h4, l4, e4, -, -⟩ := numV_parts ((a + b) % 2 ^ 128 % 2 ^ sh c)
      have HE3 := Lib.hid e3
      have HE4 := Lib.hid e4
      have HNUM2 : Hid (∀ W, Calls Try.prog 89 #[.agg RR] W fun e w' => e = .returned (.agg #[.int .u64 (h3 : Int), .int .u64 (l3 : Int)]) ∧ Below W.heap.size W w') := fun W => by rw [← HE3.out]; exact HNUM.out W
      have hcut : ∀ W, Calls Try.prog 31 #[numV ((a + b) % 2 ^ 128), .int .i64 c] W (RetNum W ((a + b) % 2 ^ 128 % 2 ^ sh c)) := fun W => refCut_any _ c (by rw [BB_pow2]; exact Nat.mod_lt _ (Nat.two_pow_pos _)) W
      unfold RetNum at hcut
      rw [HE3.out, HE4.out] at hcut
      have HCUT2 := Lib.hid hcut
      clear HNUM e3 e4 hcut HE3
      refine (HNUM2.out _).mono ?_
      rintro e w1 ⟨rfl, hb1⟩
      have HB6 : Hid (Below w.heap.size w w1) := HB4.out.trans (hb1.mono HB4.out.size)
      have H6 := Lib.hid ((hb1.block (w.heap.size + 1 + 1) (lt_of_block H3.out)).trans H3.out)
      clear hb1 H3 HB4
      go_wp2_with fail
      refine (HCUT2.out _).mono ?_
      rintro e w4 ⟨rfl, hb1⟩
      have hr := (hb1.block (w.heap.size + 1 + 1) (lt_of_block H6.out)).trans H6.out
      have q0 : w4.cell? ⟨w.heap.size + 1 + 1, 0, none⟩ = some x0 := by simp [World.cell?, hr]
      have q1 : w4.cell? ⟨w.heap.size + 1 + 1, 1, none⟩ = some x1 := by simp [World.cell?, hr]
      have qz : ∀ j, w4.frozen? ⟨w.heap.size + 1 + 1, j, none⟩ = false := fun j => by simp [World.frozen?, hr]
      have HR := Lib.hid hr
      have HB1 : Hid (Below w.heap.size w w4) := HB6.out.trans (hb1.mono HB6.out.size)
      clear hr hb1
      go_wp2_with fail
      have hg := set_lo (.int .u64 (l4 : Int)) (set_hi (.int .u64 (h4 : Int)) HR.out)
      exact bodyPost_ret (v := .agg #[.int .u64 (h4 : Int), .int .u64 (l4 : Int)]) (results_cell_row Try.results56 _ _ (w.heap.size + 1 + 1) _ _ _ _ (by simp [go_sem]) hg Try.underlying41 rfl (by kernel_rfl)) rfl ⟨by rw [HE4.out], (HB1.out.setCell (by show w.heap.size ≤ w.heap.size + 1 + 1; omega) _).setCell (by show w.heap.size ≤ w.heap.size + 1 + 1; omega) _⟩

end Go.Proofs.Ytlnkflmnjkmhkaa

/-
  Contract of quillonref01.Not.
-/
namespace Go.Proofs.Ytlnkflmnjkmhkaa
open Go.RowKit

set_option maxRecDepth 100000 in
set_option maxHeartbeats 4000000 in
theorem refNot_any (n : Nat) (c : Int) (hn : n < B * B) (w : World) :
    Calls Try.prog 35 #[numV n, .int .i64 c] w (RetNum w ((n % 2 ^ sh c) ^^^ (2 ^ sh c - 1))) := by
  obtain ⟨f, hf⟩ : ∃ f, f = n.testBit := ⟨_, rfl⟩
  have HA : Hid (∀ W, Calls Try.prog 88 #[numV n] W fun e w' => e = .returned (.agg (rowA f)) ∧ Below W.heap.size W w') := fun W => by rw [hf]; exact refBits_any n hn W
  have HF := Lib.hid hf
  obtain ⟨h1, l1, e1, -, -⟩ := numV_parts n
  rw [e1] at HA ⊢
  clear e1 hf
  go_enter Try.func35, Try.ntmps35
  go_wp2_with fail
  refine (HA.out _).mono ?_
  rintro e w1 ⟨rfl, hb1⟩
  obtain ⟨W0, hW0⟩ : ∃ W0, W0 = (w.alloc (.cells #[.int .u64 (h1 : Int), .int .u64 (l1 : Int)] 41)).alloc (.cells #[.int .u64 0, .int .u64 0] 41) := ⟨_, rfl⟩
  have hbW : Below w.heap.size w W0 := by rw [hW0]; exact (by repeat (first | exact Below.refl _ _ | assumption | refine Below.drew ?_ | refine Below.alloc ?_ (by first | omega | (simp <;> omega)) _ | refine Below.setCell ?_ (by first | omega | (simp <;> omega)) _ | refine Below.trans ?_ (Below.mono (by assumption) (by first | omega | (simp <;> omega)))))
  have z1 : w.heap.size + 1 < W0.heap.size := by rw [hW0]; simp
  have cr : W0.heap[w.heap.size + 1]? = some (.cells #[.int .u64 0, .int .u64 0] 41 (0, 0)) := by
    rw [hW0]
    have := heap_new (w.alloc (.cells #[.int .u64 (h1 : Int), .int .u64 (l1 : Int)] 41)) (.cells #[.int .u64 0, .int .u64 0] 41)
    simp only [World.size_alloc] at this
    exact this
  rw [← hW0] at hb1
  have hs1 := hb1.size
  have cr1 := (hb1.block _ z1).trans cr
  have HB1 : Hid (Below w.heap.size w w1) := hbW.trans (hb1.mono hbW.size)
  clear hb1 hW0 hbW cr
  have hZ : Try.zeroCells120 = rowA fun _ => false := by kernel_rfl
  have hnew := heap_new w1 (.cells Try.zeroCells120 120)
  have HZS : Hid ((Try.zeroCells120).size = 128) := by show _ = _; rw [hZ]; exact rowA_size _
  have hset := setRow_heap _ _ _ (rowA f) _ _ hnew
  have HNW := Lib.hid hnew
  have HST := Lib.hid hset
  clear hZ hnew hset
  go_wp2_with (refine wpList_store_row rfl 120 (.tmp 5) (.tmp 8) rfl w1.heap.size (rowA f) rfl rfl 120 _ HNW.out (by rw [rowA_size]; exact infoRow) (by rw [rowA_size]; exact HZS.out) (rowA_one _) ?_)
  obtain ⟨g, hg⟩ : ∃ g : Nat → Bool, g = fun i => !f i && decide ((i : Int) < c) := ⟨_, rfl⟩
  have HG : Hid (∀ i, g i = (!f i && decide ((i : Int) < c))) := fun i => by rw [hg]
  have H0 : Hid (InAt g f w w1.heap.size (w.heap.size + 1) 0 ((w1.alloc (.cells Try.zeroCells120 120)).setRow w1.heap.size (rowA f))) :=
    ⟨by rw [HST.out]; congr 2, ⟨_, _, by rw [setRow_other _ _ _ _ (by omega), Below.heap_alloc _ _ _ (by omega)]; exact cr1⟩, below_setRow (HB1.out.alloc (by omega) _) (by omega) _⟩
  have HE : Hid (ofBits g 128 = ((n % 2 ^ sh c) ^^^ (2 ^ sh c - 1))) := by
    show _ = _
    have hp : 2 ^ sh c ≤ 2 ^ 128 := Nat.pow_le_pow_right (by omega) (sh_le c)
    have hpp : 0 < 2 ^ sh c := Nat.two_pow_pos _
    have hm : n % 2 ^ sh c < 2 ^ sh c := Nat.mod_lt _ hpp
    refine ofBits_eq (Nat.xor_lt_two_pow (by omega) (by omega)) fun i hi => ?_
    rw [HG.out, HF.out, Nat.testBit_xor, Nat.testBit_mod_two_pow, Nat.testBit_two_pow_sub_one, ← sh_bit c i hi]
    cases n.testBit i <;> cases decide (i < sh c) <;> rfl
  clear hg HST HNW HZS HB1 cr1 HA
  generalize (w1.alloc (.cells Try.zeroCells120 120)).setRow w1.heap.size (rowA f) = W2 at *
  go_loopw [6] (fun i wr => ∃ k : Nat, k ≤ 128 ∧ i = .int .i64 k ∧ Hid (InAt g f w w1.heap.size (w.heap.size + 1) k wr)) (fun i _ => 128 - (intOf i).toNat)
  case atStart => exact ⟨0, Nat.zero_le _, rfl, H0⟩
  case round =>
    obtain ⟨k, hk, rfl, HK⟩ := hrel
    by_cases hlt : k < 128
    · obtain ⟨r1, r2⟩ := HK.out.cells hlt
      by_cases hc : (k : Int) < c <;> cases hf1 : f k
      all_goals
        rw [hf1] at r1
        have HGK : Hid (g k = (!f k && decide ((k : Int) < c))) := HG.out k
        have HF1 := Lib.hid hf1
        have HC := Lib.hid hc
        clear hf1
        go_wp2_with fail
        go_roundw
        case rel => exact ⟨k + 1, by omega, by go_num, HK.out.step (by omega) (by omega) (by rw [HGK.out, HF1.out]; simp [HC.out])⟩
        case measure => simp [intOf]; omega
    · obtain rfl : k = 128 := by omega
      obtain ⟨r1, ⟨x0, x1, r3⟩, r4⟩ := HK.out.done
      have HNUM : Hid (∀ W, Calls Try.prog 89 #[.agg (rowA g)] W (RetNum W ((n % 2 ^ sh c) ^^^ (2 ^ sh c - 1)))) := fun W => by rw [← HE.out]; exact refNum_any _ W
      have HB4 := Lib.hid r4
      have H3 := Lib.hid r3
      clear r3 r4 HE HK H0 HG
      have hRR : (rowA g).size = 128 := rowA_size _
      generalize rowA g = RR at r1 HNUM hRR
      go_wp2_with (first
        | (refine wpList_load_row rfl 120 (.tmp 5) rfl w1.heap.size rfl 120 RR (0, 0) _ r1 Try.underlying120 rfl (by rw [hRR]; exact infoRow) ?_))
      clear r1
      obtain ⟨h3, l3, e3, -, -⟩ := numV_parts ((n % 2 ^ sh c) ^^^ (2 ^ sh c - 1))
      have HE3 := Lib.hid e3
      have HNUM2 : Hid (∀ W, Calls Try.prog 89 #[.agg RR] W fun e w' => e = .returned (.agg #[.int .u64 (h3 : Int), .int .u64 (l3 : Int)]) ∧ Below W.heap.size W w') := fun W => by rw [← HE3.out]; exact HNUM.out W
      clear HNUM e3
      refine (HNUM2.out _).mono ?_
      rintro e w3 ⟨rfl, hb1⟩
      have hr := (hb1.block (w.heap.size + 1) (lt_of_block H3.out)).trans H3.out
      have q0 : w3.cell? ⟨w.heap.size + 1, 0, none⟩ = some x0 := by simp [World.cell?, hr]
      have q1 : w3.cell? ⟨w.heap.size + 1, 1, none⟩ = some x1 := by simp [World.cell?, hr]
      have qz : ∀ j, w3.frozen? ⟨w.heap.size + 1, j, none⟩ = false := fun j => by simp [World.frozen?, hr]
      have HR := Lib.hid hr
      have HB5 : Hid (Below w.heap.size w w3) := HB4.out.trans (hb1.mono HB4.out.size)
      clear hr hb1
      go_wp2_with fail
      have hg := set_lo (.int .u64 (l3 : Int)) (set_hi (.int .u64 (h3 : Int)) HR.out)
      exact bodyPost_ret (v := .agg #[.int .u64 (h3 : Int), .int .u64 (l3 : Int)]) (results_cell_row Try.results35 _ _ (w.heap.size + 1) _ _ _ _ (by simp [go_sem]) hg Try.underlying41 rfl (by kernel_rfl)) rfl ⟨by rw [HE3.out], (HB5.out.setCell (by show w.heap.size ≤ w.heap.size + 1; omega) _).setCell (by show w.heap.size ≤ w.heap.size + 1; omega) _⟩

end Go.Proofs.Ytlnkflmnjkmhkaa

/-
  Loops that fill a new row out of another one.
-/
namespace Go.Proofs.Ytlnkflmnjkmhkaa
open Go.RowKit

/-- What holds at a round's head: the row gx holds f, the row gy what F says of k. -/
def In2 (F : Nat → Nat → Bool) (f : Nat → Bool) (w : World) (gx gy N k : Nat) (wr : World) : Prop :=
  wr.heap[gx]? = some (.cells (rowA f) 120 (0, 0)) ∧ wr.heap[gy]? = some (.cells (rowA (F k)) 120 (0, 0)) ∧
  (∃ c0 c1, wr.heap[N]? = some (.cells #[c0, c1] 41 (0, 0))) ∧ Below w.heap.size w wr

theorem In2.cells {F : Nat → Nat → Bool} {f : Nat → Bool} {w wr : World} {gx gy N k : Nat} (h : In2 F f w gx gy N k wr) {i j : Nat} (hi : i < 128) (hj : j < 128) :
    wr.cell? ⟨gx, i, none⟩ = some (.bool (f i)) ∧ (∃ c, wr.cell? ⟨gy, j, none⟩ = some (.bool c)) ∧ wr.frozen? ⟨gy, j, none⟩ = false := by
  obtain ⟨h1, h2, h3, h4⟩ := h
  refine ⟨?_, ⟨F k j, ?_⟩, ?_⟩
  · rw [cell_of_row wr _ i _ _ _ h1, rowA_at _ i hi]
  · rw [cell_of_row wr _ j _ _ _ h2, rowA_at _ j hj]
  · simp [World.frozen?, h2]

theorem In2.step {F : Nat → Nat → Bool} {f : Nat → Bool} {w wr : World} {gx gy N k j : Nat} {c : Bool} (h : In2 F f w gx gy N k wr) (hn : gx ≠ gy) (hN : N ≠ gy) (hx : w.heap.size ≤ gy) (hF : ∀ i, i < 128 → put (F k) j c i = F (k + 1) i) :
    Hid (In2 F f w gx gy N (k + 1) (wr.setCell ⟨gy, j, none⟩ (.bool c))) := by
  obtain ⟨h1, h2, ⟨c0, c1, h3⟩, h4⟩ := h
  refine ⟨?_, ?_, ⟨c0, c1, ?_⟩, h4.setCell (by show w.heap.size ≤ gy; omega) _⟩
  · rw [setCell_heap hn]; exact h1
  · rw [setCell_row _ h2]
    congr 2
    exact rowA_congr hF
  · rw [setCell_heap hN]; exact h3

end Go.Proofs.Ytlnkflmnjkmhkaa
