/-
  Contracts of quillonref01.Bits and Num.
-/
import Derived.Test.YtfalhemeiengcaaDoorRowP
import Derived.Test.YtfalhemeiengcaaDoorNum
namespace Go.Proofs.YtfalhemeiengcaaDoor
open Go.RowKit

theorem below_setRow {B : Nat} {w w1 : World} (h : Below B w w1) {g : Nat} (hg : B ≤ g) (cs : Array Value) : Below B w (w1.setRow g cs) :=
  ⟨h.os, h.tape, h.output, by simpa using h.size, fun k hk => (setRow_other w1 g k cs (by omega)).trans (h.block k hk)⟩
theorem infoRow : (Tryd.prog.info? 56).map (·.size) = some 128 := by kernel_rfl

/-- What holds at a round's head of Bits. -/
def BitsAt (w : World) (n k : Nat) (wr : World) : Prop :=
  wr.heap[w.heap.size + 1 + 1]? = some (.cells (rowA fun j => (decide (j < k) || (decide (64 ≤ j) && decide (j < 64 + k))) && n.testBit j) 56 (0, 0)) ∧
  wr.heap[w.heap.size + 1]? = some (.cells (rowA fun _ => false) 56 (0, 0)) ∧
  wr.heap[w.heap.size]? = some (.cells #[.int .u64 ((n / B / 2 ^ k : Nat) : Int), .int .u64 ((n % B / 2 ^ k : Nat) : Int)] 24 (0, 0)) ∧ Below w.heap.size w wr

theorem BitsAt.cells {w wr : World} {n k : Nat} (h : BitsAt w n k wr) :
    wr.cell? ⟨w.heap.size, 0, none⟩ = some (.int .u64 ((n / B / 2 ^ k : Nat) : Int)) ∧ wr.cell? ⟨w.heap.size, 1, none⟩ = some (.int .u64 ((n % B / 2 ^ k : Nat) : Int)) ∧
    (∀ j, wr.frozen? ⟨w.heap.size, j, none⟩ = false) ∧ (∀ j, wr.frozen? ⟨w.heap.size + 1 + 1, j, none⟩ = false) ∧
    (∀ j, j < 128 → ∃ b, wr.cell? ⟨w.heap.size + 1 + 1, j, none⟩ = some (.bool b)) := by
  obtain ⟨h1, h2, h3, h4⟩ := h
  refine ⟨?_, ?_, fun j => ?_, fun j => ?_, fun j hj => ?_⟩
  · simp [World.cell?, h3]
  · simp [World.cell?, h3]
  · simp [World.frozen?, h3]
  · simp [World.frozen?, h1]
  · exact ⟨_, by rw [cell_of_row wr _ j _ _ _ h1]; exact rowA_at _ j hj⟩

theorem heap_new (w : World) (o : Obj) : (w.alloc o).heap[w.heap.size]? = some o := by
  show (w.heap.push o)[w.heap.size]? = _
  simp
theorem setCell_row {w : World} {g i : Nat} {f : Nat → Bool} {t : TypeId} (b : Bool) (h : w.heap[g]? = some (.cells (rowA f) t (0, 0))) : (w.setCell ⟨g, i, none⟩ (.bool b)).heap[g]? = some (.cells (rowA (put f i b)) t (0, 0)) := by
  rw [heap_setCell_same w g i _ t _ h, rowA_put]
theorem setCell_heap {w : World} {g i k : Nat} {v : Value} (h : k ≠ g) : (w.setCell ⟨g, i, none⟩ v).heap[k]? = w.heap[k]? := Below.heap_setCell w ⟨g, i, none⟩ v k h

theorem testBit_div (n k : Nat) : n.testBit k = (n / 2 ^ k % 2 == 1) := by
  rw [Nat.testBit_eq_decide_div_mod_eq]
  rfl
theorem testBit_high {n : Nat} (k : Nat) : n.testBit (64 + k) = (n / B / 2 ^ k % 2 == 1) := by
  rw [testBit_div, Nat.pow_add, ← Nat.div_div_eq_div_mul, B_pow]
theorem testBit_low {n : Nat} (k : Nat) (hk : k < 64) : n.testBit k = (n % B / 2 ^ k % 2 == 1) := by
  rw [← testBit_div, B_pow, Nat.testBit_mod_two_pow]
  simp [hk]

theorem BitsAt.step {w wr : World} {n k x y : Nat} (hn : n < B * B) (hx : x = n / B / 2 ^ k) (hy : y = n % B / 2 ^ k) (hk : k < 64) (h : BitsAt w n k wr) :
    BitsAt w n (k + 1) ((((wr.setCell ⟨w.heap.size + 1 + 1, k, none⟩ (.bool ((y : Int).tmod 2 == 1))).setCell ⟨w.heap.size + 1 + 1, 64 + k, none⟩ (.bool ((x : Int).tmod 2 == 1))).setCell ⟨w.heap.size, 1, none⟩ (.int .u64 (IntKind.u64.wrap ((y : Int).tdiv 2)))).setCell ⟨w.heap.size, 0, none⟩ (.int .u64 (IntKind.u64.wrap ((x : Int).tdiv 2)))) := by
  obtain ⟨h1, h2, h3, h4⟩ := h
  have tm : ∀ z : Nat, (z : Int).tmod 2 = ((z % 2 : Nat) : Int) := fun z => by rw [Int.tmod_eq_emod_of_nonneg (by omega)]; rfl
  have td : ∀ z : Nat, z < B → IntKind.u64.wrap ((z : Int).tdiv 2) = ((z / 2 : Nat) : Int) := fun z hz => by
    rw [Int.tdiv_eq_ediv_of_nonneg (by omega), show ((z : Int) / 2) = ((z / 2 : Nat) : Int) from rfl, wrap_cast, Nat.mod_eq_of_lt (by omega)]
  have hxB : x < B := by rw [hx]; exact Nat.lt_of_le_of_lt (Nat.div_le_self _ _) (half_lt hn)
  have hyB : y < B := by rw [hy]; exact Nat.lt_of_le_of_lt (Nat.div_le_self _ _) (low_lt n)
  have ex : ((x : Int).tmod 2 == 1) = n.testBit (64 + k) := by
    rw [tm, testBit_high, ← hx, Bool.eq_iff_iff, beq_iff_eq, beq_iff_eq]
    omega
  have ey : ((y : Int).tmod 2 == 1) = n.testBit k := by
    rw [tm, testBit_low k hk, ← hy, Bool.eq_iff_iff, beq_iff_eq, beq_iff_eq]
    omega
  have dx : IntKind.u64.wrap ((x : Int).tdiv 2) = ((n / B / 2 ^ (k + 1) : Nat) : Int) := by rw [td x hxB, Nat.pow_succ, ← Nat.div_div_eq_div_mul, ← hx]
  have dy : IntKind.u64.wrap ((y : Int).tdiv 2) = ((n % B / 2 ^ (k + 1) : Nat) : Int) := by rw [td y hyB, Nat.pow_succ, ← Nat.div_div_eq_div_mul, ← hy]
  rw [ex, ey, dx, dy]
  refine ⟨?_, ?_, ?_, ?_⟩
  · rw [setCell_heap (by omega), setCell_heap (by omega), setCell_row _ (setCell_row _ h1)]
    congr 2
    apply rowA_congr
    intro j hj
    simp only [put]
    by_cases e1 : j = 64 + k
    · subst e1
      simp
    · by_cases e2 : j = k
      · subst e2
        rw [if_neg e1, if_pos rfl]
        simp
      · rw [if_neg e1, if_neg e2]
        have a1 : decide (j < k + 1) = decide (j < k) := by simp; omega
        have a2 : decide (j < 64 + (k + 1)) = decide (j < 64 + k) := by simp; omega
        rw [a1, a2]
  · rw [setCell_heap (by omega), setCell_heap (by omega), setCell_heap (by omega), setCell_heap (by omega)]
    exact h2
  · have q : (((wr.setCell ⟨w.heap.size + 1 + 1, k, none⟩ (.bool (n.testBit k))).setCell ⟨w.heap.size + 1 + 1, 64 + k, none⟩ (.bool (n.testBit (64 + k))))).heap[w.heap.size]? = some (.cells #[.int .u64 ((n / B / 2 ^ k : Nat) : Int), .int .u64 ((n % B / 2 ^ k : Nat) : Int)] 24 (0, 0)) := by
      rw [setCell_heap (by omega), setCell_heap (by omega)]
      exact h3
    have q1 := heap_setCell_same _ w.heap.size 1 _ _ (.int .u64 ((n % B / 2 ^ (k + 1) : Nat) : Int)) q
    have q2 := heap_setCell_same _ w.heap.size 0 _ _ (.int .u64 ((n / B / 2 ^ (k + 1) : Nat) : Int)) q1
    rw [q2]
    rfl
  · exact (((h4.setCell (by show _ ≤ w.heap.size + 1 + 1; omega) _).setCell (by show _ ≤ w.heap.size + 1 + 1; omega) _).setCell (Nat.le_refl _) _).setCell (Nat.le_refl _) _

set_option maxRecDepth 100000 in
set_option maxHeartbeats 1600000 in
theorem refBits_any (n : Nat) (hn : n < B * B) (w : World) :
    Calls Tryd.prog 53 #[numV n] w fun e w' => e = .returned (.agg (rowA n.testBit)) ∧ Below w.heap.size w w' := by
  obtain ⟨hi, lo, he, hhi, hlo⟩ := numV_parts n
  rw [he]
  have hi0 : hi < B := by rw [hhi]; exact half_lt hn
  have lo0 : lo < B := by rw [hlo]; exact low_lt n
  have HN : Hid (hi = n / B ∧ lo = n % B) := ⟨hhi, hlo⟩
  clear he hhi hlo
  go_enter Tryd.func53, Tryd.ntmps53
  go_wp2_with fail
  obtain ⟨A, hA⟩ : ∃ A, A = ((w.alloc (.cells #[.int .u64 (hi : Int), .int .u64 (lo : Int)] 24)).alloc (.cells Tryd.zeroCells56 56)).alloc (.cells Tryd.zeroCells56 56) := ⟨_, rfl⟩
  have ez : Tryd.zeroCells56 = rowA fun _ => false := by kernel_rfl
  have H0 : Hid (BitsAt w n 0 A) := by
    show BitsAt w n 0 A
    refine ⟨?_, ?_, ?_, by rw [hA]; exact (by repeat (first | exact Below.refl _ _ | assumption | refine Below.drew ?_ | refine Below.alloc ?_ (by first | omega | (simp <;> omega)) _ | refine Below.setCell ?_ (by first | omega | (simp <;> omega)) _ | refine Below.trans ?_ (Below.mono (by assumption) (by first | omega | (simp <;> omega)))))⟩
    · rw [hA, ez]
      have := heap_new ((w.alloc (.cells #[.int .u64 (hi : Int), .int .u64 (lo : Int)] 24)).alloc (.cells (rowA fun _ => false) 56)) (.cells (rowA fun _ => false) 56)
      simp only [World.size_alloc] at this
      rw [this]
      congr 2
      apply rowA_congr
      intro i hi
      simp
      omega
    · rw [hA, ez, Below.heap_alloc _ _ _ (by simp)]
      have := heap_new (w.alloc (.cells #[.int .u64 (hi : Int), .int .u64 (lo : Int)] 24)) (.cells (rowA fun _ => false) 56)
      simp only [World.size_alloc] at this
      exact this
    · rw [hA, Below.heap_alloc _ _ _ (by simp; omega), Below.heap_alloc _ _ _ (by simp), heap_new, HN.out.1, HN.out.2]
      simp
  rw [← hA]
  clear hA ez
  go_loopw [4] (fun i wr => ∃ k : Nat, k ≤ 64 ∧ i = .int .i64 k ∧ Hid (BitsAt w n k wr)) (fun i _ => 64 - (intOf i).toNat)
  case atStart => exact ⟨0, Nat.zero_le _, rfl, H0⟩
  case round =>
    obtain ⟨k, hk, rfl, HK⟩ := hrel
    by_cases hlt : k < 64
    · obtain ⟨c0, c1, f0, f2, cr⟩ := HK.out.cells
      obtain ⟨x, hx⟩ : ∃ x, x = n / B / 2 ^ k := ⟨_, rfl⟩
      obtain ⟨y, hy⟩ : ∃ y, y = n % B / 2 ^ k := ⟨_, rfl⟩
      rw [← hx] at c0
      rw [← hy] at c1
      have HX := Lib.hid hx
      have HY := Lib.hid hy
      clear hx hy
      obtain ⟨b1, r1⟩ := cr k (by omega)
      obtain ⟨b2, r2⟩ := cr (64 + k) (by omega)
      clear cr
      have HS := Lib.hid (BitsAt.step hn HX.out HY.out hlt HK.out)
      go_wp2_with fail
      go_roundw
      case rel => exact ⟨k + 1, by omega, by go_num, HS⟩
      case measure => simp [intOf]; omega
    · obtain rfl : k = 64 := by omega
      obtain ⟨h1, h2, h3, h4⟩ := HK.out
      have HB4 := Lib.hid h4
      have e64 : (rowA fun j => (decide (j < 64) || (decide (64 ≤ j) && decide (j < 64 + 64))) && n.testBit j) = rowA n.testBit := by
        apply rowA_congr
        intro j hj
        by_cases e : j < 64
        · simp [e]
        · have e1 : decide (64 ≤ j) = true := by simp; omega
          have e2 : decide (j < 64 + 64) = true := by simp; omega
          rw [e1, e2]
          simp
      rw [e64] at h1
      clear e64 h3 h4 H0
      go_wp2_with (first
        | (refine wpList_load_row rfl 56 (.tmp 3) rfl (w.heap.size + 1 + 1) rfl 56 (rowA n.testBit) (0, 0) _ h1 Tryd.underlying56 rfl (by rw [rowA_size]; exact infoRow) ?_)
        | (refine wpList_store_row rfl 56 (.tmp 2) (.tmp 30) rfl (w.heap.size + 1) (rowA n.testBit) rfl rfl 56 (rowA fun _ => false) h2 (by rw [rowA_size]; exact infoRow) (by rw [rowA_size, rowA_size]) (rowA_one _) ?_))
      have hg : (wr.setRow (w.heap.size + 1) (rowA n.testBit)).heap[w.heap.size + 1]? = some (.cells (rowA n.testBit) 56 (0, 0)) := setRow_heap _ _ _ _ _ _ h2
      exact bodyPost_ret (v := .agg (rowA n.testBit)) (results_cell_row Tryd.results53 _ _ (w.heap.size + 1) _ _ _ _ (by simp [go_sem]) hg Tryd.underlying56 rfl (by rw [rowA_size]; exact infoRow)) rfl ⟨rfl, below_setRow HB4.out (by omega) _⟩

/-- The bits behind a lowest one. -/
theorem ofBits_low (g : Nat → Bool) : ∀ k, ofBits g (k + 1) = (if g 0 then 1 else 0) + 2 * ofBits (fun j => g (j + 1)) k
  | 0 => by simp [ofBits]
  | k + 1 => by
    rw [ofBits, ofBits_low g k, ofBits, Nat.pow_succ]
    split <;> split <;> omega
theorem ofBits_shift (f : Nat → Bool) (j c : Nat) (hj : j < 64) : ofBits (fun i => f (c + j + i)) (64 - j) = (if f (c + j) then 1 else 0) + 2 * ofBits (fun i => f (c + (j + 1) + i)) (64 - (j + 1)) := by
  have e : 64 - j = 64 - (j + 1) + 1 := by omega
  rw [e, ofBits_low]
  have e2 : (fun i => f (c + j + (i + 1))) = fun i => f (c + (j + 1) + i) := by
    funext i
    rw [show c + j + (i + 1) = c + (j + 1) + i by omega]
  rw [e2]
  rfl
theorem ofBits_add (f : Nat → Bool) (a : Nat) : ∀ b, ofBits f (a + b) = ofBits f a + 2 ^ a * ofBits (fun j => f (a + j)) b
  | 0 => by simp [ofBits]
  | b + 1 => by
    rw [show a + (b + 1) = (a + b) + 1 by omega, ofBits, ofBits_add f a b, ofBits, Nat.mul_add, Nat.pow_add]
    split <;> omega

/-- What holds at a round's head of Num: m bits of each half are left. -/
def NumAt (w : World) (f : Nat → Bool) (m : Nat) (wr : World) : Prop :=
  wr.heap[w.heap.size]? = some (.cells (rowA f) 56 (0, 0)) ∧
  (∃ c0 c1, wr.heap[w.heap.size + 1]? = some (.cells #[c0, c1] 24 (0, 0))) ∧
  wr.heap[w.heap.size + 1 + 1]? = some (.cells #[.int .u64 ((ofBits (fun i => f (64 + m + i)) (64 - m) : Nat) : Int), .int .u64 ((ofBits (fun i => f (0 + m + i)) (64 - m) : Nat) : Int)] 24 (0, 0)) ∧ Below w.heap.size w wr

theorem NumAt.cells {w wr : World} {f : Nat → Bool} {m : Nat} (h : NumAt w f m wr) :
    wr.cell? ⟨w.heap.size + 1 + 1, 0, none⟩ = some (.int .u64 ((ofBits (fun i => f (64 + m + i)) (64 - m) : Nat) : Int)) ∧ wr.cell? ⟨w.heap.size + 1 + 1, 1, none⟩ = some (.int .u64 ((ofBits (fun i => f (0 + m + i)) (64 - m) : Nat) : Int)) ∧
    (∀ j, wr.frozen? ⟨w.heap.size + 1 + 1, j, none⟩ = false) ∧ (∀ j, j < 128 → wr.cell? ⟨w.heap.size, j, none⟩ = some (.bool (f j))) := by
  obtain ⟨h1, h2, h3, h4⟩ := h
  refine ⟨?_, ?_, fun j => ?_, fun j hj => ?_⟩
  · simp [World.cell?, h3]
  · simp [World.cell?, h3]
  · simp [World.frozen?, h3]
  · rw [cell_of_row wr _ j _ _ _ h1]; exact rowA_at _ j hj

theorem wrap_two {x : Nat} (b : Bool) (h : 2 * x + 1 < B) : (if b then IntKind.u64.wrap (IntKind.u64.wrap ((x : Int) * 2) + 1) else IntKind.u64.wrap ((x : Int) * 2)) = (((if b then 1 else 0) + 2 * x : Nat) : Int) := by
  have e1 : IntKind.u64.wrap ((x : Int) * 2) = ((2 * x : Nat) : Int) := by
    rw [show ((x : Int) * 2) = ((2 * x : Nat) : Int) by omega, wrap_cast, Nat.mod_eq_of_lt (by omega)]
  cases b
  · simp only [Bool.false_eq_true, if_false, Nat.zero_add]
    exact e1
  · simp only [if_true]
    rw [e1, show ((2 * x : Nat) : Int) + 1 = ((1 + 2 * x : Nat) : Int) by omega, wrap_cast, Nat.mod_eq_of_lt (by omega)]

/-- The world behind a round. -/
theorem NumAt.step {w wr w' : World} {f : Nat → Bool} {j : Nat} (hj : j < 64) (h : NumAt w f (j + 1) wr) (hw : ∀ k, k ≠ w.heap.size + 1 + 1 → w'.heap[k]? = wr.heap[k]?) (hb : Below w.heap.size wr w')
    (hn : w'.heap[w.heap.size + 1 + 1]? = some (.cells #[.int .u64 (((if f (64 + j) then 1 else 0) + 2 * ofBits (fun i => f (64 + (j + 1) + i)) (64 - (j + 1)) : Nat) : Int), .int .u64 (((if f (0 + j) then 1 else 0) + 2 * ofBits (fun i => f (0 + (j + 1) + i)) (64 - (j + 1)) : Nat) : Int)] 24 (0, 0))) :
    NumAt w f j w' := by
  obtain ⟨h1, ⟨c0, c1, h2⟩, h3, h4⟩ := h
  refine ⟨(hw _ (by omega)).trans h1, ⟨c0, c1, (hw _ (by omega)).trans h2⟩, ?_, h4.trans hb⟩
  rw [ofBits_shift f j 64 hj, ofBits_shift f j 0 hj]
  exact hn

theorem set_lo {w : World} {g : Nat} {a b : Value} {t : TypeId} (v : Value) (h : w.heap[g]? = some (.cells #[a, b] t (0, 0))) : (w.setCell ⟨g, 1, none⟩ v).heap[g]? = some (.cells #[a, v] t (0, 0)) :=
  heap_setCell_same w g 1 _ t v h
theorem set_hi {w : World} {g : Nat} {a b : Value} {t : TypeId} (v : Value) (h : w.heap[g]? = some (.cells #[a, b] t (0, 0))) : (w.setCell ⟨g, 0, none⟩ v).heap[g]? = some (.cells #[v, b] t (0, 0)) :=
  heap_setCell_same w g 0 _ t v h

theorem NumAt.fin {w wr w' : World} {f : Nat → Bool} {j X Y : Nat} {b1 b2 : Bool} {x y : Int} (hj : j < 64) (h : NumAt w f (j + 1) wr) (hX : X = ofBits (fun i => f (64 + (j + 1) + i)) (64 - (j + 1))) (hY : Y = ofBits (fun i => f (0 + (j + 1) + i)) (64 - (j + 1)))
    (hf1 : f j = b1) (hf2 : f (64 + j) = b2) (hw : ∀ k, k ≠ w.heap.size + 1 + 1 → w'.heap[k]? = wr.heap[k]?) (hb : Below w.heap.size wr w')
    (hn : w'.heap[w.heap.size + 1 + 1]? = some (.cells #[.int .u64 x, .int .u64 y] 24 (0, 0)))
    (hx : x = if b2 then IntKind.u64.wrap (IntKind.u64.wrap ((X : Int) * 2) + 1) else IntKind.u64.wrap ((X : Int) * 2)) (hy : y = if b1 then IntKind.u64.wrap (IntKind.u64.wrap ((Y : Int) * 2) + 1) else IntKind.u64.wrap ((Y : Int) * 2)) :
    Hid (NumAt w f j w') := by
  have e64 : 2 ^ (64 - (j + 1)) * 2 ≤ B := by
    rw [B_pow, ← Nat.pow_succ]
    exact Nat.pow_le_pow_right (by omega) (by omega)
  have lX : 2 * X + 1 < B := by have := ofBits_lt (fun i => f (64 + (j + 1) + i)) (64 - (j + 1)); rw [hX]; omega
  have lY : 2 * Y + 1 < B := by have := ofBits_lt (fun i => f (0 + (j + 1) + i)) (64 - (j + 1)); rw [hY]; omega
  rw [wrap_two b2 lX, ← hf2, hX] at hx
  rw [wrap_two b1 lY, ← hf1, hY] at hy
  refine NumAt.step hj h hw hb ?_
  rw [hn, hx, hy, Nat.zero_add j]

set_option maxRecDepth 100000 in
set_option maxHeartbeats 1600000 in
theorem refNum_any (f : Nat → Bool) (w : World) :
    Calls Tryd.prog 54 #[.agg (rowA f)] w (RetNum w (ofBits f 128)) := by
  go_enter Tryd.func54, Tryd.ntmps54
  go_wp2_with fail
  obtain ⟨A, hA⟩ : ∃ A, A = ((w.alloc (.cells (rowA f) 56)).alloc (.cells #[.int .u64 0, .int .u64 0] 24)).alloc (.cells #[.int .u64 0, .int .u64 0] 24) := ⟨_, rfl⟩
  have H0 : Hid (NumAt w f 64 A) := by
    show NumAt w f 64 A
    refine ⟨?_, ⟨.int .u64 0, .int .u64 0, ?_⟩, ?_, by rw [hA]; exact (by repeat (first | exact Below.refl _ _ | assumption | refine Below.drew ?_ | refine Below.alloc ?_ (by first | omega | (simp <;> omega)) _ | refine Below.setCell ?_ (by first | omega | (simp <;> omega)) _ | refine Below.trans ?_ (Below.mono (by assumption) (by first | omega | (simp <;> omega)))))⟩
    · rw [hA, Below.heap_alloc _ _ _ (by simp; omega), Below.heap_alloc _ _ _ (by simp), heap_new]
    · rw [hA, Below.heap_alloc _ _ _ (by simp)]
      have := heap_new (w.alloc (.cells (rowA f) 56)) (.cells #[.int .u64 0, .int .u64 0] 24)
      simp only [World.size_alloc] at this
      exact this
    · rw [hA]
      have := heap_new ((w.alloc (.cells (rowA f) 56)).alloc (.cells #[.int .u64 0, .int .u64 0] 24)) (.cells #[.int .u64 0, .int .u64 0] 24)
      simp only [World.size_alloc] at this
      rw [this]
      rfl
  rw [← hA]
  clear hA
  go_loopw [4] (fun i wr => ∃ m : Nat, m ≤ 64 ∧ i = .int .i64 ((m : Int) - 1) ∧ Hid (NumAt w f m wr)) (fun i _ => (intOf i + 1).toNat)
  case atStart => exact ⟨64, Nat.le_refl _, by go_num, H0⟩
  case round =>
    obtain ⟨m, hm, rfl, HK⟩ := hrel
    cases m with
    | zero =>
      obtain ⟨h1, ⟨c0, c1, h2⟩, h3, h4⟩ := HK.out
      obtain ⟨d0, d1, -, -⟩ := HK.out.cells
      have HB4 := Lib.hid h4
      have hb2 : wr.cell? ⟨w.heap.size + 1, 0, none⟩ = some c0 := by simp [World.cell?, h2]
      have hb3 : wr.cell? ⟨w.heap.size + 1, 1, none⟩ = some c1 := by simp [World.cell?, h2]
      have hz2 : ∀ j, wr.frozen? ⟨w.heap.size + 1, j, none⟩ = false := fun j => by simp [World.frozen?, h2]
      have HN : Hid (Value.agg #[.int .u64 ((ofBits (fun i => f (64 + 0 + i)) (64 - 0) : Nat) : Int), .int .u64 ((ofBits (fun i => f (0 + 0 + i)) (64 - 0) : Nat) : Int)] = numV (ofBits f 128)) := by
        show _ = _
        have e := ofBits_add f 64 64
        have l := ofBits_lt f 64
        have e1 : (fun i => f (0 + 0 + i)) = f := by funext i; simp
        have e2 : (fun i => f (64 + 0 + i)) = fun i => f (64 + i) := by funext i; simp
        rw [e1, e2, show (128 : Nat) = 64 + 64 from rfl, e, numV_mk _ _ (by rw [B_pow]; exact l), B_pow]
        congr 1
        rw [Nat.mul_comm, Nat.add_comm]
      generalize ofBits (fun i => f (64 + 0 + i)) (64 - 0) = X at d0 HN
      generalize ofBits (fun i => f (0 + 0 + i)) (64 - 0) = Y at d1 HN
      clear h1 h3 h4 H0 HK
      have H2 := Lib.hid h2
      clear h2
      go_wp2_with fail
      have hg := set_lo (.int .u64 (Y : Int)) (set_hi (.int .u64 (X : Int)) H2.out)
      exact bodyPost_ret (v := .agg #[.int .u64 (X : Int), .int .u64 (Y : Int)]) (results_cell_row Tryd.results54 _ _ (w.heap.size + 1) _ _ _ _ (by simp [go_sem]) hg Tryd.underlying24 rfl (by kernel_rfl)) rfl ⟨by rw [HN.out], (HB4.out.setCell (by simp) _).setCell (by simp) _⟩
    | succ j =>
      have hj : j < 64 := by omega
      have ej : (((j + 1 : Nat) : Int) - 1) = (j : Int) := by omega
      rw [ej]
      clear ej
      obtain ⟨d0, d1, fz, cr⟩ := HK.out.cells
      have r1 := cr j (by omega)
      have r2 := cr (64 + j) (by omega)
      clear cr
      obtain ⟨X, hX⟩ : ∃ X, X = ofBits (fun i => f (64 + (j + 1) + i)) (64 - (j + 1)) := ⟨_, rfl⟩
      obtain ⟨Y, hY⟩ : ∃ Y, Y = ofBits (fun i => f (0 + (j + 1) + i)) (64 - (j + 1)) := ⟨_, rfl⟩
      rw [← hX] at d0
      rw [← hY] at d1
      have HX := Lib.hid hX
      have HY := Lib.hid hY
      clear hX hY
      cases hf1 : f j <;> cases hf2 : f (64 + j)
      · rw [hf1] at r1
        rw [hf2] at r2
        have HF1 := Lib.hid hf1
        have HF2 := Lib.hid hf2
        have h3 := HK.out.2.2.1
        rw [← HX.out, ← HY.out] at h3
        have H3 := Lib.hid h3
        clear hf1 hf2 h3
        go_wp2_with fail
        go_roundw
        case rel =>
          refine ⟨j, by omega, rfl, ?_⟩
          refine NumAt.fin hj HK.out HX.out HY.out HF1.out HF2.out ?_ ?_ (set_hi _ (set_lo _ H3.out)) rfl rfl
          · intro k hk
            repeat rw [setCell_heap hk]
          · exact (by repeat (first | exact Below.refl _ _ | assumption | refine Below.drew ?_ | refine Below.alloc ?_ (by first | omega | (simp <;> omega)) _ | refine Below.setCell ?_ (by first | omega | (simp <;> omega)) _ | refine Below.trans ?_ (Below.mono (by assumption) (by first | omega | (simp <;> omega)))))
        case measure => simp [intOf]
      · rw [hf1] at r1
        rw [hf2] at r2
        have HF1 := Lib.hid hf1
        have HF2 := Lib.hid hf2
        have h3 := HK.out.2.2.1
        rw [← HX.out, ← HY.out] at h3
        have H3 := Lib.hid h3
        clear hf1 hf2 h3
        go_wp2_with fail
        go_roundw
        case rel =>
          refine ⟨j, by omega, rfl, ?_⟩
          refine NumAt.fin hj HK.out HX.out HY.out HF1.out HF2.out ?_ ?_ (set_hi _ (set_hi _ (set_lo _ H3.out))) rfl rfl
          · intro k hk
            repeat rw [setCell_heap hk]
          · exact (by repeat (first | exact Below.refl _ _ | assumption | refine Below.drew ?_ | refine Below.alloc ?_ (by first | omega | (simp <;> omega)) _ | refine Below.setCell ?_ (by first | omega | (simp <;> omega)) _ | refine Below.trans ?_ (Below.mono (by assumption) (by first | omega | (simp <;> omega)))))
        case measure => simp [intOf]
      · rw [hf1] at r1
        rw [hf2] at r2
        have HF1 := Lib.hid hf1
        have HF2 := Lib.hid hf2
        have h3 := HK.out.2.2.1
        rw [← HX.out, ← HY.out] at h3
        have H3 := Lib.hid h3
        clear hf1 hf2 h3
        go_wp2_with fail
        go_roundw
        case rel =>
          refine ⟨j, by omega, rfl, ?_⟩
          refine NumAt.fin hj HK.out HX.out HY.out HF1.out HF2.out ?_ ?_ (set_lo _ (set_hi _ (set_lo _ H3.out))) rfl rfl
          · intro k hk
            repeat rw [setCell_heap hk]
          · exact (by repeat (first | exact Below.refl _ _ | assumption | refine Below.drew ?_ | refine Below.alloc ?_ (by first | omega | (simp <;> omega)) _ | refine Below.setCell ?_ (by first | omega | (simp <;> omega)) _ | refine Below.trans ?_ (Below.mono (by assumption) (by first | omega | (simp <;> omega)))))
        case measure => simp [intOf]
      · rw [hf1] at r1
        rw [hf2] at r2
        have HF1 := Lib.hid hf1
        have HF2 := Lib.hid hf2
        have h3 := HK.out.2.2.1
        rw [← HX.out, ← HY.out] at h3
        have H3 := Lib.hid h3
        clear hf1 hf2 h3
        go_wp2_with fail
        go_roundw
        case rel =>
          refine ⟨j, by omega, rfl, ?_⟩
          refine NumAt.fin hj HK.out HX.out HY.out HF1.out HF2.out ?_ ?_ (set_hi _ (set_lo _ (set_hi _ (set_lo _ H3.out)))) rfl rfl
          · intro k hk
            repeat rw [setCell_heap hk]
          · exact (by repeat (first | exact Below.refl _ _ | assumption | refine Below.drew ?_ | refine Below.alloc ?_ (by first | omega | (simp <;> omega)) _ | refine Below.setCell ?_ (by first | omega | (simp <;> omega)) _ | refine Below.trans ?_ (Below.mono (by assumption) (by first | omega | (simp <;> omega)))))
        case measure => simp [intOf]

end Go.Proofs.YtfalhemeiengcaaDoor
