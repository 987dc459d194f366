/-
  Lemmas, joined: Two, RefCut, RefAdd.
-/
import Derived.Test.YtlnkflmnjkmhkaaJR16
import Derived.Outline
import Derived.BigQuiet
import Derived.Deep.QuietTactic
/-
  What holds while both numbers' bits are taken: two loads, two calls, two new rows, two stores, in any order that is open.
-/
namespace Go.Proofs.Ytlnkflmnjkmhkaa
open Go.RowKit

structure TwoI (A C : Value) (fa fb : Nat → Bool) (W0 : World) (L : Array Bool) (v5 v6 v8 v9 v10 v11 : Value) (w : World) : Prop where
  below : Below W0.heap.size W0 w
  h0 : did L 0 = true → v8 = A
  h1 : did L 1 = true → v9 = .agg (rowA fa)
  h2 : did L 2 = true → v10 = C
  h3 : did L 3 = true → v11 = .agg (rowA fb)
  h4 : did L 4 = true → ∃ g, v5 = .pointer (some ⟨g, 0, none⟩) ∧ W0.heap.size ≤ g ∧ w.heap[g]? = some (.cells (rowA (if did L 6 then fa else fun _ => false)) 120 (0, 0))
  h5 : did L 5 = true → ∃ g, v6 = .pointer (some ⟨g, 0, none⟩) ∧ W0.heap.size ≤ g ∧ w.heap[g]? = some (.cells (rowA (if did L 7 then fb else fun _ => false)) 120 (0, 0))
  ne : did L 4 = true → did L 5 = true → v5 ≠ v6
  l6 : did L 6 = true → did L 4 = true
  l7 : did L 7 = true → did L 5 = true

variable {A C : Value} {fa fb : Nat → Bool} {W0 : World} {L : Array Bool} {v5 v6 v8 v9 v10 v11 : Value} {w w' : World}

theorem TwoI.init (h : did L = fun _ => false) (hb : Below W0.heap.size W0 w) : TwoI A C fa fb W0 L v5 v6 v8 v9 v10 v11 w := by
  constructor <;> first | exact hb | (intro h1; rw [h] at h1; cases h1)

theorem lt_of_block {g : Nat} {o : Obj} (h : w.heap[g]? = some o) : g < w.heap.size := (Array.getElem?_eq_some_iff.1 h).1

/-- Behind a call the rows are there still. -/
theorem TwoI.below' (h : TwoI A C fa fb W0 L v5 v6 v8 v9 v10 v11 w) (hb : Below w.heap.size w w') : TwoI A C fa fb W0 L v5 v6 v8 v9 v10 v11 w' := by
  obtain ⟨b, h0, h1, h2, h3, h4, h5, hn, h6, h7⟩ := h
  refine ⟨b.trans (hb.mono b.size), h0, h1, h2, h3, fun hd => ?_, fun hd => ?_, hn, h6, h7⟩
  · obtain ⟨g, e1, e2, e3⟩ := h4 hd
    exact ⟨g, e1, e2, (hb.block g (lt_of_block e3)).trans e3⟩
  · obtain ⟨g, e1, e2, e3⟩ := h5 hd
    exact ⟨g, e1, e2, (hb.block g (lt_of_block e3)).trans e3⟩

theorem TwoI.s0 (hL : L.size = 8) (h : TwoI A C fa fb W0 L v5 v6 v8 v9 v10 v11 w) : TwoI A C fa fb W0 (L.setIfInBounds 0 true) v5 v6 A v9 v10 v11 w := by
  obtain ⟨b, h0, h1, h2, h3, h4, h5, hn, h6, h7⟩ := h
  constructor <;> (try simp only [did_set (show 0 < L.size by omega)]) <;> first | assumption | (intros; rfl) | (simp; done) | (simpa using ‹_›)
theorem TwoI.s1 (hL : L.size = 8) (h : TwoI A C fa fb W0 L v5 v6 v8 v9 v10 v11 w) : TwoI A C fa fb W0 (L.setIfInBounds 1 true) v5 v6 v8 (.agg (rowA fa)) v10 v11 w := by
  obtain ⟨b, h0, h1, h2, h3, h4, h5, hn, h6, h7⟩ := h
  constructor <;> (try simp only [did_set (show 1 < L.size by omega)]) <;> first | assumption | (intros; rfl) | (simp; done) | (simpa using ‹_›)
theorem TwoI.s2 (hL : L.size = 8) (h : TwoI A C fa fb W0 L v5 v6 v8 v9 v10 v11 w) : TwoI A C fa fb W0 (L.setIfInBounds 2 true) v5 v6 v8 v9 C v11 w := by
  obtain ⟨b, h0, h1, h2, h3, h4, h5, hn, h6, h7⟩ := h
  constructor <;> (try simp only [did_set (show 2 < L.size by omega)]) <;> first | assumption | (intros; rfl) | (simp; done) | (simpa using ‹_›)
theorem TwoI.s3 (hL : L.size = 8) (h : TwoI A C fa fb W0 L v5 v6 v8 v9 v10 v11 w) : TwoI A C fa fb W0 (L.setIfInBounds 3 true) v5 v6 v8 v9 v10 (.agg (rowA fb)) w := by
  obtain ⟨b, h0, h1, h2, h3, h4, h5, hn, h6, h7⟩ := h
  constructor <;> (try simp only [did_set (show 3 < L.size by omega)]) <;> first | assumption | (intros; rfl) | (simp; done) | (simpa using ‹_›)

theorem TwoI.s4 (hL : L.size = 8) (h4n : did L 4 = false) (h : TwoI A C fa fb W0 L v5 v6 v8 v9 v10 v11 w) :
    TwoI A C fa fb W0 (L.setIfInBounds 4 true) (.pointer (some ⟨w.heap.size, 0, none⟩)) v6 v8 v9 v10 v11 (w.alloc (.cells (rowA fun _ => false) 120)) := by
  have h' := h.below' ((Below.refl w.heap.size w).alloc (Nat.le_refl _) (.cells (rowA fun _ => false) 120))
  obtain ⟨b, h0, h1, h2, h3, h4, h5, hn, h6, h7⟩ := h'
  have n6 : did L 6 = false := by
    cases h : did L 6
    · rfl
    · rw [h6 h] at h4n; cases h4n
  have hsz := h.below.size
  constructor <;> try simp only [did_set (show 4 < L.size by omega)]
  · exact b
  · simpa using h0
  · simpa using h1
  · simpa using h2
  · simpa using h3
  · intro _
    refine ⟨w.heap.size, rfl, hsz, ?_⟩
    rw [heap_new, n6]
    rfl
  · simpa using h5
  · intro _ hd
    obtain ⟨g, e1, e2, e3⟩ := h.h5 (by simpa using hd)
    rw [e1]
    intro e
    simp at e
    have := lt_of_block e3
    omega
  · simp
  · simpa using h7

theorem TwoI.s5 (hL : L.size = 8) (h5n : did L 5 = false) (h : TwoI A C fa fb W0 L v5 v6 v8 v9 v10 v11 w) :
    TwoI A C fa fb W0 (L.setIfInBounds 5 true) v5 (.pointer (some ⟨w.heap.size, 0, none⟩)) v8 v9 v10 v11 (w.alloc (.cells (rowA fun _ => false) 120)) := by
  have h' := h.below' ((Below.refl w.heap.size w).alloc (Nat.le_refl _) (.cells (rowA fun _ => false) 120))
  obtain ⟨b, h0, h1, h2, h3, h4, h5, hn, h6, h7⟩ := h'
  have n7 : did L 7 = false := by
    cases h : did L 7
    · rfl
    · rw [h7 h] at h5n; cases h5n
  have hsz := h.below.size
  constructor <;> try simp only [did_set (show 5 < L.size by omega)]
  · exact b
  · simpa using h0
  · simpa using h1
  · simpa using h2
  · simpa using h3
  · simpa using h4
  · intro _
    refine ⟨w.heap.size, rfl, hsz, ?_⟩
    rw [heap_new, n7]
    rfl
  · intro hd _
    obtain ⟨g, e1, e2, e3⟩ := h.h4 (by simpa using hd)
    rw [e1]
    intro e
    simp at e
    have := lt_of_block e3
    omega
  · simpa using h6
  · simp

theorem TwoI.s6 (hL : L.size = 8) {g : Nat} (hd4 : did L 4 = true) (hg : v5 = .pointer (some ⟨g, 0, none⟩)) (h : TwoI A C fa fb W0 L v5 v6 v8 v9 v10 v11 w) :
    TwoI A C fa fb W0 (L.setIfInBounds 6 true) v5 v6 v8 v9 v10 v11 (w.setRow g (rowA fa)) := by
  obtain ⟨b, h0, h1, h2, h3, h4, h5, hn, h6, h7⟩ := h
  obtain ⟨g', e1, e2, e3⟩ := h4 hd4
  rw [hg] at e1
  simp at e1
  subst e1
  constructor <;> try simp only [did_set (show 6 < L.size by omega)]
  · exact below_setRow b e2 _
  · simpa using h0
  · simpa using h1
  · simpa using h2
  · simpa using h3
  · intro _
    exact ⟨g, hg, e2, by rw [setRow_heap _ _ _ _ _ _ e3]; simp⟩
  · intro hd
    have hd5 : did L 5 = true := by simpa using hd
    obtain ⟨k, k1, k2, k3⟩ := h5 hd5
    refine ⟨k, k1, k2, ?_⟩
    rw [setRow_other]
    · simpa using k3
    · rintro rfl
      exact hn hd4 hd5 (by rw [hg, k1])
  · simpa using hn
  · simpa using hd4
  · simpa using h7

theorem TwoI.s7 (hL : L.size = 8) {g : Nat} (hd5 : did L 5 = true) (hg : v6 = .pointer (some ⟨g, 0, none⟩)) (h : TwoI A C fa fb W0 L v5 v6 v8 v9 v10 v11 w) :
    TwoI A C fa fb W0 (L.setIfInBounds 7 true) v5 v6 v8 v9 v10 v11 (w.setRow g (rowA fb)) := by
  obtain ⟨b, h0, h1, h2, h3, h4, h5, hn, h6, h7⟩ := h
  obtain ⟨g', e1, e2, e3⟩ := h5 hd5
  rw [hg] at e1
  simp at e1
  subst e1
  constructor <;> try simp only [did_set (show 7 < L.size by omega)]
  · exact below_setRow b e2 _
  · simpa using h0
  · simpa using h1
  · simpa using h2
  · simpa using h3
  · intro hd
    have hd4 : did L 4 = true := by simpa using hd
    obtain ⟨k, k1, k2, k3⟩ := h4 hd4
    refine ⟨k, k1, k2, ?_⟩
    rw [setRow_other]
    · simpa using k3
    · rintro rfl
      exact hn hd4 hd5 (by rw [hg, k1])
  · intro _
    exact ⟨g, hg, e2, by rw [setRow_heap _ _ _ _ _ _ e3]; simp⟩
  · simpa using hn
  · simpa using h6
  · simpa using hd5

/-- What is there behind all. -/
theorem TwoI.all (hall : ∀ i, i < 8 → did L i = true) (h : TwoI A C fa fb W0 L v5 v6 v8 v9 v10 v11 w) :
    v8 = A ∧ v9 = .agg (rowA fa) ∧ v10 = C ∧ v11 = .agg (rowA fb) ∧ ∃ x y, x ≠ y ∧ v5 = .pointer (some ⟨x, 0, none⟩) ∧ v6 = .pointer (some ⟨y, 0, none⟩) ∧ W0.heap.size ≤ x ∧ W0.heap.size ≤ y ∧
      w.heap[x]? = some (.cells (rowA fa) 120 (0, 0)) ∧ w.heap[y]? = some (.cells (rowA fb) 120 (0, 0)) ∧ Below W0.heap.size W0 w := by
  obtain ⟨b, h0, h1, h2, h3, h4, h5, hn, h6, h7⟩ := h
  obtain ⟨x, x1, x2, x3⟩ := h4 (hall 4 (by omega))
  obtain ⟨y, y1, y2, y3⟩ := h5 (hall 5 (by omega))
  rw [hall 6 (by omega)] at x3
  rw [hall 7 (by omega)] at y3
  refine ⟨h0 (hall 0 (by omega)), h1 (hall 1 (by omega)), h2 (hall 2 (by omega)), h3 (hall 3 (by omega)), x, y, ?_, x1, y1, x2, y2, by simpa using x3, by simpa using y3, b⟩
  rintro rfl
  exact hn (hall 4 (by omega)) (hall 5 (by omega)) (by rw [x1, y1])

theorem store_wanted {P : Program} {ops : Array Oper} {o : Oper} {a : Act} {w : World} {K : Act → World → Prop} {Q : Exit → Act → World → Prop} {E : Prop} (hgd : o.guard = none) (h : Oper.wp P o a w K Q) :
    if Region.wanted o (yielded ops a.tmps) = true then Oper.wp P o a w K Q else E := by
  rw [if_pos (by simp [Region.wanted, hgd])]
  exact h

theorem BB_pow2 : B * B = 2 ^ 128 := by rw [B_pow, ← Nat.pow_add]

/-- What holds at a round's head of a loop that turns a row, bit by bit, by another one. -/
def OpAt (op : Bool → Bool → Bool) (fa fb : Nat → Bool) (w : World) (gx gy k : Nat) (wr : World) : Prop :=
  wr.heap[gx]? = some (.cells (rowA fun i => if i < k then op (fa i) (fb i) else fa i) 120 (0, 0)) ∧ wr.heap[gy]? = some (.cells (rowA fb) 120 (0, 0)) ∧
  (∃ c0 c1, wr.heap[w.heap.size + 1 + 1]? = some (.cells #[c0, c1] 41 (0, 0))) ∧ Below w.heap.size w wr

theorem OpAt.cells {op : Bool → Bool → Bool} {fa fb : Nat → Bool} {w wr : World} {gx gy k : Nat} (h : OpAt op fa fb w gx gy k wr) (hk : k < 128) :
    wr.cell? ⟨gx, k, none⟩ = some (.bool (fa k)) ∧ wr.cell? ⟨gy, k, none⟩ = some (.bool (fb k)) ∧ wr.frozen? ⟨gx, k, none⟩ = false := by
  obtain ⟨h1, h2, h3, h4⟩ := h
  refine ⟨?_, ?_, ?_⟩
  · rw [cell_of_row wr _ k _ _ _ h1, rowA_at _ k hk]
    simp
  · rw [cell_of_row wr _ k _ _ _ h2, rowA_at _ k hk]
  · simp [World.frozen?, h1]

theorem OpAt.step {op : Bool → Bool → Bool} {fa fb : Nat → Bool} {w wr : World} {gx gy k : Nat} {c : Bool} (h : OpAt op fa fb w gx gy k wr) (_hk : k < 128) (hn : gx ≠ gy) (hx : w.heap.size + 1 + 1 < gx) (hc : op (fa k) (fb k) = c) :
    Hid (OpAt op fa fb w gx gy (k + 1) (wr.setCell ⟨gx, k, none⟩ (.bool c))) := by
  obtain ⟨h1, h2, ⟨c0, c1, h3⟩, h4⟩ := h
  refine ⟨?_, ?_, ⟨c0, c1, ?_⟩, h4.setCell (by show w.heap.size ≤ gx; omega) _⟩
  · rw [setCell_row _ h1]
    congr 2
    apply rowA_congr
    intro i _
    simp only [put]
    by_cases e : i = k
    · subst e
      rw [if_pos rfl, if_pos (by omega), hc]
    · rw [if_neg e]
      by_cases e2 : i < k
      · rw [if_pos e2, if_pos (by omega)]
      · rw [if_neg e2, if_neg (by omega)]
  · rw [setCell_heap (fun e => hn e.symm)]
    exact h2
  · rw [setCell_heap (by omega)]
    exact h3

theorem OpAt.drewH {op : Bool → Bool → Bool} {fa fb : Nat → Bool} {w wr : World} {gx gy k : Nat} (h : OpAt op fa fb w gx gy k wr) : Hid (OpAt op fa fb w gx gy k wr.drew) := ⟨h.1, h.2.1, h.2.2.1, h.2.2.2.drew⟩

end Go.Proofs.Ytlnkflmnjkmhkaa

/-
  Contracts of quillonref01.Cut and Not.
-/
namespace Go.Proofs.Ytlnkflmnjkmhkaa
open Go.RowKit

/-- What holds at a round's head of a loop that turns a row, bit by bit. -/
def InAt (g f : Nat → Bool) (w : World) (gx N k : Nat) (wr : World) : Prop :=
  wr.heap[gx]? = some (.cells (rowA fun i => if i < k then g i else f i) 120 (0, 0)) ∧
  (∃ c0 c1, wr.heap[N]? = some (.cells #[c0, c1] 41 (0, 0))) ∧ Below w.heap.size w wr

theorem InAt.cells {g f : Nat → Bool} {w wr : World} {gx N k : Nat} (h : InAt g f w gx N k wr) (hk : k < 128) :
    wr.cell? ⟨gx, k, none⟩ = some (.bool (f k)) ∧ wr.frozen? ⟨gx, k, none⟩ = false := by
  obtain ⟨h1, h2, h3⟩ := h
  refine ⟨?_, ?_⟩
  · rw [cell_of_row wr _ k _ _ _ h1, rowA_at _ k hk]
    simp
  · simp [World.frozen?, h1]

theorem InAt.step {g f : Nat → Bool} {w wr : World} {gx N k : Nat} {c : Bool} (h : InAt g f w gx N k wr) (hn : N ≠ gx) (hx : w.heap.size ≤ gx) (hc : g k = c) :
    Hid (InAt g f w gx N (k + 1) (wr.setCell ⟨gx, k, none⟩ (.bool c))) := by
  obtain ⟨h1, ⟨c0, c1, h2⟩, h3⟩ := h
  refine ⟨?_, ⟨c0, c1, ?_⟩, h3.setCell (by show w.heap.size ≤ gx; omega) _⟩
  · rw [setCell_row _ h1]
    congr 2
    apply rowA_congr
    intro i _
    simp only [put]
    by_cases e : i = k
    · subst e
      rw [if_pos rfl, if_pos (by omega), hc]
    · rw [if_neg e]
      by_cases e2 : i < k
      · rw [if_pos e2, if_pos (by omega)]
      · rw [if_neg e2, if_neg (by omega)]
  · rw [setCell_heap hn]
    exact h2

theorem InAt.done {g f : Nat → Bool} {w wr : World} {gx N : Nat} (h : InAt g f w gx N 128 wr) :
    wr.heap[gx]? = some (.cells (rowA g) 120 (0, 0)) ∧ (∃ c0 c1, wr.heap[N]? = some (.cells #[c0, c1] 41 (0, 0))) ∧ Below w.heap.size w wr := by
  obtain ⟨h1, h2, h3⟩ := h
  refine ⟨?_, h2, h3⟩
  rw [h1]
  congr 2
  exact rowA_congr fun i hi => by rw [if_pos hi]

theorem sh_bit (k : Int) (i : Nat) (hi : i < 128) : decide (i < sh k) = decide ((i : Int) < k) := by
  unfold sh
  simp only [decide_eq_decide]
  omega

set_option maxRecDepth 100000 in
set_option maxHeartbeats 4000000 in
theorem refCut_any (n : Nat) (c : Int) (hn : n < B * B) (w : World) :
    Calls Try.prog 31 #[numV n, .int .i64 c] w (RetNum w (n % 2 ^ sh c)) := by
  obtain ⟨f, hf⟩ : ∃ f, f = n.testBit := ⟨_, rfl⟩
  have HA : Hid (∀ W, Calls Try.prog 88 #[numV n] W fun e w' => e = .returned (.agg (rowA f)) ∧ Below W.heap.size W w') := fun W => by rw [hf]; exact refBits_any n hn W
  have HF := Lib.hid hf
  obtain ⟨h1, l1, e1, -, -⟩ := numV_parts n
  rw [e1] at HA ⊢
  clear e1 hf
  go_enter Try.func31, Try.ntmps31
  go_wp2_with fail
  refine (HA.out _).mono ?_
  rintro e w1 ⟨rfl, hb1⟩
  obtain ⟨W0, hW0⟩ : ∃ W0, W0 = (w.alloc (.cells #[.int .u64 (h1 : Int), .int .u64 (l1 : Int)] 41)).alloc (.cells #[.int .u64 0, .int .u64 0] 41) := ⟨_, rfl⟩
  have hbW : Below w.heap.size w W0 := by rw [hW0]; exact (by repeat (first | exact Below.refl _ _ | assumption | refine Below.drew ?_ | refine Below.alloc ?_ (by first | omega | (simp <;> omega)) _ | refine Below.setCell ?_ (by first | omega | (simp <;> omega)) _ | refine Below.trans ?_ (Below.mono (by assumption) (by first | omega | (simp <;> omega)))))
  have z1 : w.heap.size + 1 < W0.heap.size := by rw [hW0]; simp
  have cr : W0.heap[w.heap.size + 1]? = some (.cells #[.int .u64 0, .int .u64 0] 41 (0, 0)) := by
    rw [hW0]
    have := heap_new (w.alloc (.cells #[.int .u64 (h1 : Int), .int .u64 (l1 : Int)] 41)) (.cells #[.int .u64 0, .int .u64 0] 41)
    simp only [World.size_alloc] at this
    exact this
  rw [← hW0] at hb1
  have hs1 := hb1.size
  have cr1 := (hb1.block _ z1).trans cr
  have HB1 : Hid (Below w.heap.size w w1) := hbW.trans (hb1.mono hbW.size)
  clear hb1 hW0 hbW cr
  have hZ : Try.zeroCells120 = rowA fun _ => false := by kernel_rfl
  have hnew := heap_new w1 (.cells Try.zeroCells120 120)
  have HZS : Hid ((Try.zeroCells120).size = 128) := by show _ = _; rw [hZ]; exact rowA_size _
  have hset := setRow_heap _ _ _ (rowA f) _ _ hnew
  have HNW := Lib.hid hnew
  have HST := Lib.hid hset
  clear hZ hnew hset
  go_wp2_with (refine wpList_store_row rfl 120 (.tmp 5) (.tmp 8) rfl w1.heap.size (rowA f) rfl rfl 120 _ HNW.out (by rw [rowA_size]; exact infoRow) (by rw [rowA_size]; exact HZS.out) (rowA_one _) ?_)
  obtain ⟨g, hg⟩ : ∃ g : Nat → Bool, g = fun i => f i && decide ((i : Int) < c) := ⟨_, rfl⟩
  have HG : Hid (∀ i, g i = (f i && decide ((i : Int) < c))) := fun i => by rw [hg]
  have H0 : Hid (InAt g f w w1.heap.size (w.heap.size + 1) 0 ((w1.alloc (.cells Try.zeroCells120 120)).setRow w1.heap.size (rowA f))) :=
    ⟨by rw [HST.out]; congr 2, ⟨_, _, by rw [setRow_other _ _ _ _ (by omega), Below.heap_alloc _ _ _ (by omega)]; exact cr1⟩, below_setRow (HB1.out.alloc (by omega) _) (by omega) _⟩
  have HE : Hid (ofBits g 128 = n % 2 ^ sh c) := by
    show _ = _
    refine ofBits_eq (by rw [← BB_pow2]; exact Nat.lt_of_le_of_lt (Nat.mod_le _ _) hn) fun i hi => ?_
    rw [HG.out, HF.out, Nat.testBit_mod_two_pow, sh_bit c i hi, Bool.and_comm]
  clear hg HST HNW HZS HB1 cr1 HA
  generalize (w1.alloc (.cells Try.zeroCells120 120)).setRow w1.heap.size (rowA f) = W2 at *
  go_loopw [6] (fun i wr => ∃ k : Nat, k ≤ 128 ∧ i = .int .i64 k ∧ Hid (InAt g f w w1.heap.size (w.heap.size + 1) k wr)) (fun i _ => 128 - (intOf i).toNat)
  case atStart => exact ⟨0, Nat.zero_le _, rfl, H0⟩
  case round =>
    obtain ⟨k, hk, rfl, HK⟩ := hrel
    by_cases hlt : k < 128
    · obtain ⟨r1, r2⟩ := HK.out.cells hlt
      by_cases hc : (k : Int) < c <;> cases hf1 : f k
      all_goals
        rw [hf1] at r1
        have HGK : Hid (g k = (f k && decide ((k : Int) < c))) := HG.out k
        have HF1 := Lib.hid hf1
        have HC := Lib.hid hc
        clear hf1
        go_wp2_with fail
        go_roundw
        case rel => exact ⟨k + 1, by omega, by go_num, HK.out.step (by omega) (by omega) (by rw [HGK.out, HF1.out]; simp [HC.out])⟩
        case measure => simp [intOf]; omega
    · obtain rfl : k = 128 := by omega
      obtain ⟨r1, ⟨x0, x1, r3⟩, r4⟩ := HK.out.done
      have HNUM : Hid (∀ W, Calls Try.prog 89 #[.agg (rowA g)] W (RetNum W (n % 2 ^ sh c))) := fun W => by rw [← HE.out]; exact refNum_any _ W
      have HB4 := Lib.hid r4
      have H3 := Lib.hid r3
      clear r3 r4 HE HK H0 HG
      have hRR : (rowA g).size = 128 := rowA_size _
      generalize rowA g = RR at r1 HNUM hRR
      go_wp2_with (first
        | (refine wpList_load_row rfl 120 (.tmp 5) rfl w1.heap.size rfl 120 RR (0, 0) _ r1 Try.underlying120 rfl (by rw [hRR]; exact infoRow) ?_))
      clear r1
      obtain ⟨h3, l3, e3, -, -⟩ := numV_parts (n % 2 ^ sh c)
      have HE3 := Lib.hid e3
      have HNUM2 : Hid (∀ W, Calls Try.prog 89 #[.agg RR] W fun e w' => e = .returned (.agg #[.int .u64 (h3 : Int), .int .u64 (l3 : Int)]) ∧ Below W.heap.size W w') := fun W => by rw [← HE3.out]; exact HNUM.out W
      clear HNUM e3
      refine (HNUM2.out _).mono ?_
      rintro e w3 ⟨rfl, hb1⟩
      have hr := (hb1.block (w.heap.size + 1) (lt_of_block H3.out)).trans H3.out
      have q0 : w3.cell? ⟨w.heap.size + 1, 0, none⟩ = some x0 := by simp [World.cell?, hr]
      have q1 : w3.cell? ⟨w.heap.size + 1, 1, none⟩ = some x1 := by simp [World.cell?, hr]
      have qz : ∀ j, w3.frozen? ⟨w.heap.size + 1, j, none⟩ = false := fun j => by simp [World.frozen?, hr]
      have HR := Lib.hid hr
      have HB5 : Hid (Below w.heap.size w w3) := HB4.out.trans (hb1.mono HB4.out.size)
      clear hr hb1
      go_wp2_with fail
      have hg := set_lo (.int .u64 (l3 : Int)) (set_hi (.int .u64 (h3 : Int)) HR.out)
      exact bodyPost_ret (v := .agg #[.int .u64 (h3 : Int), .int .u64 (l3 : Int)]) (results_cell_row Try.results31 _ _ (w.heap.size + 1) _ _ _ _ (by simp [go_sem]) hg Try.underlying41 rfl (by kernel_rfl)) rfl ⟨by rw [HE3.out], (HB5.out.setCell (by show w.heap.size ≤ w.heap.size + 1; omega) _).setCell (by show w.heap.size ≤ w.heap.size + 1; omega) _⟩

end Go.Proofs.Ytlnkflmnjkmhkaa

/-
  Contract of quillonref01.Add: bit by bit.
-/
namespace Go.Proofs.Ytlnkflmnjkmhkaa
open Go.RowKit

/-- What is carried into a bit. -/
def carryB (fa fb : Nat → Bool) : Nat → Bool
  | 0 => false
  | k + 1 => fa k && fb k || fa k && carryB fa fb k || fb k && carryB fa fb k
def sumB (fa fb : Nat → Bool) (k : Nat) : Bool := (fa k != fb k) != carryB fa fb k
theorem sum_bits (fa fb : Nat → Bool) : ∀ k, ofBits fa k + ofBits fb k = ofBits (sumB fa fb) k + (if carryB fa fb k then 2 ^ k else 0)
  | 0 => by simp [ofBits, carryB]
  | k + 1 => by
    have ih := sum_bits fa fb k
    rw [ofBits, ofBits, ofBits, Nat.pow_succ]
    have e : sumB fa fb k = ((fa k != fb k) != carryB fa fb k) := rfl
    have e2 : carryB fa fb (k + 1) = (fa k && fb k || fa k && carryB fa fb k || fb k && carryB fa fb k) := rfl
    rw [e, e2]
    cases h1 : fa k <;> cases h2 : fb k <;> cases h3 : carryB fa fb k <;> simp [h3] at ih ⊢ <;> omega
theorem sum_num {a b : Nat} (ha : a < 2 ^ 128) (hb : b < 2 ^ 128) : ofBits (sumB a.testBit b.testBit) 128 = (a + b) % 2 ^ 128 := by
  have h := sum_bits a.testBit b.testBit 128
  rw [ofBits_eq ha fun _ _ => rfl, ofBits_eq hb fun _ _ => rfl] at h
  have l := ofBits_lt (sumB a.testBit b.testBit) 128
  rw [h]
  split
  · rw [Nat.add_mod_right, Nat.mod_eq_of_lt l]
  · rw [Nat.add_zero, Nat.mod_eq_of_lt l]

/-- What holds at a round's head of a loop that turns a row by another one, g of each bit. -/
def OpG (g fa fb : Nat → Bool) (w : World) (gx gy k : Nat) (wr : World) : Prop :=
  wr.heap[gx]? = some (.cells (rowA fun i => if i < k then g i else fa i) 120 (0, 0)) ∧ wr.heap[gy]? = some (.cells (rowA fb) 120 (0, 0)) ∧
  (∃ c0 c1, wr.heap[w.heap.size + 1 + 1]? = some (.cells #[c0, c1] 41 (0, 0))) ∧ Below w.heap.size w wr
theorem OpG.cells {g fa fb : Nat → Bool} {w wr : World} {gx gy k : Nat} (h : OpG g fa fb w gx gy k wr) (hk : k < 128) :
    wr.cell? ⟨gx, k, none⟩ = some (.bool (fa k)) ∧ wr.cell? ⟨gy, k, none⟩ = some (.bool (fb k)) ∧ wr.frozen? ⟨gx, k, none⟩ = false := by
  obtain ⟨h1, h2, h3, h4⟩ := h
  refine ⟨?_, ?_, ?_⟩
  · rw [cell_of_row wr _ k _ _ _ h1, rowA_at _ k hk]
    simp
  · rw [cell_of_row wr _ k _ _ _ h2, rowA_at _ k hk]
  · simp [World.frozen?, h1]
theorem OpG.step {g fa fb : Nat → Bool} {w wr w1 : World} {gx gy k : Nat} {c : Bool} (h : OpG g fa fb w gx gy k wr) (hw : w1.heap = wr.heap) (hb : Below w.heap.size w w1) (hn : gx ≠ gy) (hx : w.heap.size + 1 + 1 < gx) (hc : g k = c) :
    Hid (OpG g fa fb w gx gy (k + 1) (w1.setCell ⟨gx, k, none⟩ (.bool c))) := by
  obtain ⟨h1, h2, ⟨c0, c1, h3⟩, h4⟩ := h
  refine ⟨?_, ?_, ⟨c0, c1, ?_⟩, hb.setCell (by show w.heap.size ≤ gx; omega) _⟩
  · rw [setCell_row _ (by rw [hw]; exact h1)]
    congr 2
    apply rowA_congr
    intro i _
    simp only [put]
    by_cases e : i = k
    · subst e
      rw [if_pos rfl, if_pos (by omega), hc]
    · rw [if_neg e]
      by_cases e2 : i < k
      · rw [if_pos e2, if_pos (by omega)]
      · rw [if_neg e2, if_neg (by omega)]
  · rw [setCell_heap (fun e => hn e.symm), hw]
    exact h2
  · rw [setCell_heap (by omega), hw]
    exact h3

set_option maxRecDepth 100000 in
set_option maxHeartbeats 4000000 in
theorem refAdd_any (a b : Nat) (c : Int) (ha : a < B * B) (hb : b < B * B) (w : World) :
    Calls Try.prog 56 #[numV a, numV b, .int .i64 c] w (RetNum w ((a + b) % 2 ^ 128 % 2 ^ sh c)) := by
  obtain ⟨fa, hfa⟩ : ∃ fa, fa = a.testBit := ⟨_, rfl⟩
  obtain ⟨fb, hfb⟩ : ∃ fb, fb = b.testBit := ⟨_, rfl⟩
  have HA : Hid (∀ W, Calls Try.prog 88 #[numV a] W fun e w' => e = .returned (.agg (rowA fa)) ∧ Below W.heap.size W w') := fun W => by rw [hfa]; exact refBits_any a ha W
  have HB : Hid (∀ W, Calls Try.prog 88 #[numV b] W fun e w' => e = .returned (.agg (rowA fb)) ∧ Below W.heap.size W w') := fun W => by rw [hfb]; exact refBits_any b hb W
  have HFA := Lib.hid hfa
  have HFB := Lib.hid hfb
  obtain ⟨h1, l1, e1, -, -⟩ := numV_parts a
  obtain ⟨h2, l2, e2, -, -⟩ := numV_parts b
  rw [e1] at HA ⊢
  rw [e2] at HB ⊢
  clear e1 e2 hfa hfb
  go_enter Try.func56, Try.ntmps56
  go_wp2_with fail
  obtain ⟨W0, hW0⟩ : ∃ W0, W0 = ((w.alloc (.cells #[.int .u64 (h1 : Int), .int .u64 (l1 : Int)] 41)).alloc (.cells #[.int .u64 (h2 : Int), .int .u64 (l2 : Int)] 41)).alloc (.cells #[.int .u64 0, .int .u64 0] 41) := ⟨_, rfl⟩
  have hbW : Below w.heap.size w W0 := by rw [hW0]; exact (by repeat (first | exact Below.refl _ _ | assumption | refine Below.drew ?_ | refine Below.alloc ?_ (by first | omega | (simp <;> omega)) _ | refine Below.setCell ?_ (by first | omega | (simp <;> omega)) _ | refine Below.trans ?_ (Below.mono (by assumption) (by first | omega | (simp <;> omega)))))
  have z0 : w.heap.size < W0.heap.size := by rw [hW0]; simp <;> omega
  have z1 : w.heap.size + 1 < W0.heap.size := by rw [hW0]; simp
  have c0 : W0.cell? ⟨w.heap.size, 0, none⟩ = some (.int .u64 (h1 : Int)) := by rw [hW0]; simp [go_sem]
  have c1 : W0.cell? ⟨w.heap.size, 1, none⟩ = some (.int .u64 (l1 : Int)) := by rw [hW0]; simp [go_sem]
  have c2 : W0.cell? ⟨w.heap.size + 1, 0, none⟩ = some (.int .u64 (h2 : Int)) := by rw [hW0]; simp [go_sem]
  have c3 : W0.cell? ⟨w.heap.size + 1, 1, none⟩ = some (.int .u64 (l2 : Int)) := by rw [hW0]; simp [go_sem]
  have z2 : w.heap.size + 1 + 1 < W0.heap.size := by rw [hW0]; simp
  have cr : W0.heap[w.heap.size + 1 + 1]? = some (.cells #[.int .u64 0, .int .u64 0] 41 (0, 0)) := by
    rw [hW0]
    have := heap_new ((w.alloc (.cells #[.int .u64 (h1 : Int), .int .u64 (l1 : Int)] 41)).alloc (.cells #[.int .u64 (h2 : Int), .int .u64 (l2 : Int)] 41)) (.cells #[.int .u64 0, .int .u64 0] 41)
    simp only [World.size_alloc] at this
    exact this
  rw [← hW0]
  have HBW0 := Lib.hid hbW
  clear hW0 hbW
  refine wp_region_inv (by kernel_rfl) (fun L a' w' => ∃ v5 v6 v8 v9 v10 v11 : Value, a' = ⟨#[.agg #[.int .u64 (h1 : Int), .int .u64 (l1 : Int)], .agg #[.int .u64 (h2 : Int), .int .u64 (l2 : Int)], .int .i64 c, .pointer (some ⟨w.heap.size, 0, none⟩), .pointer (some ⟨w.heap.size + 1, 0, none⟩), undef, .pointer (some ⟨w.heap.size + 1 + 1, 0, none⟩), v5, v6, undef, undef, undef, v8, v9, v10, v11, undef, undef, undef, undef, undef, undef, undef, undef, undef, undef, undef, undef, undef, undef, undef, undef, undef, undef, undef, undef, undef, undef, undef, undef, undef, undef, undef, undef, undef, undef, undef, undef, undef, undef, undef, undef, undef, undef, undef, undef, undef, undef, undef, undef], []⟩ ∧ TwoI (.agg #[.int .u64 (h1 : Int), .int .u64 (l1 : Int)]) (.agg #[.int .u64 (h2 : Int), .int .u64 (l2 : Int)]) fa fb W0 L v5 v6 v8 v9 v10 v11 w') ?_ ?_ ?_ ?_
  · exact ⟨_, _, _, _, _, _, rfl, TwoI.init (by funext i; unfold did; match i with | 0 => rfl | 1 => rfl | 2 => rfl | 3 => rfl | 4 => rfl | 5 => rfl | 6 => rfl | 7 => rfl | i + 8 => rfl) (below_drewN (Below.refl _ _) 1)⟩
  · rintro L a' w' i hL hi hnd hdep ⟨v5, v6, v8, v9, v10, v11, rfl, hI⟩
    have hL8 : L.size = 8 := hL
    have HI := Lib.hid hI
    have d0 : w'.cell? ⟨w.heap.size, 0, none⟩ = some (.int .u64 (h1 : Int)) := (hI.below.cell (p := ⟨w.heap.size, 0, none⟩) z0).trans c0
    have d1 : w'.cell? ⟨w.heap.size, 1, none⟩ = some (.int .u64 (l1 : Int)) := (hI.below.cell (p := ⟨w.heap.size, 1, none⟩) z0).trans c1
    have d2 : w'.cell? ⟨w.heap.size + 1, 0, none⟩ = some (.int .u64 (h2 : Int)) := (hI.below.cell (p := ⟨w.heap.size + 1, 0, none⟩) z1).trans c2
    have d3 : w'.cell? ⟨w.heap.size + 1, 1, none⟩ = some (.int .u64 (l2 : Int)) := (hI.below.cell (p := ⟨w.heap.size + 1, 1, none⟩) z1).trans c3
    have hZ : Try.zeroCells120 = rowA fun _ => false := by kernel_rfl
    have HZ := Lib.hid hZ
    clear hZ hI
    match i, hi with
    | 0, _ =>
      clear hdep hnd
      refine wpOp_step rfl (fun K' hK => ?_)
      go_simp
      exact hK _ _ ⟨_, _, _, _, _, _, rfl, HI.out.s0 hL8⟩
    | 1, _ =>
      have q := HI.out.h0 (hdep _ rfl ⟨0, .data⟩ (by simp) (by kernel_rfl))
      subst q
      clear hdep hnd
      refine wpOp_step rfl (fun K' hK => ?_)
      go_simp
      refine (HA.out _).mono ?_
      rintro e w1 ⟨rfl, hb1⟩
      exact hK _ _ ⟨_, _, _, _, _, _, rfl, (HI.out.below' hb1).s1 hL8⟩
    | 2, _ =>
      clear hdep hnd
      refine wpOp_step rfl (fun K' hK => ?_)
      go_simp
      exact hK _ _ ⟨_, _, _, _, _, _, rfl, HI.out.s2 hL8⟩
    | 3, _ =>
      have q := HI.out.h2 (hdep _ rfl ⟨2, .data⟩ (by simp) (by kernel_rfl))
      subst q
      clear hdep hnd
      refine wpOp_step rfl (fun K' hK => ?_)
      go_simp
      refine (HB.out _).mono ?_
      rintro e w1 ⟨rfl, hb1⟩
      exact hK _ _ ⟨_, _, _, _, _, _, rfl, (HI.out.below' hb1).s3 hL8⟩
    | 4, _ =>
      have hnd' := Lib.hid hnd
      clear hdep hnd
      refine wpOp_step rfl (fun K' hK => ?_)
      go_simp
      rw [HZ.out]
      exact hK _ _ ⟨_, _, _, _, _, _, rfl, HI.out.s4 hL8 hnd'.out⟩
    | 5, _ =>
      have hnd' := Lib.hid hnd
      clear hdep hnd
      refine wpOp_step rfl (fun K' hK => ?_)
      go_simp
      rw [HZ.out]
      exact hK _ _ ⟨_, _, _, _, _, _, rfl, HI.out.s5 hL8 hnd'.out⟩
    | 6, _ =>
      have q4 := hdep _ rfl ⟨4, .data⟩ (by simp) (by kernel_rfl)
      have q := HI.out.h1 (hdep _ rfl ⟨1, .data⟩ (by simp) (by kernel_rfl))
      subst q
      obtain ⟨g, e1, -, e3⟩ := HI.out.h4 q4
      subst e1
      clear hdep hnd
      refine wpOp_step rfl (fun K' hK => ?_)
      refine store_wanted rfl ?_
      exact wp_store_row 120 (.tmp 7) (.tmp 13) rfl g (rowA fa) rfl rfl 120 _ e3 (by rw [rowA_size]; exact infoRow) (by rw [rowA_size, rowA_size]) (rowA_one _) (hK _ _ ⟨_, _, _, _, _, _, rfl, HI.out.s6 hL8 q4 rfl⟩)
    | 7, _ =>
      have q5 := hdep _ rfl ⟨5, .data⟩ (by simp) (by kernel_rfl)
      have q := HI.out.h3 (hdep _ rfl ⟨3, .data⟩ (by simp) (by kernel_rfl))
      subst q
      obtain ⟨g, e1, -, e3⟩ := HI.out.h5 q5
      subst e1
      clear hdep hnd
      refine wpOp_step rfl (fun K' hK => ?_)
      refine store_wanted rfl ?_
      exact wp_store_row 120 (.tmp 8) (.tmp 15) rfl g (rowA fb) rfl rfl 120 _ e3 (by rw [rowA_size]; exact infoRow) (by rw [rowA_size, rowA_size]) (rowA_one _) (hK _ _ ⟨_, _, _, _, _, _, rfl, HI.out.s7 hL8 q5 rfl⟩)
  · intro i o ho e he
    match i, ho with
    | 0, ho => cases ho; simp at he
    | 1, ho => cases ho; simp at he; subst he; show (0 : Nat) < 1; omega
    | 2, ho => cases ho; simp at he
    | 3, ho => cases ho; simp at he; rcases he with rfl | rfl <;> (simp <;> omega)
    | 4, ho => cases ho; simp at he
    | 5, ho => cases ho; simp at he
    | 6, ho => cases ho; simp at he; rcases he with rfl | rfl | rfl | rfl | rfl | rfl | rfl | rfl | rfl <;> (simp <;> omega)
    | 7, ho => cases ho; simp at he; rcases he with rfl | rfl | rfl | rfl | rfl | rfl | rfl | rfl | rfl | rfl <;> (simp <;> omega)
  rintro L a' w' hall ⟨v5, v6, v8, v9, v10, v11, rfl, hI⟩
  obtain ⟨rfl, rfl, rfl, rfl, gx, gy, hgn, rfl, rfl, hgx, hgy, hrx, hry, hbw⟩ := hI.all hall
  have HRX := Lib.hid hrx
  have HRY := Lib.hid hry
  have HBW := Lib.hid hbw
  have HGN := Lib.hid hgn
  clear hI hall hrx hry hbw hgn HA HB c0 c1 c2 c3
  have crx := (HBW.out.block (w.heap.size + 1 + 1) z2).trans cr
  have hgx0 : w.heap.size + 1 + 1 < gx := by omega
  have H0 : Hid (OpG (sumB fa fb) fa fb w gx gy 0 w') := ⟨by rw [HRX.out]; congr 2, HRY.out, ⟨_, _, crx⟩, HBW0.out.trans (HBW.out.mono HBW0.out.size)⟩
  clear crx cr HBW HBW0 z0 z1 z2 HRX HRY
  go_wp2_with fail
  go_loopw [9, 10] (fun cy i wr => ∃ k : Nat, k ≤ 128 ∧ i = .int .i64 k ∧ cy = .bool (carryB fa fb k) ∧ Hid (OpG (sumB fa fb) fa fb w gx gy k wr)) (fun _ i _ => 128 - (intOf i).toNat)
  case atStart => exact ⟨0, Nat.zero_le _, rfl, rfl, H0⟩
  case round =>
    obtain ⟨k, hk, rfl, rfl, HK⟩ := hrel
    by_cases hlt : k < 128
    · obtain ⟨r1, r2, r3⟩ := HK.out.cells hlt
      have HSU : Hid (sumB fa fb k = ((fa k != fb k) != carryB fa fb k)) := rfl
      have HCA : Hid (carryB fa fb (k + 1) = (fa k && fb k || fa k && carryB fa fb k || fb k && carryB fa fb k)) := rfl
      generalize hc0 : carryB fa fb k = cc at HSU HCA ⊢
      clear hc0
      cases hf1 : fa k <;> cases hf2 : fb k <;> cases cc
      all_goals
        rw [hf1] at r1 HSU HCA
        rw [hf2] at r2 HSU HCA
        clear hf1 hf2
        go_wp2_with fail
        go_quiet (fail)
        go_wp2_with fail
        go_roundw
        case rel => exact ⟨k + 1, by omega, by go_num, by rw [HCA.out]; rfl, HK.out.step rfl (below_drewN HK.out.2.2.2 _) HGN.out (by omega) (by rw [HSU.out]; rfl)⟩
        case measure => simp [intOf]; omega
    · obtain rfl : k = 128 := by omega
      obtain ⟨r1, r2, ⟨x0, x1, r3⟩, r4⟩ := HK.out
      have e : (rowA fun i => if i < 128 then sumB fa fb i else fa i) = rowA (sumB fa fb) := rowA_congr fun i hi => by rw [if_pos hi]
      rw [e] at r1
      have HE : Hid (ofBits (sumB fa fb) 128 = (a + b) % 2 ^ 128) := by
        show _ = _
        rw [HFA.out, HFB.out]
        exact sum_num (by rw [← BB_pow2]; exact ha) (by rw [← BB_pow2]; exact hb)
      have HNUM : Hid (∀ W, Calls Try.prog 89 #[.agg (rowA (sumB fa fb))] W (RetNum W ((a + b) % 2 ^ 128))) := fun W => by rw [← HE.out]; exact refNum_any _ W
      have HB4 := Lib.hid r4
      have H3 := Lib.hid r3
      clear e r2 r3 r4 HE HK H0 HGN
      have hRR : (rowA (sumB fa fb)).size = 128 := rowA_size _
      generalize (rowA (sumB fa fb)) = RR at r1 HNUM hRR
      generalize carryB fa fb 128 = cc
      go_wp2_with (first
        | (refine wpList_load_row rfl 120 (.tmp 7) rfl gx rfl 120 RR (0, 0) _ r1 Try.underlying120 rfl (by rw [hRR]; exact infoRow) ?_))
      clear r1
      obtain ⟨h3, l3, e3, -, -⟩ := numV_parts ((a + b) % 2 ^ 128)
      obtain ⟨h4, l4, e4, -, -⟩ := numV_parts ((a + b) % 2 ^ 128 % 2 ^ sh c)
      have HE3 := Lib.hid e3
      have HE4 := Lib.hid e4
      have HNUM2 : Hid (∀ W, Calls Try.prog 89 #[.agg RR] W fun e w' => e = .returned (.agg #[.int .u64 (h3 : Int), .int .u64 (l3 : Int)]) ∧ Below W.heap.size W w') := fun W => by rw [← HE3.out]; exact HNUM.out W
      have hcut : ∀ W, Calls Try.prog 31 #[numV ((a + b) % 2 ^ 128), .int .i64 c] W (RetNum W ((a + b) % 2 ^ 128 % 2 ^ sh c)) := fun W => refCut_any _ c (by rw [BB_pow2]; exact Nat.mod_lt _ (Nat.two_pow_pos _)) W
      unfold RetNum at hcut
      rw [HE3.out, HE4.out] at hcut
      have HCUT2 := Lib.hid hcut
      clear HNUM e3 e4 hcut HE3
      refine (HNUM2.out _).mono ?_
      rintro e w1 ⟨rfl, hb1⟩
      have HB6 : Hid (Below w.heap.size w w1) := HB4.out.trans (hb1.mono HB4.out.size)
      have H6 := Lib.hid ((hb1.block (w.heap.size + 1 + 1) (lt_of_block H3.out)).trans H3.out)
      clear hb1 H3 HB4
      go_wp2_with fail
      refine (HCUT2.out _).mono ?_
      rintro e w4 ⟨rfl, hb1⟩
      have hr := (hb1.block (w.heap.size + 1 + 1) (lt_of_block H6.out)).trans H6.out
      have q0 : w4.cell? ⟨w.heap.size + 1 + 1, 0, none⟩ = some x0 := by simp [World.cell?, hr]
      have q1 : w4.cell? ⟨w.heap.size + 1 + 1, 1, none⟩ = some x1 := by simp [World.cell?, hr]
      have qz : ∀ j, w4.frozen? ⟨w.heap.size + 1 + 1, j, none⟩ = false := fun j => by simp [World.frozen?, hr]
      have HR := Lib.hid hr
      have HB1 : Hid (Below w.heap.size w w4) := HB6.out.trans (hb1.mono HB6.out.size)
      clear hr hb1
      go_wp2_with fail
      have hg := set_lo (.int .u64 (l4 : Int)) (set_hi (.int .u64 (h4 : Int)) HR.out)
      exact bodyPost_ret (v := .agg #[.int .u64 (h4 : Int), .int .u64 (l4 : Int)]) (results_cell_row Try.results56 _ _ (w.heap.size + 1 + 1) _ _ _ _ (by simp [go_sem]) hg Try.underlying41 rfl (by kernel_rfl)) rfl ⟨by rw [HE4.out], (HB1.out.setCell (by show w.heap.size ≤ w.heap.size + 1 + 1; omega) _).setCell (by show w.heap.size ≤ w.heap.size + 1 + 1; omega) _⟩

end Go.Proofs.Ytlnkflmnjkmhkaa
