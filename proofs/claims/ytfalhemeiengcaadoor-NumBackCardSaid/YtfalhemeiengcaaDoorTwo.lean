/-
  What holds while both numbers' bits are taken: two loads, two calls, two new rows, two stores, in any order that is open.
-/
import Derived.Test.YtfalhemeiengcaaDoorInv
namespace Go.Proofs.YtfalhemeiengcaaDoor
open Go.RowKit

structure TwoI (A C : Value) (fa fb : Nat → Bool) (W0 : World) (L : Array Bool) (v5 v6 v8 v9 v10 v11 : Value) (w : World) : Prop where
  below : Below W0.heap.size W0 w
  h0 : did L 0 = true → v8 = A
  h1 : did L 1 = true → v9 = .agg (rowA fa)
  h2 : did L 2 = true → v10 = C
  h3 : did L 3 = true → v11 = .agg (rowA fb)
  h4 : did L 4 = true → ∃ g, v5 = .pointer (some ⟨g, 0, none⟩) ∧ W0.heap.size ≤ g ∧ w.heap[g]? = some (.cells (rowA (if did L 6 then fa else fun _ => false)) 56 (0, 0))
  h5 : did L 5 = true → ∃ g, v6 = .pointer (some ⟨g, 0, none⟩) ∧ W0.heap.size ≤ g ∧ w.heap[g]? = some (.cells (rowA (if did L 7 then fb else fun _ => false)) 56 (0, 0))
  ne : did L 4 = true → did L 5 = true → v5 ≠ v6
  l6 : did L 6 = true → did L 4 = true
  l7 : did L 7 = true → did L 5 = true

variable {A C : Value} {fa fb : Nat → Bool} {W0 : World} {L : Array Bool} {v5 v6 v8 v9 v10 v11 : Value} {w w' : World}

theorem TwoI.init (h : did L = fun _ => false) (hb : Below W0.heap.size W0 w) : TwoI A C fa fb W0 L v5 v6 v8 v9 v10 v11 w := by
  constructor <;> first | exact hb | (intro h1; rw [h] at h1; cases h1)

theorem lt_of_block {g : Nat} {o : Obj} (h : w.heap[g]? = some o) : g < w.heap.size := (Array.getElem?_eq_some_iff.1 h).1

/-- Behind a call the rows are there still. -/
theorem TwoI.below' (h : TwoI A C fa fb W0 L v5 v6 v8 v9 v10 v11 w) (hb : Below w.heap.size w w') : TwoI A C fa fb W0 L v5 v6 v8 v9 v10 v11 w' := by
  obtain ⟨b, h0, h1, h2, h3, h4, h5, hn, h6, h7⟩ := h
  refine ⟨b.trans (hb.mono b.size), h0, h1, h2, h3, fun hd => ?_, fun hd => ?_, hn, h6, h7⟩
  · obtain ⟨g, e1, e2, e3⟩ := h4 hd
    exact ⟨g, e1, e2, (hb.block g (lt_of_block e3)).trans e3⟩
  · obtain ⟨g, e1, e2, e3⟩ := h5 hd
    exact ⟨g, e1, e2, (hb.block g (lt_of_block e3)).trans e3⟩

theorem TwoI.s0 (hL : L.size = 8) (h : TwoI A C fa fb W0 L v5 v6 v8 v9 v10 v11 w) : TwoI A C fa fb W0 (L.setIfInBounds 0 true) v5 v6 A v9 v10 v11 w := by
  obtain ⟨b, h0, h1, h2, h3, h4, h5, hn, h6, h7⟩ := h
  constructor <;> (try simp only [did_set (show 0 < L.size by omega)]) <;> first | assumption | (intros; rfl) | (simp; done) | (simpa using ‹_›)
theorem TwoI.s1 (hL : L.size = 8) (h : TwoI A C fa fb W0 L v5 v6 v8 v9 v10 v11 w) : TwoI A C fa fb W0 (L.setIfInBounds 1 true) v5 v6 v8 (.agg (rowA fa)) v10 v11 w := by
  obtain ⟨b, h0, h1, h2, h3, h4, h5, hn, h6, h7⟩ := h
  constructor <;> (try simp only [did_set (show 1 < L.size by omega)]) <;> first | assumption | (intros; rfl) | (simp; done) | (simpa using ‹_›)
theorem TwoI.s2 (hL : L.size = 8) (h : TwoI A C fa fb W0 L v5 v6 v8 v9 v10 v11 w) : TwoI A C fa fb W0 (L.setIfInBounds 2 true) v5 v6 v8 v9 C v11 w := by
  obtain ⟨b, h0, h1, h2, h3, h4, h5, hn, h6, h7⟩ := h
  constructor <;> (try simp only [did_set (show 2 < L.size by omega)]) <;> first | assumption | (intros; rfl) | (simp; done) | (simpa using ‹_›)
theorem TwoI.s3 (hL : L.size = 8) (h : TwoI A C fa fb W0 L v5 v6 v8 v9 v10 v11 w) : TwoI A C fa fb W0 (L.setIfInBounds 3 true) v5 v6 v8 v9 v10 (.agg (rowA fb)) w := by
  obtain ⟨b, h0, h1, h2, h3, h4, h5, hn, h6, h7⟩ := h
  constructor <;> (try simp only [did_set (show 3 < L.size by omega)]) <;> first | assumption | (intros; rfl) | (simp; done) | (simpa using ‹_›)

theorem TwoI.s4 (hL : L.size = 8) (h4n : did L 4 = false) (h : TwoI A C fa fb W0 L v5 v6 v8 v9 v10 v11 w) :
    TwoI A C fa fb W0 (L.setIfInBounds 4 true) (.pointer (some ⟨w.heap.size, 0, none⟩)) v6 v8 v9 v10 v11 (w.alloc (.cells (rowA fun _ => false) 56)) := by
  have h' := h.below' ((Below.refl w.heap.size w).alloc (Nat.le_refl _) (.cells (rowA fun _ => false) 56))
  obtain ⟨b, h0, h1, h2, h3, h4, h5, hn, h6, h7⟩ := h'
  have n6 : did L 6 = false := by
    cases h : did L 6
    · rfl
    · rw [h6 h] at h4n; cases h4n
  have hsz := h.below.size
  constructor <;> try simp only [did_set (show 4 < L.size by omega)]
  · exact b
  · simpa using h0
  · simpa using h1
  · simpa using h2
  · simpa using h3
  · intro _
    refine ⟨w.heap.size, rfl, hsz, ?_⟩
    rw [heap_new, n6]
    rfl
  · simpa using h5
  · intro _ hd
    obtain ⟨g, e1, e2, e3⟩ := h.h5 (by simpa using hd)
    rw [e1]
    intro e
    simp at e
    have := lt_of_block e3
    omega
  · simp
  · simpa using h7

theorem TwoI.s5 (hL : L.size = 8) (h5n : did L 5 = false) (h : TwoI A C fa fb W0 L v5 v6 v8 v9 v10 v11 w) :
    TwoI A C fa fb W0 (L.setIfInBounds 5 true) v5 (.pointer (some ⟨w.heap.size, 0, none⟩)) v8 v9 v10 v11 (w.alloc (.cells (rowA fun _ => false) 56)) := by
  have h' := h.below' ((Below.refl w.heap.size w).alloc (Nat.le_refl _) (.cells (rowA fun _ => false) 56))
  obtain ⟨b, h0, h1, h2, h3, h4, h5, hn, h6, h7⟩ := h'
  have n7 : did L 7 = false := by
    cases h : did L 7
    · rfl
    · rw [h7 h] at h5n; cases h5n
  have hsz := h.below.size
  constructor <;> try simp only [did_set (show 5 < L.size by omega)]
  · exact b
  · simpa using h0
  · simpa using h1
  · simpa using h2
  · simpa using h3
  · simpa using h4
  · intro _
    refine ⟨w.heap.size, rfl, hsz, ?_⟩
    rw [heap_new, n7]
    rfl
  · intro hd _
    obtain ⟨g, e1, e2, e3⟩ := h.h4 (by simpa using hd)
    rw [e1]
    intro e
    simp at e
    have := lt_of_block e3
    omega
  · simpa using h6
  · simp

theorem TwoI.s6 (hL : L.size = 8) {g : Nat} (hd4 : did L 4 = true) (hg : v5 = .pointer (some ⟨g, 0, none⟩)) (h : TwoI A C fa fb W0 L v5 v6 v8 v9 v10 v11 w) :
    TwoI A C fa fb W0 (L.setIfInBounds 6 true) v5 v6 v8 v9 v10 v11 (w.setRow g (rowA fa)) := by
  obtain ⟨b, h0, h1, h2, h3, h4, h5, hn, h6, h7⟩ := h
  obtain ⟨g', e1, e2, e3⟩ := h4 hd4
  rw [hg] at e1
  simp at e1
  subst e1
  constructor <;> try simp only [did_set (show 6 < L.size by omega)]
  · exact below_setRow b e2 _
  · simpa using h0
  · simpa using h1
  · simpa using h2
  · simpa using h3
  · intro _
    exact ⟨g, hg, e2, by rw [setRow_heap _ _ _ _ _ _ e3]; simp⟩
  · intro hd
    have hd5 : did L 5 = true := by simpa using hd
    obtain ⟨k, k1, k2, k3⟩ := h5 hd5
    refine ⟨k, k1, k2, ?_⟩
    rw [setRow_other]
    · simpa using k3
    · rintro rfl
      exact hn hd4 hd5 (by rw [hg, k1])
  · simpa using hn
  · simpa using hd4
  · simpa using h7

theorem TwoI.s7 (hL : L.size = 8) {g : Nat} (hd5 : did L 5 = true) (hg : v6 = .pointer (some ⟨g, 0, none⟩)) (h : TwoI A C fa fb W0 L v5 v6 v8 v9 v10 v11 w) :
    TwoI A C fa fb W0 (L.setIfInBounds 7 true) v5 v6 v8 v9 v10 v11 (w.setRow g (rowA fb)) := by
  obtain ⟨b, h0, h1, h2, h3, h4, h5, hn, h6, h7⟩ := h
  obtain ⟨g', e1, e2, e3⟩ := h5 hd5
  rw [hg] at e1
  simp at e1
  subst e1
  constructor <;> try simp only [did_set (show 7 < L.size by omega)]
  · exact below_setRow b e2 _
  · simpa using h0
  · simpa using h1
  · simpa using h2
  · simpa using h3
  · intro hd
    have hd4 : did L 4 = true := by simpa using hd
    obtain ⟨k, k1, k2, k3⟩ := h4 hd4
    refine ⟨k, k1, k2, ?_⟩
    rw [setRow_other]
    · simpa using k3
    · rintro rfl
      exact hn hd4 hd5 (by rw [hg, k1])
  · intro _
    exact ⟨g, hg, e2, by rw [setRow_heap _ _ _ _ _ _ e3]; simp⟩
  · simpa using hn
  · simpa using h6
  · simpa using hd5

/-- What is there behind all. -/
theorem TwoI.all (hall : ∀ i, i < 8 → did L i = true) (h : TwoI A C fa fb W0 L v5 v6 v8 v9 v10 v11 w) :
    v8 = A ∧ v9 = .agg (rowA fa) ∧ v10 = C ∧ v11 = .agg (rowA fb) ∧ ∃ x y, x ≠ y ∧ v5 = .pointer (some ⟨x, 0, none⟩) ∧ v6 = .pointer (some ⟨y, 0, none⟩) ∧ W0.heap.size ≤ x ∧ W0.heap.size ≤ y ∧
      w.heap[x]? = some (.cells (rowA fa) 56 (0, 0)) ∧ w.heap[y]? = some (.cells (rowA fb) 56 (0, 0)) ∧ Below W0.heap.size W0 w := by
  obtain ⟨b, h0, h1, h2, h3, h4, h5, hn, h6, h7⟩ := h
  obtain ⟨x, x1, x2, x3⟩ := h4 (hall 4 (by omega))
  obtain ⟨y, y1, y2, y3⟩ := h5 (hall 5 (by omega))
  rw [hall 6 (by omega)] at x3
  rw [hall 7 (by omega)] at y3
  refine ⟨h0 (hall 0 (by omega)), h1 (hall 1 (by omega)), h2 (hall 2 (by omega)), h3 (hall 3 (by omega)), x, y, ?_, x1, y1, x2, y2, by simpa using x3, by simpa using y3, b⟩
  rintro rfl
  exact hn (hall 4 (by omega)) (hall 5 (by omega)) (by rw [x1, y1])

theorem store_wanted {P : Program} {ops : Array Oper} {o : Oper} {a : Act} {w : World} {K : Act → World → Prop} {Q : Exit → Act → World → Prop} {E : Prop} (hgd : o.guard = none) (h : Oper.wp P o a w K Q) :
    if Region.wanted o (yielded ops a.tmps) = true then Oper.wp P o a w K Q else E := by
  rw [if_pos (by simp [Region.wanted, hgd])]
  exact h

theorem BB_pow2 : B * B = 2 ^ 128 := by rw [B_pow, ← Nat.pow_add]

/-- What holds at a round's head of a loop that turns a row, bit by bit, by another one. -/
def OpAt (op : Bool → Bool → Bool) (fa fb : Nat → Bool) (w : World) (gx gy k : Nat) (wr : World) : Prop :=
  wr.heap[gx]? = some (.cells (rowA fun i => if i < k then op (fa i) (fb i) else fa i) 56 (0, 0)) ∧ wr.heap[gy]? = some (.cells (rowA fb) 56 (0, 0)) ∧
  (∃ c0 c1, wr.heap[w.heap.size + 1 + 1]? = some (.cells #[c0, c1] 24 (0, 0))) ∧ Below w.heap.size w wr

theorem OpAt.cells {op : Bool → Bool → Bool} {fa fb : Nat → Bool} {w wr : World} {gx gy k : Nat} (h : OpAt op fa fb w gx gy k wr) (hk : k < 128) :
    wr.cell? ⟨gx, k, none⟩ = some (.bool (fa k)) ∧ wr.cell? ⟨gy, k, none⟩ = some (.bool (fb k)) ∧ wr.frozen? ⟨gx, k, none⟩ = false := by
  obtain ⟨h1, h2, h3, h4⟩ := h
  refine ⟨?_, ?_, ?_⟩
  · rw [cell_of_row wr _ k _ _ _ h1, rowA_at _ k hk]
    simp
  · rw [cell_of_row wr _ k _ _ _ h2, rowA_at _ k hk]
  · simp [World.frozen?, h1]

theorem OpAt.step {op : Bool → Bool → Bool} {fa fb : Nat → Bool} {w wr : World} {gx gy k : Nat} {c : Bool} (h : OpAt op fa fb w gx gy k wr) (_hk : k < 128) (hn : gx ≠ gy) (hx : w.heap.size + 1 + 1 < gx) (hc : op (fa k) (fb k) = c) :
    Hid (OpAt op fa fb w gx gy (k + 1) (wr.setCell ⟨gx, k, none⟩ (.bool c))) := by
  obtain ⟨h1, h2, ⟨c0, c1, h3⟩, h4⟩ := h
  refine ⟨?_, ?_, ⟨c0, c1, ?_⟩, h4.setCell (by show w.heap.size ≤ gx; omega) _⟩
  · rw [setCell_row _ h1]
    congr 2
    apply rowA_congr
    intro i _
    simp only [put]
    by_cases e : i = k
    · subst e
      rw [if_pos rfl, if_pos (by omega), hc]
    · rw [if_neg e]
      by_cases e2 : i < k
      · rw [if_pos e2, if_pos (by omega)]
      · rw [if_neg e2, if_neg (by omega)]
  · rw [setCell_heap (fun e => hn e.symm)]
    exact h2
  · rw [setCell_heap (by omega)]
    exact h3

theorem OpAt.drewH {op : Bool → Bool → Bool} {fa fb : Nat → Bool} {w wr : World} {gx gy k : Nat} (h : OpAt op fa fb w gx gy k wr) : Hid (OpAt op fa fb w gx gy k wr.drew) := ⟨h.1, h.2.1, h.2.2.1, h.2.2.2.drew⟩

end Go.Proofs.YtfalhemeiengcaaDoor
