/-
  symhead.Take of the packet of the page's examples.
-/
import Derived.Test.YtlnkflmnjkmhkaaJS12

namespace Go.Proofs.Ytlnkflmnjkmhkaa
open Go.RowKit Go.Maps
variable {W W' : World}

theorem cell_of_list {W : World} {g j : Nat} {L : List Value} {t : TypeId} {v : Value} (h : W.heap[g]? = some (.cells L.toArray t (0, 0))) (hj : L[j]? = some v) : W.cell? ⟨g, j, none⟩ = some v := by simp [World.cell?, h, hj]

theorem KIn.below {w w' : World} {bs : List Int} {X : Value} (h : KIn w bs X) (hb : Below w.heap.size w w') : KIn w' bs X := by
  obtain ⟨r0, rc0, ca, v0, f0, fc0, q0, qc0, zc, e0, a, zz, e, hrc, hR, hRv, hV, hfc, hF0, hqc, hF1, hF2, hE⟩ := h
  have c : ∀ {b j x}, w.cell? ⟨b, j, none⟩ = some x → w'.cell? ⟨b, j, none⟩ = some x := fun {b j x} hx => (hb.cell (p := ⟨b, j, none⟩) (cell_there hx).1).trans hx
  exact ⟨r0, rc0, ca, v0, f0, fc0, q0, qc0, zc, e0, a, zz, e, hrc, c hR, hRv.below hb, hV.below hb, hfc, c hF0, hqc, c hF1, hF2.below hb, hE.below hb⟩

/-- How Take of that packet ends. -/
def TakeKR (w : World) (b : Nat) (O : Nat → Prop) (s : BS) (bs : List Int) (e : Ending) (w' : World) : Prop := ∃ (O' : Nat → Prop) (r vb vc lo q fc ne ce : Nat) (mb fa : Addr) (pe : Option Addr),
  e = .returned (.tuple #[.agg #[.int .i64 1, .int .i64 3, .slice (some ⟨r, 0, none⟩) 0 0, .slice (some ⟨vb, 0, none⟩) 1 vc, .slice (some ⟨lo, 0, none⟩) 1 1, .slice (some mb) 0 0, .int .i64 0, .int .i64 0, .slice pe ne ce, .int .i64 0], .int .i64 0]) ∧
  Sto w' b O' s ∧ Ext O O' w w' ∧ 1 ≤ vc ∧ w'.cell? ⟨vb, 0, none⟩ = some (.int .i64 1) ∧ w'.cell? ⟨lo, 0, none⟩ = some (.slice (some ⟨q, 0, none⟩) 1 1) ∧ w'.cell? ⟨q, 0, none⟩ = some (.slice (some fa) 8 fc) ∧ IVecX w' O' (.slice (some fa) 8 fc) bs ∧ ¬ O' vb ∧ ¬ O' lo ∧ ¬ O' q ∧ w.heap.size ≤ vb ∧ w.heap.size ≤ lo ∧ w.heap.size ≤ q ∧ w.heap.size ≤ fa.block

set_option maxRecDepth 100000 in
set_option maxHeartbeats 4000000 in
theorem take_known (b : Nat) (O : Nat → Prop) (s : BS) (hfull : s.full = false) (bs : List Int) (hbs : bs.length = 8) (gh gw : Nat) (X : Value) (w : World) (hs : Sto w b O s) (hh : HeadAt w gh gw) (hX : KIn w bs X) :
    Calls Try.prog 61 #[.agg #[.slice (some ⟨gh, 0, none⟩) 1 1, .slice none 0 0, .slice none 0 0, .slice none 0 0, .slice none 0 0, .slice none 0 0, .slice none 0 0, .slice none 0 0, .slice none 0 0, .slice none 0 0, .slice none 0 0, .slice none 0 0], .pointer (some ⟨b, 0, none⟩), X, .int .i64 0] w (TakeKR w b O s bs) := by
  have hX' := hX
  obtain ⟨r0, rc0, ca0, v0, f0, fc0, q0, qc0, zc, e0, a0, zz, rfl, -⟩ := hX'
  obtain ⟨A, hA⟩ : ∃ A, A = (((w.alloc (.cells #[.slice (some ⟨gh, 0, none⟩) 1 1, .slice none 0 0, .slice none 0 0, .slice none 0 0, .slice none 0 0, .slice none 0 0, .slice none 0 0, .slice none 0 0, .slice none 0 0, .slice none 0 0, .slice none 0 0, .slice none 0 0] 94)).alloc (.cells #[.int .i64 1, .int .i64 3, .slice (some ⟨r0, 0, none⟩) 1 rc0, .slice (some ⟨v0, 0, none⟩) 1 1, .slice (some ⟨f0, 0, none⟩) 1 fc0, .slice none 0 0, .int .i64 0, .int .i64 0, .slice (some ⟨e0, 0, none⟩) 9 9, .int .i64 0] 97)).alloc (.cells #[.int .i64 0, .int .i64 0, .slice none 0 0, .slice none 0 0, .slice none 0 0, .slice none 0 0, .int .i64 0, .int .i64 0, .slice none 0 0, .int .i64 0] 97)) := ⟨_, rfl⟩
  have hbA : Below w.heap.size w A := by rw [hA]; exact (by repeat (first | exact Below.refl _ _ | assumption | refine Below.drew ?_ | refine Below.alloc ?_ (by first | omega | (simp <;> omega)) _ | refine Below.setCell ?_ (by first | omega | (simp <;> omega)) _ | refine Below.trans ?_ (Below.mono (by assumption) (by first | omega | (simp <;> omega)))))
  have h0 : A.heap[w.heap.size]? = some (.cells #[.slice (some ⟨gh, 0, none⟩) 1 1, .slice none 0 0, .slice none 0 0, .slice none 0 0, .slice none 0 0, .slice none 0 0, .slice none 0 0, .slice none 0 0, .slice none 0 0, .slice none 0 0, .slice none 0 0, .slice none 0 0] 94 (0, 0)) := by rw [hA, Below.heap_alloc _ _ _ (by simp; omega), Below.heap_alloc _ _ _ (by simp), heap_new]
  have h1 : A.heap[w.heap.size + 1]? = some (.cells #[.int .i64 1, .int .i64 3, .slice (some ⟨r0, 0, none⟩) 1 rc0, .slice (some ⟨v0, 0, none⟩) 1 1, .slice (some ⟨f0, 0, none⟩) 1 fc0, .slice none 0 0, .int .i64 0, .int .i64 0, .slice (some ⟨e0, 0, none⟩) 9 9, .int .i64 0] 97 (0, 0)) := by
    rw [hA, Below.heap_alloc _ _ _ (by simp)]
    have := heap_new (w.alloc (.cells #[.slice (some ⟨gh, 0, none⟩) 1 1, .slice none 0 0, .slice none 0 0, .slice none 0 0, .slice none 0 0, .slice none 0 0, .slice none 0 0, .slice none 0 0, .slice none 0 0, .slice none 0 0, .slice none 0 0, .slice none 0 0] 94)) (.cells #[.int .i64 1, .int .i64 3, .slice (some ⟨r0, 0, none⟩) 1 rc0, .slice (some ⟨v0, 0, none⟩) 1 1, .slice (some ⟨f0, 0, none⟩) 1 fc0, .slice none 0 0, .int .i64 0, .int .i64 0, .slice (some ⟨e0, 0, none⟩) 9 9, .int .i64 0] 97)
    simp only [World.size_alloc] at this
    exact this
  have h2 : A.heap[w.heap.size + 1 + 1]? = some (.cells #[.int .i64 0, .int .i64 0, .slice none 0 0, .slice none 0 0, .slice none 0 0, .slice none 0 0, .int .i64 0, .int .i64 0, .slice none 0 0, .int .i64 0] 97 (0, 0)) := by
    rw [hA]
    have := heap_new ((w.alloc (.cells #[.slice (some ⟨gh, 0, none⟩) 1 1, .slice none 0 0, .slice none 0 0, .slice none 0 0, .slice none 0 0, .slice none 0 0, .slice none 0 0, .slice none 0 0, .slice none 0 0, .slice none 0 0, .slice none 0 0, .slice none 0 0] 94)).alloc (.cells #[.int .i64 1, .int .i64 3, .slice (some ⟨r0, 0, none⟩) 1 rc0, .slice (some ⟨v0, 0, none⟩) 1 1, .slice (some ⟨f0, 0, none⟩) 1 fc0, .slice none 0 0, .int .i64 0, .int .i64 0, .slice (some ⟨e0, 0, none⟩) 9 9, .int .i64 0] 97)) (.cells #[.int .i64 0, .int .i64 0, .slice none 0 0, .slice none 0 0, .slice none 0 0, .slice none 0 0, .int .i64 0, .int .i64 0, .slice none 0 0, .int .i64 0] 97)
    simp only [World.size_alloc] at this
    exact this
  have HOWN := Lib.hid (own_known A bs hbs _ (hX.below hbA))
  have HS := Lib.hid hs
  have HHD : Hid (∀ W, Below w.heap.size w W → HeadAt W gh gw) := fun W hW => hh.below hW
  have HBA := Lib.hid hbA
  have H0 := Lib.hid h0
  have H1 := Lib.hid h1
  have H2 := Lib.hid h2
  have x0 : A.cell? ⟨w.heap.size + 1, 0, none⟩ = some (.int .i64 1) := by simp [World.cell?, H1.out]
  have x1 : A.cell? ⟨w.heap.size + 1, 1, none⟩ = some (.int .i64 3) := by simp [World.cell?, H1.out]
  have x2 : A.cell? ⟨w.heap.size + 1, 2, none⟩ = some (.slice (some ⟨r0, 0, none⟩) 1 rc0) := by simp [World.cell?, H1.out]
  have x3 : A.cell? ⟨w.heap.size + 1, 3, none⟩ = some (.slice (some ⟨v0, 0, none⟩) 1 1) := by simp [World.cell?, H1.out]
  have x4 : A.cell? ⟨w.heap.size + 1, 4, none⟩ = some (.slice (some ⟨f0, 0, none⟩) 1 fc0) := by simp [World.cell?, H1.out]
  have x5 : A.cell? ⟨w.heap.size + 1, 5, none⟩ = some (.slice none 0 0) := by simp [World.cell?, H1.out]
  have x6 : A.cell? ⟨w.heap.size + 1, 6, none⟩ = some (.int .i64 0) := by simp [World.cell?, H1.out]
  have x7 : A.cell? ⟨w.heap.size + 1, 7, none⟩ = some (.int .i64 0) := by simp [World.cell?, H1.out]
  have x8 : A.cell? ⟨w.heap.size + 1, 8, none⟩ = some (.slice (some ⟨e0, 0, none⟩) 9 9) := by simp [World.cell?, H1.out]
  have x9 : A.cell? ⟨w.heap.size + 1, 9, none⟩ = some (.int .i64 0) := by simp [World.cell?, H1.out]
  clear hX hs hh hbA h0 h1 h2
  go_enter Try.func61, Try.ntmps61
  go_wp2_with fail
  rw [← hA]
  clear hA
  refine HOWN.out.mono ?_
  rintro e w1 ⟨r, ca, vb, vc, lo, a, mb, pe, ne, ce, Y, rfl, hY, hb1⟩
  obtain ⟨rfl, hr, hrc, hrv, hab, hvc, hvb, hvlo, hvbc, hvbf, q, hloq, hloc, hqc, hqf⟩ := hY
  have g0 := (hb1.block _ (lt_of_block H0.out)).trans H0.out
  have g1 := (hb1.block _ (lt_of_block H1.out)).trans H1.out
  have g2 := (hb1.block _ (lt_of_block H2.out)).trans H2.out
  have hA2 := lt_of_block H2.out
  have hw12 := lt_of_block g2
  have HB1 : Hid (Below w.heap.size w w1) := HBA.out.trans (hb1.mono HBA.out.size)
  have y0 : w1.cell? ⟨w.heap.size + 1, 0, none⟩ = some (.int .i64 1) := by simp [World.cell?, g1]
  have y1 : w1.cell? ⟨w.heap.size + 1, 1, none⟩ = some (.int .i64 3) := by simp [World.cell?, g1]
  have y2 : w1.cell? ⟨w.heap.size + 1, 2, none⟩ = some (.slice (some ⟨r0, 0, none⟩) 1 rc0) := by simp [World.cell?, g1]
  have y3 : w1.cell? ⟨w.heap.size + 1, 3, none⟩ = some (.slice (some ⟨v0, 0, none⟩) 1 1) := by simp [World.cell?, g1]
  have y4 : w1.cell? ⟨w.heap.size + 1, 4, none⟩ = some (.slice (some ⟨f0, 0, none⟩) 1 fc0) := by simp [World.cell?, g1]
  have y5 : w1.cell? ⟨w.heap.size + 1, 5, none⟩ = some (.slice none 0 0) := by simp [World.cell?, g1]
  have y6 : w1.cell? ⟨w.heap.size + 1, 6, none⟩ = some (.int .i64 0) := by simp [World.cell?, g1]
  have y7 : w1.cell? ⟨w.heap.size + 1, 7, none⟩ = some (.int .i64 0) := by simp [World.cell?, g1]
  have y8 : w1.cell? ⟨w.heap.size + 1, 8, none⟩ = some (.slice (some ⟨e0, 0, none⟩) 9 9) := by simp [World.cell?, g1]
  have y9 : w1.cell? ⟨w.heap.size + 1, 9, none⟩ = some (.int .i64 0) := by simp [World.cell?, g1]
  have p0 : w1.cell? ⟨w.heap.size, 0, none⟩ = some (.slice (some ⟨gh, 0, none⟩) 1 1) := by simp [World.cell?, g0]
  have p1 : w1.cell? ⟨w.heap.size, 1, none⟩ = some (.slice none 0 0) := by simp [World.cell?, g0]
  have p2 : w1.cell? ⟨w.heap.size, 2, none⟩ = some (.slice none 0 0) := by simp [World.cell?, g0]
  have p3 : w1.cell? ⟨w.heap.size, 3, none⟩ = some (.slice none 0 0) := by simp [World.cell?, g0]
  have p4 : w1.cell? ⟨w.heap.size, 4, none⟩ = some (.slice none 0 0) := by simp [World.cell?, g0]
  have p5 : w1.cell? ⟨w.heap.size, 5, none⟩ = some (.slice none 0 0) := by simp [World.cell?, g0]
  have p6 : w1.cell? ⟨w.heap.size, 6, none⟩ = some (.slice none 0 0) := by simp [World.cell?, g0]
  have p7 : w1.cell? ⟨w.heap.size, 7, none⟩ = some (.slice none 0 0) := by simp [World.cell?, g0]
  have p8 : w1.cell? ⟨w.heap.size, 8, none⟩ = some (.slice none 0 0) := by simp [World.cell?, g0]
  have p9 : w1.cell? ⟨w.heap.size, 9, none⟩ = some (.slice none 0 0) := by simp [World.cell?, g0]
  have p10 : w1.cell? ⟨w.heap.size, 10, none⟩ = some (.slice none 0 0) := by simp [World.cell?, g0]
  have p11 : w1.cell? ⟨w.heap.size, 11, none⟩ = some (.slice none 0 0) := by simp [World.cell?, g0]
  have fy : ∀ j, w1.frozen? ⟨w.heap.size + 1, j, none⟩ = false := fun j => by simp [World.frozen?, g1]
  clear hb1 HOWN H0 H1 H2 x0 x1 x2 x3 x4 x5 x6 x7 x8 x9
  go_wp2_with fail
  obtain ⟨B0, hB⟩ : ∃ B0, B0 = ((((((((((w1.setCell ⟨w.heap.size + 1, 0, none⟩ (.int .i64 1)).setCell ⟨w.heap.size + 1, 1, none⟩ (.int .i64 3)).setCell ⟨w.heap.size + 1, 2, none⟩ (.slice (some ⟨r, 0, none⟩) 1 1)).setCell ⟨w.heap.size + 1, 3, none⟩ (.slice (some ⟨vb, 0, none⟩) 1 vc)).setCell ⟨w.heap.size + 1, 4, none⟩ (.slice (some ⟨lo, 0, none⟩) 1 1)).setCell ⟨w.heap.size + 1, 5, none⟩ (.slice (some mb) 0 0)).setCell ⟨w.heap.size + 1, 6, none⟩ (.int .i64 0)).setCell ⟨w.heap.size + 1, 7, none⟩ (.int .i64 0)).setCell ⟨w.heap.size + 1, 8, none⟩ (.slice pe ne ce)).setCell ⟨w.heap.size + 1, 9, none⟩ (.int .i64 0)) := ⟨_, rfl⟩
  have hkeep : ∀ k, k ≠ w.heap.size + 1 → B0.heap[k]? = w1.heap[k]? := fun k hk => by rw [hB, setCell_heap hk, setCell_heap hk, setCell_heap hk, setCell_heap hk, setCell_heap hk, setCell_heap hk, setCell_heap hk, setCell_heap hk, setCell_heap hk, setCell_heap hk]
  have t0 : ∀ W : World, W.heap[w.heap.size + 1]? = some (.cells #[.int .i64 1, .int .i64 3, .slice (some ⟨r0, 0, none⟩) 1 rc0, .slice (some ⟨v0, 0, none⟩) 1 1, .slice (some ⟨f0, 0, none⟩) 1 fc0, .slice none 0 0, .int .i64 0, .int .i64 0, .slice (some ⟨e0, 0, none⟩) 9 9, .int .i64 0] 97 (0, 0)) → (W.setCell ⟨w.heap.size + 1, 0, none⟩ (.int .i64 1)).heap[w.heap.size + 1]? = some (.cells #[.int .i64 1, .int .i64 3, .slice (some ⟨r0, 0, none⟩) 1 rc0, .slice (some ⟨v0, 0, none⟩) 1 1, .slice (some ⟨f0, 0, none⟩) 1 fc0, .slice none 0 0, .int .i64 0, .int .i64 0, .slice (some ⟨e0, 0, none⟩) 9 9, .int .i64 0] 97 (0, 0)) := fun W h => heap_setCell_same W _ 0 _ _ _ h
  have t1 : ∀ W : World, W.heap[w.heap.size + 1]? = some (.cells #[.int .i64 1, .int .i64 3, .slice (some ⟨r0, 0, none⟩) 1 rc0, .slice (some ⟨v0, 0, none⟩) 1 1, .slice (some ⟨f0, 0, none⟩) 1 fc0, .slice none 0 0, .int .i64 0, .int .i64 0, .slice (some ⟨e0, 0, none⟩) 9 9, .int .i64 0] 97 (0, 0)) → (W.setCell ⟨w.heap.size + 1, 1, none⟩ (.int .i64 3)).heap[w.heap.size + 1]? = some (.cells #[.int .i64 1, .int .i64 3, .slice (some ⟨r0, 0, none⟩) 1 rc0, .slice (some ⟨v0, 0, none⟩) 1 1, .slice (some ⟨f0, 0, none⟩) 1 fc0, .slice none 0 0, .int .i64 0, .int .i64 0, .slice (some ⟨e0, 0, none⟩) 9 9, .int .i64 0] 97 (0, 0)) := fun W h => heap_setCell_same W _ 1 _ _ _ h
  have t2 : ∀ W : World, W.heap[w.heap.size + 1]? = some (.cells #[.int .i64 1, .int .i64 3, .slice (some ⟨r0, 0, none⟩) 1 rc0, .slice (some ⟨v0, 0, none⟩) 1 1, .slice (some ⟨f0, 0, none⟩) 1 fc0, .slice none 0 0, .int .i64 0, .int .i64 0, .slice (some ⟨e0, 0, none⟩) 9 9, .int .i64 0] 97 (0, 0)) → (W.setCell ⟨w.heap.size + 1, 2, none⟩ (.slice (some ⟨r, 0, none⟩) 1 1)).heap[w.heap.size + 1]? = some (.cells #[.int .i64 1, .int .i64 3, .slice (some ⟨r, 0, none⟩) 1 1, .slice (some ⟨v0, 0, none⟩) 1 1, .slice (some ⟨f0, 0, none⟩) 1 fc0, .slice none 0 0, .int .i64 0, .int .i64 0, .slice (some ⟨e0, 0, none⟩) 9 9, .int .i64 0] 97 (0, 0)) := fun W h => heap_setCell_same W _ 2 _ _ _ h
  have t3 : ∀ W : World, W.heap[w.heap.size + 1]? = some (.cells #[.int .i64 1, .int .i64 3, .slice (some ⟨r, 0, none⟩) 1 1, .slice (some ⟨v0, 0, none⟩) 1 1, .slice (some ⟨f0, 0, none⟩) 1 fc0, .slice none 0 0, .int .i64 0, .int .i64 0, .slice (some ⟨e0, 0, none⟩) 9 9, .int .i64 0] 97 (0, 0)) → (W.setCell ⟨w.heap.size + 1, 3, none⟩ (.slice (some ⟨vb, 0, none⟩) 1 vc)).heap[w.heap.size + 1]? = some (.cells #[.int .i64 1, .int .i64 3, .slice (some ⟨r, 0, none⟩) 1 1, .slice (some ⟨vb, 0, none⟩) 1 vc, .slice (some ⟨f0, 0, none⟩) 1 fc0, .slice none 0 0, .int .i64 0, .int .i64 0, .slice (some ⟨e0, 0, none⟩) 9 9, .int .i64 0] 97 (0, 0)) := fun W h => heap_setCell_same W _ 3 _ _ _ h
  have t4 : ∀ W : World, W.heap[w.heap.size + 1]? = some (.cells #[.int .i64 1, .int .i64 3, .slice (some ⟨r, 0, none⟩) 1 1, .slice (some ⟨vb, 0, none⟩) 1 vc, .slice (some ⟨f0, 0, none⟩) 1 fc0, .slice none 0 0, .int .i64 0, .int .i64 0, .slice (some ⟨e0, 0, none⟩) 9 9, .int .i64 0] 97 (0, 0)) → (W.setCell ⟨w.heap.size + 1, 4, none⟩ (.slice (some ⟨lo, 0, none⟩) 1 1)).heap[w.heap.size + 1]? = some (.cells #[.int .i64 1, .int .i64 3, .slice (some ⟨r, 0, none⟩) 1 1, .slice (some ⟨vb, 0, none⟩) 1 vc, .slice (some ⟨lo, 0, none⟩) 1 1, .slice none 0 0, .int .i64 0, .int .i64 0, .slice (some ⟨e0, 0, none⟩) 9 9, .int .i64 0] 97 (0, 0)) := fun W h => heap_setCell_same W _ 4 _ _ _ h
  have t5 : ∀ W : World, W.heap[w.heap.size + 1]? = some (.cells #[.int .i64 1, .int .i64 3, .slice (some ⟨r, 0, none⟩) 1 1, .slice (some ⟨vb, 0, none⟩) 1 vc, .slice (some ⟨lo, 0, none⟩) 1 1, .slice none 0 0, .int .i64 0, .int .i64 0, .slice (some ⟨e0, 0, none⟩) 9 9, .int .i64 0] 97 (0, 0)) → (W.setCell ⟨w.heap.size + 1, 5, none⟩ (.slice (some mb) 0 0)).heap[w.heap.size + 1]? = some (.cells #[.int .i64 1, .int .i64 3, .slice (some ⟨r, 0, none⟩) 1 1, .slice (some ⟨vb, 0, none⟩) 1 vc, .slice (some ⟨lo, 0, none⟩) 1 1, .slice (some mb) 0 0, .int .i64 0, .int .i64 0, .slice (some ⟨e0, 0, none⟩) 9 9, .int .i64 0] 97 (0, 0)) := fun W h => heap_setCell_same W _ 5 _ _ _ h
  have t6 : ∀ W : World, W.heap[w.heap.size + 1]? = some (.cells #[.int .i64 1, .int .i64 3, .slice (some ⟨r, 0, none⟩) 1 1, .slice (some ⟨vb, 0, none⟩) 1 vc, .slice (some ⟨lo, 0, none⟩) 1 1, .slice (some mb) 0 0, .int .i64 0, .int .i64 0, .slice (some ⟨e0, 0, none⟩) 9 9, .int .i64 0] 97 (0, 0)) → (W.setCell ⟨w.heap.size + 1, 6, none⟩ (.int .i64 0)).heap[w.heap.size + 1]? = some (.cells #[.int .i64 1, .int .i64 3, .slice (some ⟨r, 0, none⟩) 1 1, .slice (some ⟨vb, 0, none⟩) 1 vc, .slice (some ⟨lo, 0, none⟩) 1 1, .slice (some mb) 0 0, .int .i64 0, .int .i64 0, .slice (some ⟨e0, 0, none⟩) 9 9, .int .i64 0] 97 (0, 0)) := fun W h => heap_setCell_same W _ 6 _ _ _ h
  have t7 : ∀ W : World, W.heap[w.heap.size + 1]? = some (.cells #[.int .i64 1, .int .i64 3, .slice (some ⟨r, 0, none⟩) 1 1, .slice (some ⟨vb, 0, none⟩) 1 vc, .slice (some ⟨lo, 0, none⟩) 1 1, .slice (some mb) 0 0, .int .i64 0, .int .i64 0, .slice (some ⟨e0, 0, none⟩) 9 9, .int .i64 0] 97 (0, 0)) → (W.setCell ⟨w.heap.size + 1, 7, none⟩ (.int .i64 0)).heap[w.heap.size + 1]? = some (.cells #[.int .i64 1, .int .i64 3, .slice (some ⟨r, 0, none⟩) 1 1, .slice (some ⟨vb, 0, none⟩) 1 vc, .slice (some ⟨lo, 0, none⟩) 1 1, .slice (some mb) 0 0, .int .i64 0, .int .i64 0, .slice (some ⟨e0, 0, none⟩) 9 9, .int .i64 0] 97 (0, 0)) := fun W h => heap_setCell_same W _ 7 _ _ _ h
  have t8 : ∀ W : World, W.heap[w.heap.size + 1]? = some (.cells #[.int .i64 1, .int .i64 3, .slice (some ⟨r, 0, none⟩) 1 1, .slice (some ⟨vb, 0, none⟩) 1 vc, .slice (some ⟨lo, 0, none⟩) 1 1, .slice (some mb) 0 0, .int .i64 0, .int .i64 0, .slice (some ⟨e0, 0, none⟩) 9 9, .int .i64 0] 97 (0, 0)) → (W.setCell ⟨w.heap.size + 1, 8, none⟩ (.slice pe ne ce)).heap[w.heap.size + 1]? = some (.cells #[.int .i64 1, .int .i64 3, .slice (some ⟨r, 0, none⟩) 1 1, .slice (some ⟨vb, 0, none⟩) 1 vc, .slice (some ⟨lo, 0, none⟩) 1 1, .slice (some mb) 0 0, .int .i64 0, .int .i64 0, .slice pe ne ce, .int .i64 0] 97 (0, 0)) := fun W h => heap_setCell_same W _ 8 _ _ _ h
  have t9 : ∀ W : World, W.heap[w.heap.size + 1]? = some (.cells #[.int .i64 1, .int .i64 3, .slice (some ⟨r, 0, none⟩) 1 1, .slice (some ⟨vb, 0, none⟩) 1 vc, .slice (some ⟨lo, 0, none⟩) 1 1, .slice (some mb) 0 0, .int .i64 0, .int .i64 0, .slice pe ne ce, .int .i64 0] 97 (0, 0)) → (W.setCell ⟨w.heap.size + 1, 9, none⟩ (.int .i64 0)).heap[w.heap.size + 1]? = some (.cells #[.int .i64 1, .int .i64 3, .slice (some ⟨r, 0, none⟩) 1 1, .slice (some ⟨vb, 0, none⟩) 1 vc, .slice (some ⟨lo, 0, none⟩) 1 1, .slice (some mb) 0 0, .int .i64 0, .int .i64 0, .slice pe ne ce, .int .i64 0] 97 (0, 0)) := fun W h => heap_setCell_same W _ 9 _ _ _ h
  have HBB : Hid (Below w.heap.size w B0) := by show Below _ _ _; rw [hB]; exact ((((((((((HB1.out.setCell (Nat.le_succ _) _).setCell (Nat.le_succ _) _).setCell (Nat.le_succ _) _).setCell (Nat.le_succ _) _).setCell (Nat.le_succ _) _).setCell (Nat.le_succ _) _).setCell (Nat.le_succ _) _).setCell (Nat.le_succ _) _).setCell (Nat.le_succ _) _).setCell (Nat.le_succ _) _)
  have hsz : B0.heap.size = w1.heap.size := by rw [hB]; simp [World.setCell]
  have hbx : B0.heap[w.heap.size + 1]? = some (.cells ([.int .i64 1, .int .i64 3, .slice (some ⟨r, 0, none⟩) 1 1, .slice (some ⟨vb, 0, none⟩) 1 vc, .slice (some ⟨lo, 0, none⟩) 1 1, .slice (some mb) 0 0, .int .i64 0, .int .i64 0, .slice pe ne ce, .int .i64 0] : List Value).toArray 97 (0, 0)) := by rw [hB]; exact (t9 _ (t8 _ (t7 _ (t6 _ (t5 _ (t4 _ (t3 _ (t2 _ (t1 _ (t0 _ g1))))))))))
  have hpx : B0.heap[w.heap.size]? = some (.cells ([.slice (some ⟨gh, 0, none⟩) 1 1, .slice none 0 0, .slice none 0 0, .slice none 0 0, .slice none 0 0, .slice none 0 0, .slice none 0 0, .slice none 0 0, .slice none 0 0, .slice none 0 0, .slice none 0 0, .slice none 0 0] : List Value).toArray 94 (0, 0)) := by rw [hkeep _ (by omega)]; exact g0
  have hrx : B0.heap[w.heap.size + 1 + 1]? = some (.cells ([.int .i64 0, .int .i64 0, .slice none 0 0, .slice none 0 0, .slice none 0 0, .slice none 0 0, .int .i64 0, .int .i64 0, .slice none 0 0, .int .i64 0] : List Value).toArray 97 (0, 0)) := by rw [hkeep _ (by omega)]; exact g2
  have HM : Hid (KM B0 w.heap.size (w.heap.size + 1) (w.heap.size + 1 + 1) [.slice (some ⟨gh, 0, none⟩) 1 1, .slice none 0 0, .slice none 0 0, .slice none 0 0, .slice none 0 0, .slice none 0 0, .slice none 0 0, .slice none 0 0, .slice none 0 0, .slice none 0 0, .slice none 0 0, .slice none 0 0] [.int .i64 1, .int .i64 3, .slice (some ⟨r, 0, none⟩) 1 1, .slice (some ⟨vb, 0, none⟩) 1 vc, .slice (some ⟨lo, 0, none⟩) 1 1, .slice (some mb) 0 0, .int .i64 0, .int .i64 0, .slice pe ne ce, .int .i64 0] bs r ca vb lo q a 0) := by
    refine ⟨fun j v hj => cell_of_list hpx hj, fun j v hj => cell_of_list hbx hj, fun j hj => ⟨([.int .i64 0, .int .i64 0, .slice none 0 0, .slice none 0 0, .slice none 0 0, .slice none 0 0, .int .i64 0, .int .i64 0, .slice none 0 0, .int .i64 0] : List Value)[j]'(by simpa using hj), cell_of_list hrx (List.getElem?_eq_getElem _)⟩, fun j => by simp [World.frozen?, hbx], fun j => by simp [World.frozen?, hrx], ?_, hrv.keepBlock (hkeep _ (by omega)) (by omega), ?_, ?_, ?_, ?_, ?_, lt_of_block hbx, lt_of_block hrx⟩
    · exact (World.cell?_of_block (a := ⟨r, 0, none⟩) (hkeep r (by omega))).trans hrc
    · exact (World.cell?_of_block (a := ⟨vb, 0, none⟩) (hkeep vb (by omega))).trans hvbc
    · exact (World.frozen?_of_block (a := ⟨vb, 0, none⟩) (hkeep vb (by omega))).trans hvbf
    · exact (World.cell?_of_block (a := ⟨lo, 0, none⟩) (hkeep lo (by omega))).trans hloc
    · obtain ⟨zv, hz⟩ := hqc; exact ⟨zv, (World.cell?_of_block (a := ⟨q, 0, none⟩) (hkeep q (by omega))).trans hz⟩
    · exact (World.frozen?_of_block (a := ⟨q, 0, none⟩) (hkeep q (by omega))).trans hqf
  have HOR : Hid (w.heap.size + 1 + 1 < vb ∧ vb < lo ∧ lo < q ∧ w.heap.size + 1 + 1 < r ∧ 1 ≤ vc) := ⟨by omega, hvlo, hloq, by omega, hvc⟩
  rw [← hB]
  clear hB hkeep t0 t1 t2 t3 t4 t5 t6 t7 t8 t9 hbx hpx hrx g0 g1 g2 hr hrc hrv hab hvc hvb hvlo hvbc hvbf hloq hloc hqc hqf fy HB1 hsz hw12 hA2 HBA p0 p1 p2 p3 p4 p5 p6 p7 p8 p9 p10 p11 y0 y1 y2 y3 y4 y5 y6 y7 y8 y9
  refine (sizes_one gh gw B0 (HHD.out _ HBB.out)).mono ?_
  rintro e w2 ⟨rfl, hb2⟩
  have HM2 := Lib.hid (HM.out.below hb2)
  have HB2 : Hid (Below w.heap.size w w2) := HBB.out.trans (hb2.mono HBB.out.size)
  clear hb2 HM HBB
  have p0 : w2.cell? ⟨w.heap.size, 0, none⟩ = some (.slice (some ⟨gh, 0, none⟩) 1 1) := HM2.out.prog 0 _ rfl
  have p1 : w2.cell? ⟨w.heap.size, 1, none⟩ = some (.slice none 0 0) := HM2.out.prog 1 _ rfl
  have p2 : w2.cell? ⟨w.heap.size, 2, none⟩ = some (.slice none 0 0) := HM2.out.prog 2 _ rfl
  have p3 : w2.cell? ⟨w.heap.size, 3, none⟩ = some (.slice none 0 0) := HM2.out.prog 3 _ rfl
  have p4 : w2.cell? ⟨w.heap.size, 4, none⟩ = some (.slice none 0 0) := HM2.out.prog 4 _ rfl
  have p5 : w2.cell? ⟨w.heap.size, 5, none⟩ = some (.slice none 0 0) := HM2.out.prog 5 _ rfl
  have p6 : w2.cell? ⟨w.heap.size, 6, none⟩ = some (.slice none 0 0) := HM2.out.prog 6 _ rfl
  have p7 : w2.cell? ⟨w.heap.size, 7, none⟩ = some (.slice none 0 0) := HM2.out.prog 7 _ rfl
  have p8 : w2.cell? ⟨w.heap.size, 8, none⟩ = some (.slice none 0 0) := HM2.out.prog 8 _ rfl
  have p9 : w2.cell? ⟨w.heap.size, 9, none⟩ = some (.slice none 0 0) := HM2.out.prog 9 _ rfl
  have p10 : w2.cell? ⟨w.heap.size, 10, none⟩ = some (.slice none 0 0) := HM2.out.prog 10 _ rfl
  have p11 : w2.cell? ⟨w.heap.size, 11, none⟩ = some (.slice none 0 0) := HM2.out.prog 11 _ rfl
  go_wp2_with fail
  refine (size_one gh gw w2 (HHD.out _ HB2.out)).mono ?_
  rintro e w3 ⟨rfl, hb3⟩
  have HM3 := Lib.hid (HM2.out.below hb3)
  have HB3 : Hid (Below w.heap.size w w3) := HB2.out.trans (hb3.mono HB2.out.size)
  have hgw := (HHD.out _ HB3.out).2
  clear hb3 HM2 HB2 p0 p1 p2 p3 p4 p5 p6 p7 p8 p9 p10 p11
  have x0 : w3.cell? ⟨w.heap.size + 1, 0, none⟩ = some (.int .i64 1) := HM3.out.box 0 _ rfl
  have x1 : w3.cell? ⟨w.heap.size + 1, 1, none⟩ = some (.int .i64 3) := HM3.out.box 1 _ rfl
  have x2 : w3.cell? ⟨w.heap.size + 1, 2, none⟩ = some (.slice (some ⟨r, 0, none⟩) 1 1) := HM3.out.box 2 _ rfl
  have x3 : w3.cell? ⟨w.heap.size + 1, 3, none⟩ = some (.slice (some ⟨vb, 0, none⟩) 1 vc) := HM3.out.box 3 _ rfl
  have x4 : w3.cell? ⟨w.heap.size + 1, 4, none⟩ = some (.slice (some ⟨lo, 0, none⟩) 1 1) := HM3.out.box 4 _ rfl
  have x5 : w3.cell? ⟨w.heap.size + 1, 5, none⟩ = some (.slice (some mb) 0 0) := HM3.out.box 5 _ rfl
  have x6 : w3.cell? ⟨w.heap.size + 1, 6, none⟩ = some (.int .i64 0) := HM3.out.box 6 _ rfl
  have x7 : w3.cell? ⟨w.heap.size + 1, 7, none⟩ = some (.int .i64 0) := HM3.out.box 7 _ rfl
  have x8 : w3.cell? ⟨w.heap.size + 1, 8, none⟩ = some (.slice pe ne ce) := HM3.out.box 8 _ rfl
  have x9 : w3.cell? ⟨w.heap.size + 1, 9, none⟩ = some (.int .i64 0) := HM3.out.box 9 _ rfl
  have hlc := HM3.out.loc
  have hrc := HM3.out.rc
  have HAS := Lib.hid (hasF_one (w.heap.size + 1) _ _ vc 1 w3 x3 x4)
  go_wp2_with (go_at_call 120; (with_reducible refine HAS.out.mono ?_); rintro e w4 ⟨rfl, rfl⟩)
  have HAS3 := HAS
  clear HAS
  go_loopw [13, 65] (fun v i wr => (i = .int .i64 0 ∧ v = .slice none 0 0 ∧ wr = w3) ∨ (i = .int .i64 1 ∧ ∃ al ac, v = .slice (some al) 8 ac ∧ Hid (IVec wr (.slice (some al) 8 ac) bs ∧ Below w3.heap.size w3 wr))) (fun _ i _ => 1 - (intOf i).toNat)
  case atStart => exact .inl ⟨rfl, rfl, rfl⟩
  case round =>
    rcases hrel with ⟨rfl, rfl, rfl⟩ | ⟨rfl, al, ac, rfl, HV⟩
    · go_wp2_with fail
      refine (symbvResize_any _ bs 8 wr HM3.out.rv (by omega)).mono ?_
      rintro e w4 hr
      obtain ⟨v1, rfl, hv1, hb4⟩ := FldV.of_ret hr (resize8 bs hbs) hbs (cell_there HM3.out.vbc).1
      obtain ⟨fa, fc, rfl, hv1', -⟩ := hv1
      go_wp2_with fail
      refine (symbvCat_any _ _ [] bs w4 (IVec.nil w4) hv1' NilOk.nil (NilOk.some _ _ _) (by simp) (by omega)).mono ?_
      rintro e w5 hr5
      obtain ⟨v2, rfl, hv2, hb5⟩ := FldV.of_ret hr5 (List.append_nil bs) hbs (Nat.lt_of_lt_of_le (cell_there HM3.out.vbc).1 hb4.size)
      obtain ⟨aa, ac, rfl, hv2', -⟩ := hv2
      have HV : Hid (IVec w5 (.slice (some aa) 8 ac) bs ∧ Below wr.heap.size wr w5) := ⟨hv2', hb4.trans (hb5.mono hb4.size)⟩
      clear hr hr5 hb4 hb5 hv1' hv2'
      go_wp2_with fail
      go_roundw
      case rel => exact .inr ⟨by go_num, aa, ac, rfl, HV⟩
      case measure => simp [intOf]
    · have HAL := Lib.hid HV.out.1
      have HM6 := Lib.hid (HM3.out.below HV.out.2)
      have HB6 : Hid (Below w.heap.size w wr) := HB3.out.trans (HV.out.2.mono HB3.out.size)
      have hgw6 := (HHD.out _ HB6.out).2
      clear HV HM3 HB3 hgw x0 x1 x2 x3 x4 x5 x6 x7 x8 x9 hlc hrc HAS3
      obtain ⟨zq, hkm2⟩ := HM6.out.two (by have := HOR.out; omega)
      have HK2 := Lib.hid hkm2
      clear hkm2
      obtain ⟨o1, o2, o3, o4, o5⟩ := HOR.out
      go_wp2_with fail
      go_loopw [13, 76] (fun v i w6 => (i = .int .i64 0 ∧ v = .slice (some al) 8 ac ∧ w6 = wr) ∨ (i = .int .i64 1 ∧ v = .slice (some al) 0 ac ∧ ∃ fld, Hid (KM2 w6 (w.heap.size + 1) (w.heap.size + 1 + 1) [.int .i64 1, .int .i64 3, .slice (some ⟨r, 0, none⟩) 1 1, .slice (some ⟨vb, 0, none⟩) 1 vc, .slice (some ⟨lo, 0, none⟩) 1 1, .slice (some mb) 0 0, .int .i64 0, .int .i64 0, .slice pe ne ce, .int .i64 0] vb lo q 0 fld ∧ Below w.heap.size w w6 ∧ FldV w6 q bs fld))) (fun _ i _ => 1 - (intOf i).toNat)
      case atStart => exact .inl ⟨rfl, rfl, rfl⟩
      case round =>
        rcases hrel with ⟨rfl, rfl, rfl⟩ | ⟨rfl, rfl, fld, HV⟩
        · go_wp2_with fail
          refine take17 (w.heap.size + 1) lo q ac al (P17 w (w.heap.size + 1) (w.heap.size + 1 + 1) [.int .i64 1, .int .i64 3, .slice (some ⟨r, 0, none⟩) 1 1, .slice (some ⟨vb, 0, none⟩) 1 vc, .slice (some ⟨lo, 0, none⟩) 1 1, .slice (some mb) 0 0, .int .i64 0, .int .i64 0, .slice pe ne ce, .int .i64 0] bs vb lo q (.slice (some al) 8 ac)) wr (Lib.hid p17_fine) (Lib.hid fun f => ⟨⟨zq, HK2.out, fun hk => by omega⟩, HB6.out, fun _ => HAL.out, fun hk => by omega, fun hk => by omega⟩)
            (Lib.hid fun k f W hk hp => by obtain ⟨⟨zq, h1, -⟩, -⟩ := hp; exact ⟨h1.box 4 _ rfl, h1.loc⟩) (Lib.hid fun f W hp => p17_slice hbs f W hp) (Lib.hid fun f W hp => p17_resize hbs f W hp) (Lib.hid fun f W hp => p17_store f W (Nat.le_succ _) hp) _ _ _ _ _ _ _ _ _ _ _ _ _ _ _ _ _ _ _ _ _ _ _ _ _ _ _ _ _ _ _ _ _ _ _ _ _ _ _ _ _ _ _ _ _ _ _ _ _ _ _ _ _ _ _ _ _ _ _ _ _ _ _ _ _ _ _ _ _ _ _ _ _ _ _ _ _ _ _ _ _ _ _ _ _ _ _ _ _ _ _ _ _ _ _ _ _ _ _ _ _ _ _ _ _ _ _ _ _ _ _ _ _ _ _ _ _ _ _ _ _ _ _ _ _ _ _ _  ?_
          intro u0 u1 u2 u3 u4 u5 u6 u7 u8 u9 u10 u11 u12 u13 u14 u15 u16 u17 w7 hp
          dsimp only
          obtain ⟨⟨zq7, h1, h1'⟩, h2, -, -, h5⟩ := hp
          have HV : Hid (KM2 w7 (w.heap.size + 1) (w.heap.size + 1 + 1) [.int .i64 1, .int .i64 3, .slice (some ⟨r, 0, none⟩) 1 1, .slice (some ⟨vb, 0, none⟩) 1 vc, .slice (some ⟨lo, 0, none⟩) 1 1, .slice (some mb) 0 0, .int .i64 0, .int .i64 0, .slice pe ne ce, .int .i64 0] vb lo q 0 zq7 ∧ Below w.heap.size w w7 ∧ FldV w7 q bs zq7) := ⟨h1, h2, by rw [h1' rfl]; exact h5 (by omega)⟩
          clear h1 h1' h2 h5
          go_wp2_with fail
          go_roundw
          case rel => exact .inr ⟨by go_num, rfl, zq7, HV⟩
          case measure => simp [intOf]
        · have HF6 := HV
          clear HV
          have x3 := HF6.out.1.box 3 _ rfl
          have x2 := HF6.out.1.box 2 _ rfl
          have hvbc := HF6.out.1.vbc
          go_wp2_with fail
          have HKS : Hid (KS w b s O O bs (w.heap.size + 1) (w.heap.size + 1 + 1) [.int .i64 1, .int .i64 3, .slice (some ⟨r, 0, none⟩) 1 1, .slice (some ⟨vb, 0, none⟩) 1 vc, .slice (some ⟨lo, 0, none⟩) 1 1, .slice (some mb) 0 0, .int .i64 0, .int .i64 0, .slice pe ne ce, .int .i64 0] vb lo q 0 fld wr) := by
            obtain ⟨h1, h2, fa, fc, rfl, h3, h4⟩ := HF6.out
            have hlt := HS.out.lt
            exact ⟨HS.out.below h2, Ext.of_below h2, h1, ⟨h3, fun k hk _ hO => by have e : fa.block = k := (Option.some.inj hk); have := hlt k hO; omega, NilOk.some _ _ _⟩, ⟨fa, fc, rfl, h4⟩, fun k hk _ hO => by have := hlt k hO; omega⟩
          clear HF6 x2 x3 hvbc
          refine take21 (w.heap.size + 1) b vb vc r (P21 w b s O bs (w.heap.size + 1) (w.heap.size + 1 + 1) [.int .i64 1, .int .i64 3, .slice (some ⟨r, 0, none⟩) 1 1, .slice (some ⟨vb, 0, none⟩) 1 vc, .slice (some ⟨lo, 0, none⟩) 1 1, .slice (some mb) 0 0, .int .i64 0, .int .i64 0, .slice pe ne ce, .int .i64 0] vb lo q r fld) wr (Lib.hid p21_fine) (Lib.hid fun f => ⟨⟨O, HKS.out⟩, fun hk => by omega, fun hk => by omega⟩)
            (Lib.hid fun k f W hk hp => by
              obtain ⟨⟨O', h1⟩, -⟩ := hp
              have hm := h1.mem
              unfold yl21 at hm
              rw [if_pos hk] at hm
              exact ⟨hm.box 3 _ rfl, hm.box 2 _ rfl⟩)
            (Lib.hid fun f W hp => p21_not hfull f W hp) (Lib.hid fun f W hp => p21_and hfull f W hp) (Lib.hid fun f W hp => p21_st2 (Nat.le_succ _) rfl f W hp) (Lib.hid fun f W hp => p21_st3 (Nat.le_succ _) f W hp) (Lib.hid fun f W hp => p21_st4 (Nat.le_succ _) rfl f W hp) _ _ _ _ _ _ _ _ _ _ _ _ _ _ _ _ _ _ _ _ _ _ _ _ _ _ _ _ _ _ _ _ _ _ _ _ _ _ _ _ _ _ _ _ _ _ _ _ _ _ _ _ _ _ _ _ _ _ _ _ _ _ _ _ _ _ _ _ _ _ _ _ _ _ _ _ _ _ _ _ _ _ _ _ _ _ _ _ _ _ _ _ _ _ _ _ _ _ _ _ _ _ _ _ _ _ _ _ _ _ _ _ _ _ _ _ _ _ _ _ _ _ _ _ _ _ _  ?_
          intro u0 u1 u2 u3 u4 u5 u6 u7 u8 u9 u10 u11 u12 u13 u15 u17 w7 hp
          dsimp only
          obtain ⟨⟨O7, hks7⟩, -, -⟩ := hp
          have HKS7 : Hid (KS w b s O O7 bs (w.heap.size + 1) (w.heap.size + 1 + 1) [.int .i64 1, .int .i64 3, .slice (some ⟨r, 0, none⟩) 0 0, .slice (some ⟨vb, 0, none⟩) 1 vc, .slice (some ⟨lo, 0, none⟩) 1 1, .slice (some mb) 0 0, .int .i64 0, .int .i64 0, .slice pe ne ce, .int .i64 0] vb lo q 1 fld w7) := hks7
          clear hks7 HKS
          go_wp2_with fail
          refine take22 (w.heap.size + 1) (w.heap.size + 1 + 1) b vb vc r lo ne ce mb pe (P22 w b s O bs (w.heap.size + 1) (w.heap.size + 1 + 1) [.int .i64 1, .int .i64 3, .slice (some ⟨r, 0, none⟩) 0 0, .slice (some ⟨vb, 0, none⟩) 1 vc, .slice (some ⟨lo, 0, none⟩) 1 1, .slice (some mb) 0 0, .int .i64 0, .int .i64 0, .slice pe ne ce, .int .i64 0] vb lo q fld) w7 (Lib.hid p22_fine) (Lib.hid fun f => ⟨⟨O7, HKS7.out⟩, fun hk => by omega, fun hk => by omega, fun hk => by omega⟩)
            (Lib.hid fun k f W hk hp => by
              obtain ⟨⟨O', h1⟩, -⟩ := hp
              have hm := h1.mem
              exact ⟨hm.box 0 _ rfl, hm.box 1 _ rfl, hm.box 2 _ rfl, hm.box 3 _ rfl, hm.box 4 _ rfl, hm.box 5 _ rfl, hm.box 6 _ rfl, hm.box 7 _ rfl, hm.box 8 _ rfl, hm.box 9 _ rfl⟩)
            (Lib.hid fun f W hp => p22_and hfull f W hp)
            (Lib.hid fun f W hp => by
              obtain ⟨a1, a2, a3⟩ := p22_store (Nat.le_succ _) rfl f W hp
              exact ⟨a1 0 (by omega), a1 1 (by omega), a1 2 (by omega), a1 3 (by omega), a1 4 (by omega), a1 5 (by omega), a1 6 (by omega), a1 7 (by omega), a1 8 (by omega), a1 9 (by omega), a2, a3⟩)
            (Lib.hid fun f W hp => by
              obtain ⟨h1, h2, h3, -⟩ := hp
              exact ⟨h1, fun hk => h2 (by omega), fun hk => h3 (by omega), fun _ => h2 (by omega)⟩) _ _ _ _ _ _ _ _ _ _ _ _ _ _ _ _ _ _ _ _ _ _ _ _ _ _ _ _ _ _ _ _ _ _ _ _ _ _ _ _ _ _ _ _ _ _ _ _ _ _ _ _ _ _ _ _ _ _ _ _ _ _ _ _ _ _ _ _ _ _ _ _ _ _ _ _ _ _ _ _ _ _ _ _ _ _ _ _ _ _ _ _ _ _ _ _ _ _ _ _ _ _ _ _ _ _ _ _ _ _ _ _ _ _ _ _ _ _ _ _ _ _ _ _ _ _ _ _  ?_
          intro u0 u1 u2 u3 u4 u6 w8 hp
          dsimp only
          obtain ⟨⟨O8, hks8⟩, -, hz, hu⟩ := hp
          have hu6 : u6 = .int .i64 0 := hu (by omega)
          subst hu6
          have z0 := hz (by omega) 0 _ rfl
          have z1 := hz (by omega) 1 _ rfl
          have z2 := hz (by omega) 2 _ rfl
          have z3 := hz (by omega) 3 _ rfl
          have z4 := hz (by omega) 4 _ rfl
          have z5 := hz (by omega) 5 _ rfl
          have z6 := hz (by omega) 6 _ rfl
          have z7 := hz (by omega) 7 _ rfl
          have z8 := hz (by omega) 8 _ rfl
          have z9 := hz (by omega) 9 _ rfl
          have HK8 := Lib.hid hks8
          clear hz hu hks8 HKS7
          go_wp2_with fail
          refine bodyPost_ret (v := .tuple #[.agg #[.int .i64 1, .int .i64 3, .slice (some ⟨r, 0, none⟩) 0 0, .slice (some ⟨vb, 0, none⟩) 1 vc, .slice (some ⟨lo, 0, none⟩) 1 1, .slice (some mb) 0 0, .int .i64 0, .int .i64 0, .slice pe ne ce, .int .i64 0], .int .i64 0]) (by simp [results, Try.results61, go_sem, z0, z1, z2, z3, z4, z5, z6, z7, z8, z9]) rfl ?_
          obtain ⟨fa, fc, rfl, hfa⟩ := HK8.out.fbk
          obtain ⟨h1, h2, h3, h4, -, h6⟩ := HK8.out
          exact ⟨O8, r, vb, vc, lo, q, fc, ne, ce, mb, fa, pe, rfl, h1, h2, o5, h3.vbc, h3.loc, h3.qc, h4, h6 vb (by omega) (by omega), h6 lo (by omega) (by omega), h6 q (by omega) (by omega), by omega, by omega, by omega, by omega⟩

end Go.Proofs.Ytlnkflmnjkmhkaa
