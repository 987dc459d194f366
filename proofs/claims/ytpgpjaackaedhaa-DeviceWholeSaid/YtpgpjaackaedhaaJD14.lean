/-
  Lemmas, joined: DevF, DevG, DevH.
-/
import Derived.Test.YtpgpjaackaedhaaJD12
import Derived.Test.YtpgpjaackaedhaaJD13
import Derived.Test.YtpgpjaackaedhaaJD06
import Derived.Test.YtpgpjaackaedhaaJD07
import Derived.Deep.MidRow
/-
  runner.forward, runner.drop.
-/
namespace Go.Proofs.Ytpgpjaackaedhaa
open Go.RowKit

/-- A packet's cells. -/
def pkC (port : Int) (p : Option Addr) (n c g1 g2 : Nat) (d s : Bool) (e : Int) : Array Value := #[.int .i64 port, .slice p n c, .slice (some ⟨g1, 0, none⟩) 0 0, .slice none 0 0, .slice (some ⟨g2, 0, none⟩) 0 0, .bool d, .bool s, .int .i64 e, .bool false]
/-- What writing to the packet in block X keeps; a cell that has its last value has it still. -/
structure FR (X : Nat) (K : Bool → Bool → Int → Array Value) (v : Int) (w w' : World) : Prop where
  bel : Below X w w'
  oth : ∀ k, k < w.heap.size → k ≠ X → w'.heap[k]? = w.heap[k]?
  at' : ∀ d s e, w.heap[X]? = some (.cells (K d s e) 60 (0, 0)) → ∃ d' s' e', w'.heap[X]? = some (.cells (K d' s' e') 60 (0, 0)) ∧ (d = false → d' = false) ∧ (s = true → s' = true) ∧ (e = v → e' = v)
theorem FR.refl (X : Nat) (K : Bool → Bool → Int → Array Value) (v : Int) (w : World) : FR X K v w w := ⟨Below.refl _ _, fun _ _ _ => rfl, fun d s e h => ⟨d, s, e, h, id, id, id⟩⟩
section
variable {X : Nat} {K : Bool → Bool → Int → Array Value} {v : Int} {w w' : World}
theorem FR.of_below (hX : X < w.heap.size) (h : Below w.heap.size w w') : FR X K v w w' := ⟨h.mono (by omega), fun k hk _ => h.block k hk, fun d s e hh => ⟨d, s, e, (h.block X hX).trans hh, id, id, id⟩⟩
theorem FR.trans {w2 : World} (h1 : FR X K v w w') (h2 : FR X K v w' w2) : FR X K v w w2 :=
  ⟨h1.bel.trans h2.bel, fun k hk hx => (h2.oth k (Nat.lt_of_lt_of_le hk h1.bel.size) hx).trans (h1.oth k hk hx), fun d s e h => by
    obtain ⟨d1, s1, e1, a1, a2, a3, a4⟩ := h1.at' d s e h
    obtain ⟨d2, s2, e2, b1, b2, b3, b4⟩ := h2.at' d1 s1 e1 a1
    exact ⟨d2, s2, e2, b1, fun x => b2 (a2 x), fun x => b3 (a3 x), fun x => b4 (a4 x)⟩⟩
theorem FR.k7 (hr : FR X K v w w') (h : ∃ d s, w.heap[X]? = some (.cells (K d s v) 60 (0, 0))) : ∃ d s, w'.heap[X]? = some (.cells (K d s v) 60 (0, 0)) := by
  obtain ⟨d, s, h⟩ := h
  obtain ⟨d', s', e', h1, -, -, h4⟩ := hr.at' d s v h
  rw [h4 rfl] at h1
  exact ⟨d', s', h1⟩
theorem FR.k6 (hr : FR X K v w w') (h : ∃ d e, w.heap[X]? = some (.cells (K d true e) 60 (0, 0))) : ∃ d e, w'.heap[X]? = some (.cells (K d true e) 60 (0, 0)) := by
  obtain ⟨d, e, h⟩ := h
  obtain ⟨d', s', e', h1, -, h3, -⟩ := hr.at' d true e h
  rw [h3 rfl] at h1
  exact ⟨d', e', h1⟩
theorem FR.k5 (hr : FR X K v w w') (h : ∃ s e, w.heap[X]? = some (.cells (K false s e) 60 (0, 0))) : ∃ s e, w'.heap[X]? = some (.cells (K false s e) 60 (0, 0)) := by
  obtain ⟨s, e, h⟩ := h
  obtain ⟨d', s', e', h1, h2, -, -⟩ := hr.at' false s e h
  rw [h2 rfl] at h1
  exact ⟨s', e', h1⟩
theorem FR.pk (hr : FR X K v w w') (h : ∃ d s e, w.heap[X]? = some (.cells (K d s e) 60 (0, 0))) : ∃ d s e, w'.heap[X]? = some (.cells (K d s e) 60 (0, 0)) := by
  obtain ⟨d, s, e, h⟩ := h
  obtain ⟨d', s', e', h1, -⟩ := hr.at' d s e h
  exact ⟨d', s', e', h1⟩
end
section
variable {X : Nat} {port : Int} {p : Option Addr} {n c g1 g2 : Nat} {d s : Bool} {e : Int} {w : World}
theorem pk_at7 (v : Int) (h : w.heap[X]? = some (.cells (pkC port p n c g1 g2 d s e) 60 (0, 0))) : (w.setCell ⟨X, 7, none⟩ (.int .i64 v)).heap[X]? = some (.cells (pkC port p n c g1 g2 d s v) 60 (0, 0)) := heap_setCell_same w X 7 _ _ _ h
theorem pk_at6 (b : Bool) (h : w.heap[X]? = some (.cells (pkC port p n c g1 g2 d s e) 60 (0, 0))) : (w.setCell ⟨X, 6, none⟩ (.bool b)).heap[X]? = some (.cells (pkC port p n c g1 g2 d b e) 60 (0, 0)) := heap_setCell_same w X 6 _ _ _ h
theorem pk_at5 (b : Bool) (h : w.heap[X]? = some (.cells (pkC port p n c g1 g2 d s e) 60 (0, 0))) : (w.setCell ⟨X, 5, none⟩ (.bool b)).heap[X]? = some (.cells (pkC port p n c g1 g2 b s e) 60 (0, 0)) := heap_setCell_same w X 5 _ _ _ h
theorem pk_set7 {v : Int} (h : w.heap[X]? = some (.cells (pkC port p n c g1 g2 d s e) 60 (0, 0))) : ∃ d s, (w.setCell ⟨X, 7, none⟩ (.int .i64 v)).heap[X]? = some (.cells (pkC port p n c g1 g2 d s v) 60 (0, 0)) := ⟨d, s, pk_at7 v h⟩
theorem pk_set6 (h : w.heap[X]? = some (.cells (pkC port p n c g1 g2 d s e) 60 (0, 0))) : ∃ d e, (w.setCell ⟨X, 6, none⟩ (.bool true)).heap[X]? = some (.cells (pkC port p n c g1 g2 d true e) 60 (0, 0)) := ⟨d, e, pk_at6 true h⟩
theorem pk_set5 (h : w.heap[X]? = some (.cells (pkC port p n c g1 g2 d s e) 60 (0, 0))) : ∃ s e, (w.setCell ⟨X, 5, none⟩ (.bool false)).heap[X]? = some (.cells (pkC port p n c g1 g2 false s e) 60 (0, 0)) := ⟨s, e, pk_at5 false h⟩
theorem FR.st7 {v : Int} : w.heap[X]? = some (.cells (pkC port p n c g1 g2 d s e) 60 (0, 0)) → FR X (pkC port p n c g1 g2) v w (w.setCell ⟨X, 7, none⟩ (.int .i64 v)) := fun _ =>
  ⟨(Below.refl _ _).setCell (p := ⟨X, 7, none⟩) (Nat.le_refl X) _, fun k _ hk => setCell_heap hk, fun d s e h => ⟨d, s, v, pk_at7 v h, id, id, fun _ => rfl⟩⟩
theorem FR.st6 {v : Int} : w.heap[X]? = some (.cells (pkC port p n c g1 g2 d s e) 60 (0, 0)) → FR X (pkC port p n c g1 g2) v w (w.setCell ⟨X, 6, none⟩ (.bool true)) := fun _ =>
  ⟨(Below.refl _ _).setCell (p := ⟨X, 6, none⟩) (Nat.le_refl X) _, fun k _ hk => setCell_heap hk, fun d s e h => ⟨d, true, e, pk_at6 true h, id, fun _ => rfl, id⟩⟩
theorem FR.st5 {v : Int} : w.heap[X]? = some (.cells (pkC port p n c g1 g2 d s e) 60 (0, 0)) → FR X (pkC port p n c g1 g2) v w (w.setCell ⟨X, 5, none⟩ (.bool false)) := fun _ =>
  ⟨(Below.refl _ _).setCell (p := ⟨X, 5, none⟩) (Nat.le_refl X) _, fun k _ hk => setCell_heap hk, fun d s e h => ⟨false, s, e, pk_at5 false h, fun _ => rfl, id, id⟩⟩
theorem pk_cells (h : w.heap[X]? = some (.cells (pkC port p n c g1 g2 d s e) 60 (0, 0))) : w.cell? ⟨X, 0, none⟩ = some (.int .i64 port) ∧ w.cell? ⟨X, 1, none⟩ = some (.slice p n c) ∧ w.cell? ⟨X, 2, none⟩ = some (.slice (some ⟨g1, 0, none⟩) 0 0) ∧ w.cell? ⟨X, 3, none⟩ = some (.slice none 0 0) ∧ w.cell? ⟨X, 4, none⟩ = some (.slice (some ⟨g2, 0, none⟩) 0 0) ∧ w.cell? ⟨X, 5, none⟩ = some (.bool d) ∧ w.cell? ⟨X, 6, none⟩ = some (.bool s) ∧ w.cell? ⟨X, 7, none⟩ = some (.int .i64 e) ∧ w.cell? ⟨X, 8, none⟩ = some (.bool false) ∧ w.frozen? ⟨X, 5, none⟩ = false ∧ w.frozen? ⟨X, 6, none⟩ = false ∧ w.frozen? ⟨X, 7, none⟩ = false := by
  unfold pkC at h
  refine ⟨?_, ?_, ?_, ?_, ?_, ?_, ?_, ?_, ?_, ?_, ?_, ?_⟩ <;> simp [World.cell?, World.frozen?, h]
end
/-- The two boxes of a runner's method; the code that it values. -/
def BoxF (b : Nat) (sp : Option Addr) (sn sc : Nat) (cp : Option Addr) (cn cc : Nat) (X gc ec : Nat) (k : Int) (v : Nat) (W : World) : Prop :=
  W.heap[b]? = some (.cells #[.slice none 0 0, .slice none 0 0, .slice sp sn sc, .slice none 0 0, .slice none 0 0, .slice cp cn cc, .slice none 0 0, .slice none 0 0, .slice none 0 0, .slice none 0 0, .slice none 0 0, .slice none 0 0, .slice none 0 0, .pointer (some ⟨X, 0, none⟩), .slice none 0 0, .bool false] 70 (0, 0)) ∧ W.heap[b + 1]? = some (.cells #[.int .u8 k, .int .i64 0, .int .i64 0, .slice (some ⟨gc, 0, none⟩) 1 ec, .int .i64 0] 39 (0, 0)) ∧ ConstAt W gc v
theorem BoxF.cells {b : Nat} {sp : Option Addr} {sn sc : Nat} {cp : Option Addr} {cn cc : Nat} {X gc ec : Nat} {k : Int} {v : Nat} {W : World} (h : BoxF b sp sn sc cp cn cc X gc ec k v W) : W.cell? ⟨b, 0, none⟩ = some (.slice none 0 0) ∧ W.cell? ⟨b, 1, none⟩ = some (.slice none 0 0) ∧ W.cell? ⟨b, 2, none⟩ = some (.slice sp sn sc) ∧ W.cell? ⟨b, 3, none⟩ = some (.slice none 0 0) ∧ W.cell? ⟨b, 4, none⟩ = some (.slice none 0 0) ∧ W.cell? ⟨b, 5, none⟩ = some (.slice cp cn cc) ∧ W.cell? ⟨b, 6, none⟩ = some (.slice none 0 0) ∧ W.cell? ⟨b, 7, none⟩ = some (.slice none 0 0) ∧ W.cell? ⟨b, 8, none⟩ = some (.slice none 0 0) ∧ W.cell? ⟨b, 9, none⟩ = some (.slice none 0 0) ∧ W.cell? ⟨b, 10, none⟩ = some (.slice none 0 0) ∧ W.cell? ⟨b, 11, none⟩ = some (.slice none 0 0) ∧ W.cell? ⟨b, 12, none⟩ = some (.slice none 0 0) ∧ W.cell? ⟨b, 13, none⟩ = some (.pointer (some ⟨X, 0, none⟩)) ∧ W.cell? ⟨b, 14, none⟩ = some (.slice none 0 0) ∧ W.cell? ⟨b, 15, none⟩ = some (.bool false) ∧ W.cell? ⟨b + 1, 0, none⟩ = some (.int .u8 k) ∧ W.cell? ⟨b + 1, 1, none⟩ = some (.int .i64 0) ∧ W.cell? ⟨b + 1, 2, none⟩ = some (.int .i64 0) ∧ W.cell? ⟨b + 1, 3, none⟩ = some (.slice (some ⟨gc, 0, none⟩) 1 ec) ∧ W.cell? ⟨b + 1, 4, none⟩ = some (.int .i64 0) := by
  obtain ⟨h1, h2, -⟩ := h
  refine ⟨?_, ?_, ?_, ?_, ?_, ?_, ?_, ?_, ?_, ?_, ?_, ?_, ?_, ?_, ?_, ?_, ?_, ?_, ?_, ?_, ?_⟩ <;> simp [World.cell?, h1, h2]

set_option maxRecDepth 100000 in
set_option maxHeartbeats 6400000 in
theorem forward_any (sp : Option Addr) (sn sc : Nat) (cp : Option Addr) (cn cc : Nat) (X gc v ec : Nat) (k : Int) (port : Int) (p : Option Addr) (n c g1 g2 : Nat) (d s : Bool) (ex : Int) (w : World) (hv : v < 512) (hc : ConstAt w gc v) (hg : gc ≠ X) (hX : w.heap[X]? = some (.cells (pkC port p n c g1 g2 d s ex) 60 (0, 0))) :
    Calls Try.prog 33 #[rnV sp sn sc cp cn cc X, inV k (some ⟨gc, 0, none⟩) 1 ec] w fun e w' => e = .returned (.tuple #[]) ∧ w'.heap[X]? = some (.cells (pkC port p n c g1 g2 false true v) 60 (0, 0)) ∧ FR X (pkC port p n c g1 g2) v w w' := by
  have hcv : IntKind.i64.wrap (v : Int) = (v : Int) := by rw [IntKind.wrap_i64]; omega
  have hXl : X < w.heap.size := (Array.getElem?_eq_some_iff.1 hX).1
  have HC : Hid (∀ W, BoxF w.heap.size sp sn sc cp cn cc X gc ec k v W → Calls Try.prog 35 #[.agg #[.slice none 0 0, .slice none 0 0, .slice sp sn sc, .slice none 0 0, .slice none 0 0, .slice cp cn cc, .slice none 0 0, .slice none 0 0, .slice none 0 0, .slice none 0 0, .slice none 0 0, .slice none 0 0, .slice none 0 0, .pointer (some ⟨X, 0, none⟩), .slice none 0 0, .bool false], .agg #[.int .u8 k, .int .i64 0, .int .i64 0, .slice (some ⟨gc, 0, none⟩) 1 ec, .int .i64 0]] W fun e w' => e = .returned (.agg #[.int .u64 0, .int .u64 (v : Int)]) ∧ Below W.heap.size W w') := fun W h => by
    obtain ⟨y3, z3, he3, ey, ez⟩ := numV_parts v
    have h1 := rvalue_const sp sn sc cp cn cc X gc v ec k W hv h.2.2
    unfold RetNum at h1
    have e1 : v / B = 0 := Nat.div_eq_of_lt (Nat.lt_trans hv (by unfold B; omega))
    have e2 : v % B = v := Nat.mod_eq_of_lt (Nat.lt_trans hv (by unfold B; omega))
    rw [he3, ey, ez, e1, e2] at h1
    exact h1
  have HST : Hid (∀ w1 w2, (BoxF w.heap.size sp sn sc cp cn cc X gc ec k v w1 ∧ (∃ d s e, w1.heap[X]? = some (.cells (pkC port p n c g1 g2 d s e) 60 (0, 0))) ∧ FR X (pkC port p n c g1 g2) v w w1) → FR X (pkC port p n c g1 g2) v w1 w2 → (BoxF w.heap.size sp sn sc cp cn cc X gc ec k v w2 ∧ (∃ d s e, w2.heap[X]? = some (.cells (pkC port p n c g1 g2 d s e) 60 (0, 0))) ∧ FR X (pkC port p n c g1 g2) v w w2)) := fun w1 w2 h hr => by
    obtain ⟨⟨h1, h2, h3⟩, h4, h5⟩ := h
    refine ⟨⟨(hr.oth _ (Array.getElem?_eq_some_iff.1 h1).1 (by omega)).trans h1, (hr.oth _ (Array.getElem?_eq_some_iff.1 h2).1 (by omega)).trans h2, ?_⟩, hr.pk h4, h5.trans hr⟩
    obtain ⟨c0, c1, c2, c3, c4, c5⟩ := h3
    have hb := hr.oth gc (cell_there c0).1 hg
    simp only [ConstAt, World.cell?, hb] at c0 c1 c2 c3 c4 c5 ⊢
    exact ⟨c0, c1, c2, c3, c4, c5⟩
  unfold rnV inV
  go_enter Try.func33, Try.ntmps33
  go_wp2_with fail
  obtain ⟨W0, hW0⟩ : ∃ W0, W0 = (w.alloc (.cells #[.slice none 0 0, .slice none 0 0, .slice sp sn sc, .slice none 0 0, .slice none 0 0, .slice cp cn cc, .slice none 0 0, .slice none 0 0, .slice none 0 0, .slice none 0 0, .slice none 0 0, .slice none 0 0, .slice none 0 0, .pointer (some ⟨X, 0, none⟩), .slice none 0 0, .bool false] 70)).alloc (.cells #[.int .u8 k, .int .i64 0, .int .i64 0, .slice (some ⟨gc, 0, none⟩) 1 ec, .int .i64 0] 39) := ⟨_, rfl⟩
  have HS0 : Hid (BoxF w.heap.size sp sn sc cp cn cc X gc ec k v W0.drew ∧ (∃ d s e, W0.drew.heap[X]? = some (.cells (pkC port p n c g1 g2 d s e) 60 (0, 0))) ∧ FR X (pkC port p n c g1 g2) v w W0.drew) := by
    have hb : Below w.heap.size w W0.drew := by rw [hW0]; exact below_drewN (((Below.refl _ _).alloc (Nat.le_refl _) _).alloc (by simp) _) 1
    refine ⟨⟨?_, ?_, hc.below hb⟩, ⟨d, s, ex, (hb.block X hXl).trans hX⟩, FR.of_below hXl hb⟩
    · show W0.heap[w.heap.size]? = _
      rw [hW0, Below.heap_alloc _ _ _ (by simp)]; exact heap_new _ _
    · show W0.heap[w.heap.size + 1]? = _
      rw [hW0]
      have := heap_new (w.alloc (.cells #[.slice none 0 0, .slice none 0 0, .slice sp sn sc, .slice none 0 0, .slice none 0 0, .slice cp cn cc, .slice none 0 0, .slice none 0 0, .slice none 0 0, .slice none 0 0, .slice none 0 0, .slice none 0 0, .slice none 0 0, .pointer (some ⟨X, 0, none⟩), .slice none 0 0, .bool false] 70)) (.cells #[.int .u8 k, .int .i64 0, .int .i64 0, .slice (some ⟨gc, 0, none⟩) 1 ec, .int .i64 0] 39)
      simp only [World.size_alloc] at this
      exact this
  rw [← hW0]
  clear hW0
  refine OutR.region_outR (FR X (pkC port p n c g1 g2) v) (FR.refl X (pkC port p n c g1 g2) v) (by kernel_rfl) (fun W => BoxF w.heap.size sp sn sc cp cn cc X gc ec k v W ∧ (∃ d s e, W.heap[X]? = some (.cells (pkC port p n c g1 g2 d s e) 60 (0, 0))) ∧ FR X (pkC port p n c g1 g2) v w W) (HST.out) (by kernel_rfl) (HS0.out) ?_
  refine ⟨.eq ?_, trivial, rfl, fun aa ww ll hh => ?_, ?_⟩
  rotate_left
  · have e2 := (hh.old 2 (by kernel_rfl)).trans (evalO rfl)
    simp only [nthO] at e2
    refine OutR.out_val (FR.refl X (pkC port p n c g1 g2) v) (wanted_none rfl) ?_
    clear hh
    generalize aa.eval = ev at e2 ⊢
    go_simp
    try rfl
  refine ⟨.eq ?_, trivial, rfl, fun aa ww ll hh => ?_, ?_⟩
  rotate_left
  · have e4 := hh.get 0 0 (by kernel_rfl) rfl rfl rfl
    have hbx := hh.inv.1.cells
    obtain ⟨q0, q1, q2, q3, q4, q5, q6, q7, q8, q9, q10, q11, q12, q13, q14, q15, j0, j1, j2, j3, j4⟩ := hbx
    refine OutR.out_val (FR.refl X (pkC port p n c g1 g2) v) (wanted_none rfl) ?_
    clear hh
    generalize aa.eval = ev at e4 ⊢
    go_simp
    try rfl
  refine ⟨.eq ?_, trivial, rfl, fun aa ww ll hh => ?_, ?_⟩
  rotate_left
  · have e2 := (hh.old 2 (by kernel_rfl)).trans (evalO rfl)
    simp only [nthO] at e2
    refine OutR.out_val (FR.refl X (pkC port p n c g1 g2) v) (wanted_none rfl) ?_
    clear hh
    generalize aa.eval = ev at e2 ⊢
    go_simp
    try rfl
  refine ⟨.eq ?_, trivial, rfl, fun aa ww ll hh => ?_, ?_⟩
  rotate_left
  · have e6 := hh.get 2 0 (by kernel_rfl) rfl rfl rfl
    have hbx := hh.inv.1.cells
    obtain ⟨q0, q1, q2, q3, q4, q5, q6, q7, q8, q9, q10, q11, q12, q13, q14, q15, j0, j1, j2, j3, j4⟩ := hbx
    refine OutR.out_val (FR.refl X (pkC port p n c g1 g2) v) (wanted_none rfl) ?_
    clear hh
    generalize aa.eval = ev at e6 ⊢
    go_simp
    try rfl
  refine ⟨.eq ?_, trivial, rfl, fun aa ww ll hh => ?_, ?_⟩
  rotate_left
  · have e2 := (hh.old 2 (by kernel_rfl)).trans (evalO rfl)
    simp only [nthO] at e2
    refine OutR.out_val (FR.refl X (pkC port p n c g1 g2) v) (wanted_none rfl) ?_
    clear hh
    generalize aa.eval = ev at e2 ⊢
    go_simp
    try rfl
  refine ⟨.eq ?_, trivial, rfl, fun aa ww ll hh => ?_, ?_⟩
  rotate_left
  · have e8 := hh.get 4 0 (by kernel_rfl) rfl rfl rfl
    have hbx := hh.inv.1.cells
    obtain ⟨q0, q1, q2, q3, q4, q5, q6, q7, q8, q9, q10, q11, q12, q13, q14, q15, j0, j1, j2, j3, j4⟩ := hbx
    refine OutR.out_val (FR.refl X (pkC port p n c g1 g2) v) (wanted_none rfl) ?_
    clear hh
    generalize aa.eval = ev at e8 ⊢
    go_simp
    try rfl
  refine ⟨.eq ?_, trivial, rfl, fun aa ww ll hh => ?_, ?_⟩
  rotate_left
  · have e2 := (hh.old 2 (by kernel_rfl)).trans (evalO rfl)
    simp only [nthO] at e2
    have hbx := hh.inv.1.cells
    obtain ⟨q0, q1, q2, q3, q4, q5, q6, q7, q8, q9, q10, q11, q12, q13, q14, q15, j0, j1, j2, j3, j4⟩ := hbx
    refine OutR.out_val (FR.refl X (pkC port p n c g1 g2) v) (wanted_none rfl) ?_
    clear hh
    generalize aa.eval = ev at e2 ⊢
    go_simp
    try rfl
  refine ⟨.eq ?_, trivial, rfl, fun aa ww ll hh => ?_, ?_⟩
  rotate_left
  · have e3 := (hh.old 3 (by kernel_rfl)).trans (evalO rfl)
    simp only [nthO] at e3
    have hbx := hh.inv.1.cells
    obtain ⟨q0, q1, q2, q3, q4, q5, q6, q7, q8, q9, q10, q11, q12, q13, q14, q15, j0, j1, j2, j3, j4⟩ := hbx
    refine OutR.out_val (FR.refl X (pkC port p n c g1 g2) v) (wanted_none rfl) ?_
    clear hh
    generalize aa.eval = ev at e3 ⊢
    go_simp
    try rfl
  refine ⟨.eq (.agg #[.int .u64 0, .int .u64 (v : Int)]), trivial, rfl, fun aa ww ll hh => ?_, ?_⟩
  · have e10 := hh.get 6 1 (by kernel_rfl) rfl rfl rfl
    have e11 := hh.get 7 0 (by kernel_rfl) rfl rfl rfl
    have ef : ∀ f, aa.eval (.func f) = .func (.func f) #[] #[] := fun _ => rfl
    obtain ⟨d1, s1, e1, hk⟩ := hh.inv.2.1
    have hXW : X < ww.heap.size := (Array.getElem?_eq_some_iff.1 hk).1
    refine OutR.out_call_eq (wanted_none rfl) ?_ (((HC.out ww hh.inv.1)).mono fun e w1 h => ⟨h.1, FR.of_below hXW h.2⟩)
    clear hh
    generalize aa.eval = ev at e10 e11 ef ⊢
    go_simp
    try rfl
  refine ⟨.eq ?_, trivial, rfl, fun aa ww ll hh => ?_, ?_⟩
  rotate_left
  · have e12 := hh.get 8 0 (by kernel_rfl) rfl rfl rfl
    refine OutR.out_val (FR.refl X (pkC port p n c g1 g2) v) (wanted_none rfl) ?_
    clear hh
    generalize aa.eval = ev at e12 ⊢
    go_simp
    try rfl
  refine ⟨.eq (.int .i64 (v : Int)), trivial, rfl, fun aa ww ll hh => ?_, ?_⟩
  · have e13 := hh.get 9 0 (by kernel_rfl) rfl rfl rfl
    refine OutR.out_val (FR.refl X (pkC port p n c g1 g2) v) (wanted_none rfl) ?_
    clear hh
    generalize aa.eval = ev at e13 ⊢
    go_simp
    try exact hcv
  refine ⟨.eq ?_, trivial, rfl, fun aa ww ll hh => ?_, ?_⟩
  rotate_left
  · have e5 := hh.get 1 9 (by kernel_rfl) rfl rfl rfl
    refine OutR.out_val (FR.refl X (pkC port p n c g1 g2) v) (wanted_none rfl) ?_
    clear hh
    generalize aa.eval = ev at e5 ⊢
    go_simp
    try rfl
  refine ⟨.eq ?_, trivial, rfl, fun aa ww ll hh => ?_, ?_⟩
  rotate_left
  · have e15 := hh.get 11 0 (by kernel_rfl) rfl rfl rfl
    refine OutR.out_val (FR.refl X (pkC port p n c g1 g2) v) (wanted_none rfl) ?_
    clear hh
    generalize aa.eval = ev at e15 ⊢
    go_simp
    try rfl
  refine ⟨.rel (fun W _ => ∃ d s, W.heap[X]? = some (.cells (pkC port p n c g1 g2 d s v) 60 (0, 0))), (fun W W' _ h hr => hr.k7 h), rfl, fun aa ww ll hh => ?_, ?_⟩
  · have e16 := hh.get 12 0 (by kernel_rfl) rfl rfl rfl
    have e14 := hh.get 10 2 (by kernel_rfl) rfl rfl rfl
    obtain ⟨d1, s1, e1, hk⟩ := hh.inv.2.1
    have C := pk_cells hk
    refine OutR.out_store (wanted_none rfl) (w' := ww.setCell ⟨X, 7, none⟩ (.int .i64 v)) ?_ (FR.st7 hk) (pk_set7 hk)
    · obtain ⟨k0, k1, k2, k3, k4, k5, k6, k7, k8, f5, f6, f7⟩ := C
      clear hh hk
      generalize aa.eval = ev at e16 e14 ⊢
      go_simp
      try rfl
  refine ⟨.eq ?_, trivial, rfl, fun aa ww ll hh => ?_, ?_⟩
  rotate_left
  · have e7 := hh.get 3 10 (by kernel_rfl) rfl rfl rfl
    refine OutR.out_val (FR.refl X (pkC port p n c g1 g2) v) (wanted_none rfl) ?_
    clear hh
    generalize aa.eval = ev at e7 ⊢
    go_simp
    try rfl
  refine ⟨.eq ?_, trivial, rfl, fun aa ww ll hh => ?_, ?_⟩
  rotate_left
  · have e17 := hh.get 14 0 (by kernel_rfl) rfl rfl rfl
    refine OutR.out_val (FR.refl X (pkC port p n c g1 g2) v) (wanted_none rfl) ?_
    clear hh
    generalize aa.eval = ev at e17 ⊢
    go_simp
    try rfl
  refine ⟨.rel (fun W _ => ∃ d e, W.heap[X]? = some (.cells (pkC port p n c g1 g2 d true e) 60 (0, 0))), (fun W W' _ h hr => hr.k6 h), rfl, fun aa ww ll hh => ?_, ?_⟩
  · have e18 := hh.get 15 0 (by kernel_rfl) rfl rfl rfl
    have ec : ∀ v, aa.eval (.const v) = v := fun _ => rfl
    obtain ⟨d1, s1, e1, hk⟩ := hh.inv.2.1
    have C := pk_cells hk
    refine OutR.out_store (wanted_none rfl) (w' := ww.setCell ⟨X, 6, none⟩ (.bool true)) ?_ (FR.st6 hk) (pk_set6 hk)
    · obtain ⟨k0, k1, k2, k3, k4, k5, k6, k7, k8, f5, f6, f7⟩ := C
      clear hh hk
      generalize aa.eval = ev at e18 ec ⊢
      go_simp
      try rfl
  refine ⟨.eq ?_, trivial, rfl, fun aa ww ll hh => ?_, ?_⟩
  rotate_left
  · have e9 := hh.get 5 11 (by kernel_rfl) rfl rfl rfl
    refine OutR.out_val (FR.refl X (pkC port p n c g1 g2) v) (wanted_none rfl) ?_
    clear hh
    generalize aa.eval = ev at e9 ⊢
    go_simp
    try rfl
  refine ⟨.eq ?_, trivial, rfl, fun aa ww ll hh => ?_, ?_⟩
  rotate_left
  · have e19 := hh.get 17 0 (by kernel_rfl) rfl rfl rfl
    refine OutR.out_val (FR.refl X (pkC port p n c g1 g2) v) (wanted_none rfl) ?_
    clear hh
    generalize aa.eval = ev at e19 ⊢
    go_simp
    try rfl
  refine ⟨.rel (fun W _ => ∃ s e, W.heap[X]? = some (.cells (pkC port p n c g1 g2 false s e) 60 (0, 0))), (fun W W' _ h hr => hr.k5 h), rfl, fun aa ww ll hh => ?_, ?_⟩
  · have e20 := hh.get 18 0 (by kernel_rfl) rfl rfl rfl
    have ec : ∀ v, aa.eval (.const v) = v := fun _ => rfl
    obtain ⟨d1, s1, e1, hk⟩ := hh.inv.2.1
    have C := pk_cells hk
    refine OutR.out_store (wanted_none rfl) (w' := ww.setCell ⟨X, 5, none⟩ (.bool false)) ?_ (FR.st5 hk) (pk_set5 hk)
    · obtain ⟨k0, k1, k2, k3, k4, k5, k6, k7, k8, f5, f6, f7⟩ := C
      clear hh hk
      generalize aa.eval = ev at e20 ec ⊢
      go_simp
      try rfl
  intro ll w2 hS hok
  have p13 := hok 13 _ rfl
  have p16 := hok 16 _ rfl
  have p19 := hok 19 _ rfl
  clear hok
  simp only [List.reverse_cons, List.reverse_nil, List.nil_append, List.cons_append, OutR.layO, OutR.Out.val, Act.put, List.setIfInBounds_toArray, List.set_cons_zero, List.set_cons_succ]
  obtain ⟨-, -, hfr⟩ := hS
  obtain ⟨d1, s1, h1⟩ := p13
  obtain ⟨d2, e2, h2⟩ := p16
  obtain ⟨s3, e3, h3⟩ := p19
  rw [h1] at h2 h3
  simp [pkC] at h2 h3
  obtain ⟨rfl, rfl, -⟩ := h2
  obtain ⟨rfl, -⟩ := h3
  go_wp2_with fail
  go_end0
  exact ⟨rfl, h1, hfr⟩

end Go.Proofs.Ytpgpjaackaedhaa

/-
  runner.drop.
-/
namespace Go.Proofs.Ytpgpjaackaedhaa
open Go.RowKit

set_option maxRecDepth 100000 in
set_option maxHeartbeats 1600000 in
theorem drop_any (sp : Option Addr) (sn sc : Nat) (cp : Option Addr) (cn cc : Nat) (X : Nat) (v : Int) (ep : Option Addr) (en ec : Nat) (k : Int) (port : Int) (p : Option Addr) (n c g1 g2 : Nat) (d s : Bool) (ex : Int) (w : World) (hX : w.heap[X]? = some (.cells (pkC port p n c g1 g2 d s ex) 60 (0, 0))) :
    Calls Try.prog 32 #[rnV sp sn sc cp cn cc X, inV k ep en ec] w fun e w' => e = .returned (.tuple #[]) ∧ w'.heap[X]? = some (.cells (pkC port p n c g1 g2 true s ex) 60 (0, 0)) ∧ Below X w w' ∧ ∀ i, i < w.heap.size → i ≠ X → w'.heap[i]? = w.heap[i]? := by
  have hXl : X < w.heap.size := (Array.getElem?_eq_some_iff.1 hX).1
  obtain ⟨k0, k1, k2, k3, k4, k5, k6, k7, k8, f5, f6, f7⟩ := pk_cells hX
  have hz : (w.setCell ⟨X, 5, none⟩ (.bool true)).heap.size = w.heap.size := by simp
  have hb : Below (w.setCell ⟨X, 5, none⟩ (.bool true)).heap.size (w.setCell ⟨X, 5, none⟩ (.bool true)) (((w.setCell ⟨X, 5, none⟩ (.bool true)).alloc (.cells #[.slice none 0 0, .slice none 0 0, .slice sp sn sc, .slice none 0 0, .slice none 0 0, .slice cp cn cc, .slice none 0 0, .slice none 0 0, .slice none 0 0, .slice none 0 0, .slice none 0 0, .slice none 0 0, .slice none 0 0, .pointer (some ⟨X, 0, none⟩), .slice none 0 0, .bool false] 70)).alloc (.cells #[.int .u8 k, .int .i64 0, .int .i64 0, .slice ep en ec, .int .i64 0] 39)) := ((Below.refl _ _).alloc (Nat.le_refl _) _).alloc (by simp) _
  have HB := Lib.hid hb
  clear hb
  unfold rnV inV
  go_enter Try.func32, Try.ntmps32
  go_wp2_with fail
  go_end0
  exact ⟨rfl, (HB.out.block X (by rw [hz]; exact hXl)).trans (pk_at5 true hX), ((Below.refl X w).setCell (p := ⟨X, 5, none⟩) (Nat.le_refl X) _).trans (HB.out.mono (by rw [hz]; exact Nat.le_of_lt hXl)), fun i hi hne => (HB.out.block i (by rw [hz]; exact hi)).trans (setCell_heap hne)⟩

end Go.Proofs.Ytpgpjaackaedhaa

/-
  runner.run's map of bound methods: what the region that lays it leaves.
-/
namespace Go.Proofs.Ytpgpjaackaedhaa
open Go.RowKit Go.Maps

def mfV (f : Nat) (r : Value) : Value := .func (Fn.func f) #[r] #[]
def doesM (r : Value) : List (Int × Value) := [(1, mfV 29 r), (2, mfV 30 r), (3, mfV 31 r), (4, mfV 32 r), (5, mfV 33 r), (6, mfV 34 r)]

section
variable {P : Program} {ops : Array Oper} {Q : Exit → Act → World → Prop} {a : Act} {w : World} {rest : List Oper} {o : Oper}
theorem wpl_val {v : Value} {w' : World} (hg : o.guard = none) (hrun : (execOp a.eval o).run P w = .ok (.value v) w') (h : wpList P ops Q rest (a.put o.dst v) w') : wpList P ops Q (o :: rest) a w :=
  wpList_plain hg fun K hK => by unfold Oper.wp; rw [hrun]; exact hK _ _ h
theorem put_eval (a : Act) (i j : Nat) (v : Value) (hi : i < a.tmps.size) : (a.put (some i) v).eval (.tmp j) = if i = j then v else a.eval (.tmp j) := by
  show (a.tmps.setIfInBounds i v).getD j undef = if i = j then v else a.tmps.getD j undef
  rw [Array.getD_eq_getD_getElem?, Array.getD_eq_getD_getElem?, Array.getElem?_setIfInBounds]
  by_cases h : i = j
  · rw [if_pos h, if_pos h, if_pos hi]; rfl
  · rw [if_neg h, if_neg h]
theorem putZ (a : Act) (d : Option Nat) (v : Value) : (a.put d v).tmps.size = a.tmps.size := by
  cases d <;> simp [Act.put]
theorem putD (a : Act) (d : Option Nat) (v : Value) : (a.put d v).defers = a.defers := by
  cases d <;> simp [Act.put]
end

/-- A frame of run: what is known of it. -/
structure FrA (a : Act) (m rb : Nat) (cv : Value) : Prop where
  size : a.tmps.size = 65
  dfr : a.defers = []
  s1 : a.eval (.tmp 1) = cv
  s2 : a.eval (.tmp 2) = .pointer (some ⟨rb, 0, none⟩)
  s10 : a.eval (.tmp 10) = .map (some m)
theorem FrA.put {a : Act} {m rb : Nat} {cv : Value} (h : FrA a m rb cv) (s : Nat) (v : Value) (hs : 10 < s) (hs2 : s < 65) : FrA (a.put (some s) v) m rb cv := by
  have hsz : s < a.tmps.size := by rw [h.size]; exact hs2
  exact ⟨(putZ ..).trans h.size, (putD ..).trans h.dfr, by rw [put_eval _ _ _ _ hsz, if_neg (by omega), h.s1], by rw [put_eval _ _ _ _ hsz, if_neg (by omega), h.s2], by rw [put_eval _ _ _ _ hsz, if_neg (by omega), h.s10]⟩

theorem bind3 {ops : Array Oper} {Q : Exit → Act → World → Prop} {a : Act} {w : World} {rest : List Oper} {o1 o2 o3 : Oper} {m rb : Nat} {cv R : Value} {es : List (Int × Value)} (f s1 s2 : Nat) (key : Int)
    (g1 : o1.guard = none) (g2 : o2.guard = none) (g3 : o3.guard = none)
    (p1 : o1.op = .load 70 (.tmp 2)) (d1 : o1.dst = some s1) (p2 : o2.op = .makeFunc (Fn.func f) #[.tmp s1] #[]) (d2 : o2.dst = some s2)
    (p3 : o3.op = .insert 93 (.tmp 10) (.const (.int .u8 key)) (.tmp s2)) (d3 : o3.dst = none)
    (hs1 : 10 < s1) (hs1' : s1 < 65) (hs2 : 10 < s2) (hs2' : s2 < 65) (hF : FrA a m rb cv)
    (hL : (Instr.loadAt 70 (.pointer (some ⟨rb, 0, none⟩))).run Try.prog w = .ok R w) (hU : UMap w m es) (hw : (Lit.int .u8 key).wf = true) (hn : ∀ p ∈ es, p.1 ≠ key)
    (hK : ∀ a' w', FrA a' m rb cv → UMap w' m (es ++ [(key, mfV f R)]) → w.grownBy w' (some m) → wpList Try.prog ops Q rest a' w') : wpList Try.prog ops Q (o1 :: o2 :: o3 :: rest) a w := by
  have z1 : s1 < a.tmps.size := by rw [hF.size]; exact hs1'
  refine wpl_val (v := R) (w' := w) g1 (by simp [execOp, p1, hF.s2, hL, Sem.run_bind, Result.andThen]) ?_
  rw [d1]
  have F1 := hF.put s1 R hs1 hs1'
  have e1 : (a.put (some s1) R).eval (.tmp s1) = R := by rw [put_eval _ _ _ _ z1, if_pos rfl]
  refine wpl_val (v := mfV f R) (w' := w) g2 (by simp [execOp, p2, e1, run_mkFunc, Sem.run_bind, Result.andThen, mfV]) ?_
  rw [d2]
  have F2 := F1.put s2 (mfV f R) hs2 hs2'
  have e2 : ((a.put (some s1) R).put (some s2) (mfV f R)).eval (.tmp s2) = mfV f R := by rw [put_eval _ _ _ _ (by rw [F1.size]; exact hs2'), if_pos rfl]
  refine wpList_put (k := 5) (e := 92) g3 _ _ _ p3 Try.underlying5 Try.underlying93 F2.s10 hU key rfl (mfV f R) e2 hw hn fun w' h1 h2 => ?_
  rw [d3]
  exact hK _ _ F2 h1 h2

set_option maxRecDepth 100000 in
set_option maxHeartbeats 1600000 in
theorem does_region (a : Act) (rb : Nat) (cv R : Value) (W : World) (Q : Exit → Act → World → Prop) (hsz : a.tmps.size = 65) (hd : a.defers = []) (h1 : a.eval (.tmp 1) = cv) (h2 : a.eval (.tmp 2) = .pointer (some ⟨rb, 0, none⟩))
    (HL : ∀ V, Below W.heap.size W V → (Instr.loadAt 70 (.pointer (some ⟨rb, 0, none⟩))).run Try.prog V = .ok R V)
    (hexit : ∀ a' w', a'.tmps.size = 65 → a'.defers = [] → a'.eval (.tmp 1) = cv → a'.eval (.tmp 2) = .pointer (some ⟨rb, 0, none⟩) → a'.eval (.tmp 4) = .map (some W.heap.size) → UMap w' W.heap.size (doesM R) → Below W.heap.size W w' → Q .normal a' w') :
    Code.wp Try.prog ((Try.f13.body.bind (findRegion 1)).getD .skip) Q a W := by
  conv => arg 2; whnf
  refine wp_region_lit ?_
  refine wpl_val (v := .map (some W.heap.size)) (w' := W.alloc (.map #[] 0)) rfl (by simp [execOp, run_makeMap, Sem.run_bind, Result.andThen]) ?_
  have z10 : 10 < a.tmps.size := by omega
  have F : FrA (a.put (some 10) (.map (some W.heap.size))) W.heap.size rb cv := ⟨(putZ ..).trans hsz, (putD ..).trans hd, by rw [put_eval _ _ _ _ z10, if_neg (by omega), h1], by rw [put_eval _ _ _ _ z10, if_neg (by omega), h2], by rw [put_eval _ _ _ _ z10, if_pos rfl]⟩
  have hU := UMap.empty (W.alloc (.map #[] 0)) W.heap.size (heap_new W _)
  have hB : Below W.heap.size W (W.alloc (.map #[] 0)) := (Below.refl _ _).alloc (Nat.le_refl _) _
  generalize a.put (some 10) (.map (some W.heap.size)) = a1 at F ⊢
  show wpList _ _ _ _ a1 _
  generalize W.alloc (.map #[] 0) = W1 at hU hB ⊢
  clear hsz hd h1 h2 z10
  refine bind3 29 11 12 1 rfl rfl rfl rfl rfl rfl rfl rfl rfl (by decide) (by decide) (by decide) (by decide) F (HL _ hB) hU rfl (by simp) ?_
  intro a2 W2 F2 U2 g2
  have B2 := hB.grown g2 hB.size (fun k e => by cases e; exact Nat.le_refl _)
  refine bind3 30 13 14 2 rfl rfl rfl rfl rfl rfl rfl rfl rfl (by decide) (by decide) (by decide) (by decide) F2 (HL _ B2) U2 rfl (by simp) ?_
  intro a3 W3 F3 U3 g3
  have B3 := B2.grown g3 B2.size (fun k e => by cases e; exact Nat.le_refl _)
  refine bind3 31 15 16 3 rfl rfl rfl rfl rfl rfl rfl rfl rfl (by decide) (by decide) (by decide) (by decide) F3 (HL _ B3) U3 rfl (by simp) ?_
  intro a4 W4 F4 U4 g4
  have B4 := B3.grown g4 B3.size (fun k e => by cases e; exact Nat.le_refl _)
  refine bind3 32 17 18 4 rfl rfl rfl rfl rfl rfl rfl rfl rfl (by decide) (by decide) (by decide) (by decide) F4 (HL _ B4) U4 rfl (by simp) ?_
  intro a5 W5 F5 U5 g5
  have B5 := B4.grown g5 B4.size (fun k e => by cases e; exact Nat.le_refl _)
  refine bind3 33 19 20 5 rfl rfl rfl rfl rfl rfl rfl rfl rfl (by decide) (by decide) (by decide) (by decide) F5 (HL _ B5) U5 rfl (by simp) ?_
  intro a6 W6 F6 U6 g6
  have B6 := B5.grown g6 B5.size (fun k e => by cases e; exact Nat.le_refl _)
  refine bind3 34 21 22 6 rfl rfl rfl rfl rfl rfl rfl rfl rfl (by decide) (by decide) (by decide) (by decide) F6 (HL _ B6) U6 rfl (by simp) ?_
  intro a7 W7 F7 U7 g7
  have B7 := B6.grown g7 B6.size (fun k e => by cases e; exact Nat.le_refl _)
  refine wpl_val (v := .map (some W.heap.size)) (w' := W7) rfl (by simp [execOp, F7.s10, Sem.run_bind, Result.andThen]) ?_
  have z23 : 23 < a7.tmps.size := by rw [F7.size]; decide
  have F8 : FrA (a7.put (some 23) (.map (some W.heap.size))) W.heap.size rb cv := F7.put 23 _ (by decide) (by decide)
  have e23 : (a7.put (some 23) (.map (some W.heap.size))).eval (.tmp 23) = .map (some W.heap.size) := by rw [put_eval _ _ _ _ z23, if_pos rfl]
  generalize a7.put (some 23) (.map (some W.heap.size)) = a8 at F8 e23 ⊢
  show wpList _ _ _ _ a8 _
  refine wpl_val (v := .map (some W.heap.size)) (w' := W7) rfl (by simp [execOp, e23, Sem.run_bind, Result.andThen]) ?_
  have z4 : 4 < a8.tmps.size := by rw [F8.size]; decide
  exact wpList_nil (hexit _ _ ((putZ ..).trans F8.size) ((putD ..).trans F8.dfr) (by show (a8.put (some 4) _).eval _ = _; rw [put_eval _ _ _ _ z4, if_neg (by omega), F8.s1]) (by show (a8.put (some 4) _).eval _ = _; rw [put_eval _ _ _ _ z4, if_neg (by omega), F8.s2]) (by show (a8.put (some 4) _).eval _ = _; rw [put_eval _ _ _ _ z4, if_pos rfl]) U7 B7)

end Go.Proofs.Ytpgpjaackaedhaa
