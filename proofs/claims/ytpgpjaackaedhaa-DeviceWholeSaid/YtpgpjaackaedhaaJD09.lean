/-
  A node of code, done: what it lays on the stack.
-/
import Derived.Test.YtpgpjaackaedhaaJD08
import Derived.Deep.RegionHeld3

namespace Go.Proofs.Ytpgpjaackaedhaa
open Go.RowKit Go.Maps

theorem Stk.base {w : World} {n0 m : Nat} {x : Value} {st : List (Nat × Int)} (h : Stk w n0 m x st) : n0 ≤ w.heap.size := by
  obtain ⟨v, h1, -, -, h4, -⟩ := h
  exact Nat.le_trans h4 (Nat.le_of_lt (Array.getElem?_eq_some_iff.1 h1).1)
theorem NodeAt.cells {w : World} {g : Nat} {op c1 c2 c3 c4 c5 : Int} (h : NodeAt w g op c1 c2 c3 c4 c5) : w.cell? ⟨g, 0, none⟩ = some (.int .u8 op) ∧ w.cell? ⟨g, 1, none⟩ = some (.int .i64 c1) ∧ w.cell? ⟨g, 2, none⟩ = some (.int .i64 c2) ∧ w.cell? ⟨g, 3, none⟩ = some (.int .i64 c3) ∧ w.cell? ⟨g, 4, none⟩ = some (.int .u64 c4) ∧ w.cell? ⟨g, 5, none⟩ = some (.int .u64 c5) := by
  unfold NodeAt at h
  refine ⟨?_, ?_, ?_, ?_, ?_, ?_⟩ <;> simp [World.cell?, h]

set_option maxRecDepth 100000 in
set_option maxHeartbeats 4000000 in
theorem node_const (n0 m : Nat) (x : Value) (st : List (Nat × Int)) (n : Nat) (k c2 c3 : Int) (w : World) (hS : Stk w n0 m x st) (hn : n < B * B) (hlen : st.length < 100000) :
    Calls Try.prog 47 #[.pointer (some ⟨m, 0, none⟩), nodeV 1 k c2 c3 ((n / B : Nat) : Int) ((n % B : Nat) : Int)] w fun e w' => e = .returned (.tuple #[]) ∧ Stk w' n0 m x (st ++ [(n % 2 ^ sh k, k)]) ∧ Below n0 w w' := by
  have HS := Lib.hid hS
  have HN := Lib.hid hn
  have HLEN := Lib.hid hlen
  have HL : Hid (∀ W, Calls Try.prog 52 #[.pointer (some ⟨m, 0, none⟩), nodeV 1 k c2 c3 ((n / B : Nat) : Int) ((n % B : Nat) : Int)] W fun e w' => e = .returned (.tuple #[.agg #[.int .u64 ((n / B : Nat) : Int), .int .u64 ((n % B : Nat) : Int)], .bool true]) ∧ Below W.heap.size W w') := fun W => leaf_const m k c2 c3 _ _ W
  have HA : Hid (∀ W, Calls Try.prog 53 #[nodeV 1 k c2 c3 ((n / B : Nat) : Int) ((n % B : Nat) : Int)] W fun e w' => ∃ mm, e = .returned (.map (some mm)) ∧ UMap w' mm (aloneM W.heap.size) ∧ NodeAt w' W.heap.size 1 k c2 c3 ((n / B : Nat) : Int) ((n % B : Nat) : Int) ∧ Below W.heap.size W w') := fun W => alone_any _ _ _ _ _ _ W
  have HBO : Hid (∀ W, Calls Try.prog 54 #[nodeV 1 k c2 c3 ((n / B : Nat) : Int) ((n % B : Nat) : Int)] W fun e w' => ∃ mm, e = .returned (.map (some mm)) ∧ UMap w' mm (bothM W.heap.size) ∧ NodeAt w' W.heap.size 1 k c2 c3 ((n / B : Nat) : Int) ((n % B : Nat) : Int) ∧ Below W.heap.size W w') := fun W => both_any _ _ _ _ _ _ W
  have HNA : Hid (NodeAt (w.alloc (.cells #[.int .u8 1, .int .i64 k, .int .i64 c2, .int .i64 c3, .int .u64 ((n / B : Nat) : Int), .int .u64 ((n % B : Nat) : Int)] 35)) w.heap.size 1 k c2 c3 ((n / B : Nat) : Int) ((n % B : Nat) : Int)) := heap_new w _
  obtain ⟨y, hy⟩ : ∃ y : Int, y = ((n / B : Nat) : Int) := ⟨_, rfl⟩
  obtain ⟨z, hz⟩ : ∃ z : Int, z = ((n % B : Nat) : Int) := ⟨_, rfl⟩
  have HY := Lib.hid hy
  have HZ := Lib.hid hz
  rw [← hy, ← hz] at HL HA HBO HNA ⊢
  clear hS hn hlen hy hz
  unfold nodeV at HL HA HBO ⊢
  have hml : w.heap.size < w.heap.size + 1 := by omega
  go_enter Try.func47, Try.ntmps47
  go_wp2_with (go_at_call 52; refine (HL.out _).mono ?_; rintro e w1 ⟨rfl, hb1⟩; have HB1 := Lib.hid hb1; have hz1 := hb1.size; simp at hz1; clear hb1)
  obtain ⟨W2, hW2⟩ : ∃ W2, W2 = w1.alloc (.cells #[.int .u64 y, .int .u64 z] 33) := ⟨_, rfl⟩
  have HB2 : Hid (Below w.heap.size w W2) := by
    show Below _ _ _
    rw [hW2]
    exact (((Below.refl _ _).alloc (Nat.le_refl _) _).trans (HB1.out.mono (by simp))).alloc (by omega) _
  have HN2 : Hid (NodeAt W2 w.heap.size 1 k c2 c3 y z) := by
    show NodeAt _ _ _ _ _ _ _ _
    rw [hW2]
    exact (HNA.out.below HB1.out).below ((Below.refl _ _).alloc (Nat.le_refl _) _)
  have H42 : Hid (W2.heap[w1.heap.size]? = some (.cells #[.int .u64 y, .int .u64 z] 33 (0, 0))) := by
    show _ = _
    rw [hW2]; exact heap_new w1 _
  rw [← hW2]
  have hz2 : w1.heap.size < W2.heap.size := by rw [hW2]; simp
  clear hW2 HB1 HNA
  generalize w1.heap.size = g4 at *
  clear w1
  have hcs := HN2.out.cells
  obtain ⟨q0, q1, q2, q3, q4, q5⟩ := hcs
  have HS2 : Hid ((fun Wk => Below (W2.heap.size) (W2) Wk ∧ Wk.cell? ⟨w.heap.size, 0, none⟩ = some (.int .u8 1) ∧ Wk.cell? ⟨w.heap.size, 1, none⟩ = some (.int .i64 k) ∧ Wk.cell? ⟨w.heap.size, 2, none⟩ = some (.int .i64 c2) ∧ Wk.cell? ⟨w.heap.size, 3, none⟩ = some (.int .i64 c3) ∧ Wk.cell? ⟨w.heap.size, 4, none⟩ = some (.int .u64 y) ∧ Wk.cell? ⟨w.heap.size, 5, none⟩ = some (.int .u64 z)) W2.drew) := ⟨below_drewN (Below.refl _ _) 1, q0, q1, q2, q3, q4, q5⟩
  go_region_held3 (fun Wk => Below (W2.heap.size) (W2) Wk ∧ Wk.cell? ⟨w.heap.size, 0, none⟩ = some (.int .u8 1) ∧ Wk.cell? ⟨w.heap.size, 1, none⟩ = some (.int .i64 k) ∧ Wk.cell? ⟨w.heap.size, 2, none⟩ = some (.int .i64 c2) ∧ Wk.cell? ⟨w.heap.size, 3, none⟩ = some (.int .i64 c3) ∧ Wk.cell? ⟨w.heap.size, 4, none⟩ = some (.int .u64 y) ∧ Wk.cell? ⟨w.heap.size, 5, none⟩ = some (.int .u64 z))
    (first | exact HS2.out | assumption | exact held_6_0 hb1 (by assumption))
    (first
    | (go_at_call 53; refine (HA.out _).mono ?_; rintro e w1 ⟨mm, rfl, hU, -, hb1⟩; have hlk := hU.miss (P := Try.prog) (k := 5) (T := 128) (e := 126) Try.underlying5 Try.underlying128 (Try.zeroValue126 _) (x := 1) (by decide) (by simp [aloneM])))
  rename_i hH
  obtain ⟨hb2, q0, q1, q2, q3, q4, q5⟩ := hH
  have HB3 := Lib.hid hb2
  have hz3 := hb2.size
  clear hU hlk hb1 hb2
  go_wp2_with fail
  have HS3 : Hid ((fun Wk => Below (W2.heap.size) (W2) Wk ∧ Wk.cell? ⟨w.heap.size, 0, none⟩ = some (.int .u8 1) ∧ Wk.cell? ⟨w.heap.size, 1, none⟩ = some (.int .i64 k) ∧ Wk.cell? ⟨w.heap.size, 2, none⟩ = some (.int .i64 c2) ∧ Wk.cell? ⟨w.heap.size, 3, none⟩ = some (.int .i64 c3) ∧ Wk.cell? ⟨w.heap.size, 4, none⟩ = some (.int .u64 y) ∧ Wk.cell? ⟨w.heap.size, 5, none⟩ = some (.int .u64 z)) w1.drew) := ⟨below_drewN HB3.out 1, q0, q1, q2, q3, q4, q5⟩
  go_region_held3 (fun Wk => Below (W2.heap.size) (W2) Wk ∧ Wk.cell? ⟨w.heap.size, 0, none⟩ = some (.int .u8 1) ∧ Wk.cell? ⟨w.heap.size, 1, none⟩ = some (.int .i64 k) ∧ Wk.cell? ⟨w.heap.size, 2, none⟩ = some (.int .i64 c2) ∧ Wk.cell? ⟨w.heap.size, 3, none⟩ = some (.int .i64 c3) ∧ Wk.cell? ⟨w.heap.size, 4, none⟩ = some (.int .u64 y) ∧ Wk.cell? ⟨w.heap.size, 5, none⟩ = some (.int .u64 z))
    (first | exact HS3.out | assumption | exact held_6_0 hb1 (by assumption))
    (first
    | (go_at_call 54; refine (HBO.out _).mono ?_; rintro e w3 ⟨mm2, rfl, hU, -, hb1⟩; have hlk := hU.miss (P := Try.prog) (k := 5) (T := 132) (e := 130) Try.underlying5 Try.underlying132 (Try.zeroValue130 _) (x := 1) (by decide) (by simp [bothM])))
  rename_i hH
  obtain ⟨hb2, q0, q1, q2, q3, q4, q5⟩ := hH
  have HB4 := Lib.hid hb2
  have hz4 := hb2.size
  clear hU hlk hb1 hb2
  go_wp2_with fail
  have HS4 : Hid (Stk w3 n0 m x st) := HS.out.below (HB2.out.trans (HB4.out.mono HB2.out.size))
  have HN4 : Hid (NodeAt w3 w.heap.size 1 k c2 c3 y z) := HN2.out.below HB4.out
  have H44 : Hid (w3.heap[g4]? = some (.cells #[.int .u64 ((n / B : Nat) : Int), .int .u64 ((n % B : Nat) : Int)] 33 (0, 0))) := by
    show _ = _
    rw [← HY.out, ← HZ.out]
    exact (HB4.out.block _ hz2).trans H42.out
  refine push_region n0 m w.heap.size g4 x st n 1 k c2 c3 y z w3 HS4 HN4 H44 HN HLEN _ _ _ _ _ _ _ _ _ _ _ _ _ _ _ _ _ _ _ _ _ _ _ _ _ _ _ _ _ _ _ _ _ _ _ _ _ _ _ _ _ _ _ _ _ _ _ _ _ _ _ _ _ _ _ _ _ _ _ _ _ _ _ _ _ _ _ _ ?_
  intro u54 u55 u56 u57 u58 u59 u60 u61 u62 u63 u64 u65 u66 u67 u68 u69 w5 h5 hb5
  dsimp only
  go_wp2_with fail
  go_end0
  have hn0 : n0 ≤ w.heap.size := HS.out.base
  exact ⟨rfl, h5, ((HB2.out.trans (HB4.out.mono HB2.out.size)).mono hn0).trans hb5⟩

end Go.Proofs.Ytpgpjaackaedhaa
