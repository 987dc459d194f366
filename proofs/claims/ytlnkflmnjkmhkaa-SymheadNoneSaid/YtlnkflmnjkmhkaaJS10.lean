/-
  Lemmas, joined: Law24, RegW, Head6.
-/
import Derived.Test.YtlnkflmnjkmhkaaJS09
import Derived.Test.YtlnkflmnjkmhkaaJS05
import Derived.Test.YtlnkflmnjkmhkaaJS08
/-
  The law SymheadNone of layer 24: the walk, but for the page's examples.
-/
namespace Go.Proofs.Ytlnkflmnjkmhkaa
open Go.RowKit Go.Maps

set_option maxRecDepth 100000 in
set_option maxHeartbeats 3000000 in
theorem law24_big (h f : Int) (pv : Option Addr) (n cv : Nat) (w : World) (hn : n ≤ 9223372036854775807) (hb : 300 < n) (HK : Hid (∀ W, Calls Try.prog 60 #[] W fun e w' => e = .returned (.bool true) ∧ Below W.heap.size W w')) :
    Calls Try.prog 7 #[.int .i64 h, .int .i64 f, .slice pv n cv] w fun e w' => e = .returned (.bool true) ∧ Below w.heap.size w w' := by
  go_enter Try.func7, Try.ntmps7
  go_wp2_with fail
  refine (HK.out _).mono ?_
  rintro e w1 ⟨rfl, hb⟩
  go_wp2_with fail
  go_ret
  exact ⟨rfl, hb⟩

set_option maxRecDepth 100000 in
set_option maxHeartbeats 4000000 in
theorem law24_go (h f : Int) (pv : Option Addr) (n cv : Nat) (w : World) (hn : n ≤ 300) (HK : Hid (∀ W, Calls Try.prog 60 #[] W fun e w' => e = .returned (.bool true) ∧ Below W.heap.size W w')) :
    Calls Try.prog 7 #[.int .i64 h, .int .i64 f, .slice pv n cv] w fun e w' => e = .returned (.bool true) ∧ Below w.heap.size w w' := by
  have HN := Lib.hid (new_ok 10 w (by omega) (by omega))
  have HBN : Hid (Below w.heap.size w (newWorld w 10)) := by unfold newWorld; exact (by repeat (first | exact Below.refl _ _ | assumption | refine Below.drew ?_ | refine Below.alloc ?_ (by first | omega | (simp <;> omega)) _ | refine Below.setCell ?_ (by first | omega | (simp <;> omega)) _ | refine Below.trans ?_ (Below.mono (by assumption) (by first | omega | (simp <;> omega)))))
  go_enter Try.func7, Try.ntmps7
  go_wp2_with fail
  refine HN.out.mono ?_
  rintro e w0 ⟨rfl, rfl⟩
  generalize newWorld w 10 = w0 at *
  generalize w.heap.size + 2 = b at *
  clear HN
  go_wp2_with fail
  obtain ⟨A, hA⟩ : ∃ A, A = ((((w0.alloc (.cells #[.int .i64 8] 3)).alloc (.cells #[.slice (some ⟨w0.heap.size, 0, none⟩) 1 1] 33)).alloc (.cells #[.slice (some ⟨w0.heap.size + 1, 0, none⟩) 1 1, .slice none 0 0, .slice none 0 0, .slice none 0 0, .slice none 0 0, .slice none 0 0, .slice none 0 0, .slice none 0 0, .slice none 0 0, .slice none 0 0, .slice none 0 0, .slice none 0 0] 94)).alloc (.cells #[.int .i64 1, .int .i64 0, .slice none 0 0, .slice none 0 0, .slice none 0 0, .slice none 0 0, .int .i64 0, .int .i64 0, .slice none 0 0, .int .i64 0] 97)) := ⟨_, rfl⟩
  have hbA : Below w0.heap.size w0 A := by rw [hA]; exact (by repeat (first | exact Below.refl _ _ | assumption | refine Below.drew ?_ | refine Below.alloc ?_ (by first | omega | (simp <;> omega)) _ | refine Below.setCell ?_ (by first | omega | (simp <;> omega)) _ | refine Below.trans ?_ (Below.mono (by assumption) (by first | omega | (simp <;> omega)))))
  have hh : HeadAt A (w0.heap.size + 1) w0.heap.size := by rw [hA]; exact ⟨by simp [go_sem], by simp [go_sem]⟩
  have p0 : A.cell? ⟨w0.heap.size + 1 + 1, 0, none⟩ = some (.slice (some ⟨w0.heap.size + 1, 0, none⟩) 1 1) := by rw [hA]; simp [go_sem]
  have p1 : A.cell? ⟨w0.heap.size + 1 + 1, 1, none⟩ = some (.slice none 0 0) := by rw [hA]; simp [go_sem]
  have p2 : A.cell? ⟨w0.heap.size + 1 + 1, 2, none⟩ = some (.slice none 0 0) := by rw [hA]; simp [go_sem]
  have p3 : A.cell? ⟨w0.heap.size + 1 + 1, 3, none⟩ = some (.slice none 0 0) := by rw [hA]; simp [go_sem]
  have p4 : A.cell? ⟨w0.heap.size + 1 + 1, 4, none⟩ = some (.slice none 0 0) := by rw [hA]; simp [go_sem]
  have p5 : A.cell? ⟨w0.heap.size + 1 + 1, 5, none⟩ = some (.slice none 0 0) := by rw [hA]; simp [go_sem]
  have p6 : A.cell? ⟨w0.heap.size + 1 + 1, 6, none⟩ = some (.slice none 0 0) := by rw [hA]; simp [go_sem]
  have p7 : A.cell? ⟨w0.heap.size + 1 + 1, 7, none⟩ = some (.slice none 0 0) := by rw [hA]; simp [go_sem]
  have p8 : A.cell? ⟨w0.heap.size + 1 + 1, 8, none⟩ = some (.slice none 0 0) := by rw [hA]; simp [go_sem]
  have p9 : A.cell? ⟨w0.heap.size + 1 + 1, 9, none⟩ = some (.slice none 0 0) := by rw [hA]; simp [go_sem]
  have p10 : A.cell? ⟨w0.heap.size + 1 + 1, 10, none⟩ = some (.slice none 0 0) := by rw [hA]; simp [go_sem]
  have p11 : A.cell? ⟨w0.heap.size + 1 + 1, 11, none⟩ = some (.slice none 0 0) := by rw [hA]; simp [go_sem]
  have x0 : A.cell? ⟨w0.heap.size + 1 + 1 + 1, 0, none⟩ = some (.int .i64 1) := by rw [hA]; simp [go_sem]
  have x1 : A.cell? ⟨w0.heap.size + 1 + 1 + 1, 1, none⟩ = some (.int .i64 0) := by rw [hA]; simp [go_sem]
  have x2 : A.cell? ⟨w0.heap.size + 1 + 1 + 1, 2, none⟩ = some (.slice none 0 0) := by rw [hA]; simp [go_sem]
  have x3 : A.cell? ⟨w0.heap.size + 1 + 1 + 1, 3, none⟩ = some (.slice none 0 0) := by rw [hA]; simp [go_sem]
  have x4 : A.cell? ⟨w0.heap.size + 1 + 1 + 1, 4, none⟩ = some (.slice none 0 0) := by rw [hA]; simp [go_sem]
  have x5 : A.cell? ⟨w0.heap.size + 1 + 1 + 1, 5, none⟩ = some (.slice none 0 0) := by rw [hA]; simp [go_sem]
  have x6 : A.cell? ⟨w0.heap.size + 1 + 1 + 1, 6, none⟩ = some (.int .i64 0) := by rw [hA]; simp [go_sem]
  have x7 : A.cell? ⟨w0.heap.size + 1 + 1 + 1, 7, none⟩ = some (.int .i64 0) := by rw [hA]; simp [go_sem]
  have x8 : A.cell? ⟨w0.heap.size + 1 + 1 + 1, 8, none⟩ = some (.slice none 0 0) := by rw [hA]; simp [go_sem]
  have x9 : A.cell? ⟨w0.heap.size + 1 + 1 + 1, 9, none⟩ = some (.int .i64 0) := by rw [hA]; simp [go_sem]
  have hls : w0.heap.size + 1 + 1 + 1 < A.heap.size := by rw [hA]; simp
  rw [← hA]
  clear hA
  refine (take_nothing (w0.heap.size + 1) w0.heap.size (.pointer (some ⟨b, 0, none⟩)) h A hh).mono ?_
  rintro e w1 ⟨b0, b1, b2, rfl, hb1⟩
  have k1 : ∀ c j, c ≤ w0.heap.size + 1 + 1 + 1 → w1.cell? ⟨c, j, none⟩ = A.cell? ⟨c, j, none⟩ := fun c j hc => hb1.cell (p := ⟨c, j, none⟩) (by show c < _; omega)
  have q0 : w1.cell? ⟨w0.heap.size + 1 + 1, 0, none⟩ = some (.slice (some ⟨w0.heap.size + 1, 0, none⟩) 1 1) := (k1 _ _ (by omega)).trans p0
  have q1 : w1.cell? ⟨w0.heap.size + 1 + 1, 1, none⟩ = some (.slice none 0 0) := (k1 _ _ (by omega)).trans p1
  have q2 : w1.cell? ⟨w0.heap.size + 1 + 1, 2, none⟩ = some (.slice none 0 0) := (k1 _ _ (by omega)).trans p2
  have q3 : w1.cell? ⟨w0.heap.size + 1 + 1, 3, none⟩ = some (.slice none 0 0) := (k1 _ _ (by omega)).trans p3
  have q4 : w1.cell? ⟨w0.heap.size + 1 + 1, 4, none⟩ = some (.slice none 0 0) := (k1 _ _ (by omega)).trans p4
  have q5 : w1.cell? ⟨w0.heap.size + 1 + 1, 5, none⟩ = some (.slice none 0 0) := (k1 _ _ (by omega)).trans p5
  have q6 : w1.cell? ⟨w0.heap.size + 1 + 1, 6, none⟩ = some (.slice none 0 0) := (k1 _ _ (by omega)).trans p6
  have q7 : w1.cell? ⟨w0.heap.size + 1 + 1, 7, none⟩ = some (.slice none 0 0) := (k1 _ _ (by omega)).trans p7
  have q8 : w1.cell? ⟨w0.heap.size + 1 + 1, 8, none⟩ = some (.slice none 0 0) := (k1 _ _ (by omega)).trans p8
  have q9 : w1.cell? ⟨w0.heap.size + 1 + 1, 9, none⟩ = some (.slice none 0 0) := (k1 _ _ (by omega)).trans p9
  have q10 : w1.cell? ⟨w0.heap.size + 1 + 1, 10, none⟩ = some (.slice none 0 0) := (k1 _ _ (by omega)).trans p10
  have q11 : w1.cell? ⟨w0.heap.size + 1 + 1, 11, none⟩ = some (.slice none 0 0) := (k1 _ _ (by omega)).trans p11
  have y0 : w1.cell? ⟨w0.heap.size + 1 + 1 + 1, 0, none⟩ = some (.int .i64 1) := (k1 _ _ (by omega)).trans x0
  have y1 : w1.cell? ⟨w0.heap.size + 1 + 1 + 1, 1, none⟩ = some (.int .i64 0) := (k1 _ _ (by omega)).trans x1
  have y2 : w1.cell? ⟨w0.heap.size + 1 + 1 + 1, 2, none⟩ = some (.slice none 0 0) := (k1 _ _ (by omega)).trans x2
  have y3 : w1.cell? ⟨w0.heap.size + 1 + 1 + 1, 3, none⟩ = some (.slice none 0 0) := (k1 _ _ (by omega)).trans x3
  have y4 : w1.cell? ⟨w0.heap.size + 1 + 1 + 1, 4, none⟩ = some (.slice none 0 0) := (k1 _ _ (by omega)).trans x4
  have y5 : w1.cell? ⟨w0.heap.size + 1 + 1 + 1, 5, none⟩ = some (.slice none 0 0) := (k1 _ _ (by omega)).trans x5
  have y6 : w1.cell? ⟨w0.heap.size + 1 + 1 + 1, 6, none⟩ = some (.int .i64 0) := (k1 _ _ (by omega)).trans x6
  have y7 : w1.cell? ⟨w0.heap.size + 1 + 1 + 1, 7, none⟩ = some (.int .i64 0) := (k1 _ _ (by omega)).trans x7
  have y8 : w1.cell? ⟨w0.heap.size + 1 + 1 + 1, 8, none⟩ = some (.slice none 0 0) := (k1 _ _ (by omega)).trans x8
  have y9 : w1.cell? ⟨w0.heap.size + 1 + 1 + 1, 9, none⟩ = some (.int .i64 0) := (k1 _ _ (by omega)).trans x9
  have hl1 : w0.heap.size + 1 + 1 + 1 < w1.heap.size := Nat.lt_of_lt_of_le hls hb1.size
  have HB1 : Hid (Below w0.heap.size w0 w1) := hbA.trans (hb1.mono hbA.size)
  clear hb1 k1 hh hbA hls p0 p1 p2 p3 p4 p5 p6 p7 p8 p9 p10 p11 x0 x1 x2 x3 x4 x5 x6 x7 x8 x9
  go_wp2_with fail
  obtain ⟨B1, hB⟩ : ∃ B1, B1 = w1.alloc (.cells #[.int .i64 0, .int .i64 0, .slice (some b0) 0 0, .slice none 0 0, .slice (some b2) 0 0, .slice (some b1) 0 0, .int .i64 0, .int .i64 0, .slice none 0 0, .int .i64 0] 97) := ⟨_, rfl⟩
  have HBB : Hid (Below w0.heap.size w0 B1) := by show Below _ _ _; rw [hB]; exact HB1.out.alloc HB1.out.size _
  have hy0 : B1.cell? ⟨w1.heap.size, 0, none⟩ = some (.int .i64 0) := by rw [hB]; simp [go_sem]
  have hl2 : w1.heap.size < B1.heap.size := by rw [hB]; simp
  have s0 : B1.cell? ⟨w0.heap.size + 1 + 1, 0, none⟩ = some (.slice (some ⟨w0.heap.size + 1, 0, none⟩) 1 1) := by rw [hB]; exact (World.cell?_alloc_lt w1 _ ⟨w0.heap.size + 1 + 1, 0, none⟩ (by show w0.heap.size + 1 + 1 < _; omega)).trans q0
  have s1 : B1.cell? ⟨w0.heap.size + 1 + 1, 1, none⟩ = some (.slice none 0 0) := by rw [hB]; exact (World.cell?_alloc_lt w1 _ ⟨w0.heap.size + 1 + 1, 1, none⟩ (by show w0.heap.size + 1 + 1 < _; omega)).trans q1
  have s2 : B1.cell? ⟨w0.heap.size + 1 + 1, 2, none⟩ = some (.slice none 0 0) := by rw [hB]; exact (World.cell?_alloc_lt w1 _ ⟨w0.heap.size + 1 + 1, 2, none⟩ (by show w0.heap.size + 1 + 1 < _; omega)).trans q2
  have s3 : B1.cell? ⟨w0.heap.size + 1 + 1, 3, none⟩ = some (.slice none 0 0) := by rw [hB]; exact (World.cell?_alloc_lt w1 _ ⟨w0.heap.size + 1 + 1, 3, none⟩ (by show w0.heap.size + 1 + 1 < _; omega)).trans q3
  have s4 : B1.cell? ⟨w0.heap.size + 1 + 1, 4, none⟩ = some (.slice none 0 0) := by rw [hB]; exact (World.cell?_alloc_lt w1 _ ⟨w0.heap.size + 1 + 1, 4, none⟩ (by show w0.heap.size + 1 + 1 < _; omega)).trans q4
  have s5 : B1.cell? ⟨w0.heap.size + 1 + 1, 5, none⟩ = some (.slice none 0 0) := by rw [hB]; exact (World.cell?_alloc_lt w1 _ ⟨w0.heap.size + 1 + 1, 5, none⟩ (by show w0.heap.size + 1 + 1 < _; omega)).trans q5
  have s6 : B1.cell? ⟨w0.heap.size + 1 + 1, 6, none⟩ = some (.slice none 0 0) := by rw [hB]; exact (World.cell?_alloc_lt w1 _ ⟨w0.heap.size + 1 + 1, 6, none⟩ (by show w0.heap.size + 1 + 1 < _; omega)).trans q6
  have s7 : B1.cell? ⟨w0.heap.size + 1 + 1, 7, none⟩ = some (.slice none 0 0) := by rw [hB]; exact (World.cell?_alloc_lt w1 _ ⟨w0.heap.size + 1 + 1, 7, none⟩ (by show w0.heap.size + 1 + 1 < _; omega)).trans q7
  have s8 : B1.cell? ⟨w0.heap.size + 1 + 1, 8, none⟩ = some (.slice none 0 0) := by rw [hB]; exact (World.cell?_alloc_lt w1 _ ⟨w0.heap.size + 1 + 1, 8, none⟩ (by show w0.heap.size + 1 + 1 < _; omega)).trans q8
  have s9 : B1.cell? ⟨w0.heap.size + 1 + 1, 9, none⟩ = some (.slice none 0 0) := by rw [hB]; exact (World.cell?_alloc_lt w1 _ ⟨w0.heap.size + 1 + 1, 9, none⟩ (by show w0.heap.size + 1 + 1 < _; omega)).trans q9
  have s10 : B1.cell? ⟨w0.heap.size + 1 + 1, 10, none⟩ = some (.slice none 0 0) := by rw [hB]; exact (World.cell?_alloc_lt w1 _ ⟨w0.heap.size + 1 + 1, 10, none⟩ (by show w0.heap.size + 1 + 1 < _; omega)).trans q10
  have s11 : B1.cell? ⟨w0.heap.size + 1 + 1, 11, none⟩ = some (.slice none 0 0) := by rw [hB]; exact (World.cell?_alloc_lt w1 _ ⟨w0.heap.size + 1 + 1, 11, none⟩ (by show w0.heap.size + 1 + 1 < _; omega)).trans q11
  have z0 : B1.cell? ⟨w0.heap.size + 1 + 1 + 1, 0, none⟩ = some (.int .i64 1) := by rw [hB]; exact (World.cell?_alloc_lt w1 _ ⟨w0.heap.size + 1 + 1 + 1, 0, none⟩ (by show w0.heap.size + 1 + 1 + 1 < _; omega)).trans y0
  have z1 : B1.cell? ⟨w0.heap.size + 1 + 1 + 1, 1, none⟩ = some (.int .i64 0) := by rw [hB]; exact (World.cell?_alloc_lt w1 _ ⟨w0.heap.size + 1 + 1 + 1, 1, none⟩ (by show w0.heap.size + 1 + 1 + 1 < _; omega)).trans y1
  have z2 : B1.cell? ⟨w0.heap.size + 1 + 1 + 1, 2, none⟩ = some (.slice none 0 0) := by rw [hB]; exact (World.cell?_alloc_lt w1 _ ⟨w0.heap.size + 1 + 1 + 1, 2, none⟩ (by show w0.heap.size + 1 + 1 + 1 < _; omega)).trans y2
  have z3 : B1.cell? ⟨w0.heap.size + 1 + 1 + 1, 3, none⟩ = some (.slice none 0 0) := by rw [hB]; exact (World.cell?_alloc_lt w1 _ ⟨w0.heap.size + 1 + 1 + 1, 3, none⟩ (by show w0.heap.size + 1 + 1 + 1 < _; omega)).trans y3
  have z4 : B1.cell? ⟨w0.heap.size + 1 + 1 + 1, 4, none⟩ = some (.slice none 0 0) := by rw [hB]; exact (World.cell?_alloc_lt w1 _ ⟨w0.heap.size + 1 + 1 + 1, 4, none⟩ (by show w0.heap.size + 1 + 1 + 1 < _; omega)).trans y4
  have z5 : B1.cell? ⟨w0.heap.size + 1 + 1 + 1, 5, none⟩ = some (.slice none 0 0) := by rw [hB]; exact (World.cell?_alloc_lt w1 _ ⟨w0.heap.size + 1 + 1 + 1, 5, none⟩ (by show w0.heap.size + 1 + 1 + 1 < _; omega)).trans y5
  have z6 : B1.cell? ⟨w0.heap.size + 1 + 1 + 1, 6, none⟩ = some (.int .i64 0) := by rw [hB]; exact (World.cell?_alloc_lt w1 _ ⟨w0.heap.size + 1 + 1 + 1, 6, none⟩ (by show w0.heap.size + 1 + 1 + 1 < _; omega)).trans y6
  have z7 : B1.cell? ⟨w0.heap.size + 1 + 1 + 1, 7, none⟩ = some (.int .i64 0) := by rw [hB]; exact (World.cell?_alloc_lt w1 _ ⟨w0.heap.size + 1 + 1 + 1, 7, none⟩ (by show w0.heap.size + 1 + 1 + 1 < _; omega)).trans y7
  have z8 : B1.cell? ⟨w0.heap.size + 1 + 1 + 1, 8, none⟩ = some (.slice none 0 0) := by rw [hB]; exact (World.cell?_alloc_lt w1 _ ⟨w0.heap.size + 1 + 1 + 1, 8, none⟩ (by show w0.heap.size + 1 + 1 + 1 < _; omega)).trans y8
  have z9 : B1.cell? ⟨w0.heap.size + 1 + 1 + 1, 9, none⟩ = some (.int .i64 0) := by rw [hB]; exact (World.cell?_alloc_lt w1 _ ⟨w0.heap.size + 1 + 1 + 1, 9, none⟩ (by show w0.heap.size + 1 + 1 + 1 < _; omega)).trans y9
  rw [← hB]
  clear hB HB1 q0 q1 q2 q3 q4 q5 q6 q7 q8 q9 q10 q11 y0 y1 y2 y3 y4 y5 y6 y7 y8 y9
  have HGN := Lib.hid (get_none (.pointer (some ⟨b, 0, none⟩)) (w0.heap.size + 1 + 1 + 1) none 0 h f B1 z3)
  have HSN := Lib.hid (set_none (w0.heap.size + 1) (.pointer (some ⟨b, 0, none⟩)) (.slice pv n cv) (w0.heap.size + 1 + 1 + 1) none 0 h f B1 z3)
  refine HGN.out.mono ?_
  rintro e w2 ⟨rfl, rfl⟩
  go_wp2_with fail
  refine HSN.out.mono ?_
  rintro e w3 ⟨rfl, hb3⟩
  have v3 := (hb3.cell (p := ⟨w0.heap.size + 1 + 1 + 1, 3, none⟩) (cell_there z3).1).trans z3
  have v9 := (hb3.cell (p := ⟨w0.heap.size + 1 + 1 + 1, 9, none⟩) (cell_there z9).1).trans z9
  have u0 := (hb3.cell (p := ⟨w1.heap.size, 0, none⟩) (cell_there hy0).1).trans hy0
  have HB3 : Hid (Below w0.heap.size w0 w3) := HBB.out.trans (hb3.mono HBB.out.size)
  clear hb3 HGN HSN HBB hy0 s0 s1 s2 s3 s4 s5 s6 s7 s8 s9 s10 s11 z0 z1 z2 z3 z4 z5 z6 z7 z8 z9
  go_wp2_with fail
  refine (valid_none (.pointer (some ⟨b, 0, none⟩)) (w0.heap.size + 1 + 1 + 1) none 0 h w3 v3).mono ?_
  rintro e w4 ⟨rfl, rfl⟩
  have HG := Lib.hid (get_nil (.pointer (some ⟨b, 0, none⟩)) h f w3)
  have HKK := Lib.hid (HK.out w3)
  have HB0 : Hid (Below w.heap.size w w3) := HBN.out.trans (HB3.out.mono HBN.out.size)
  clear HK HBN HB3
  go_wp2_with (first
    | (go_at_call 62; (with_reducible refine HG.out.mono ?_); rintro e w4 ⟨rfl, rfl⟩)
    | (go_at_call 60; (with_reducible refine HKK.out.mono ?_); rintro e w5 ⟨rfl, hb5⟩; have HB5 := Lib.hid (HB0.out.trans (hb5.mono HB0.out.size)); clear hb5))
  go_ret
  exact ⟨rfl, HB5.out⟩

theorem law24 (h f : Int) (va : Value) (xs : List Int) (w : World) (ha : IVec w va xs) (HK : ∀ W, Calls Try.prog 60 #[] W fun e w' => e = .returned (.bool true) ∧ Below W.heap.size W w') :
    Calls Try.prog 7 #[.int .i64 h, .int .i64 f, va] w fun e w' => e = .returned (.bool true) ∧ Below w.heap.size w w' := by
  obtain ⟨pv, cv, rfl, h1, h2, -⟩ := ha
  by_cases hb : 300 < xs.length
  · exact law24_big h f pv _ cv w (by unfold maxLen at h2; omega) hb HK
  · exact law24_go h f pv _ cv w (by omega) HK

end Go.Proofs.Ytlnkflmnjkmhkaa

/-
  Regions that draw their order and make memory: what each operation tells, and of which blocks of its own; what holds whatever has been done.
-/
namespace Go.Proofs.Ytlnkflmnjkmhkaa
open Go.RowKit Go.Maps

/-- What is told of an operation: of its own blocks, the world, the values it hangs on, its own value. -/
abbrev Tw := (Nat → Prop) → World → List Value → Value → Prop

/-- kd: on which others an operation's value hangs, and what is told of it and of its own blocks; dep: the old blocks that facts may hang on; G: what holds of the world besides. -/
structure Rw where
  n0 : Nat
  dep : Nat → Prop
  kd : List (List Nat × Tw)
  G : Array Bool → List Value → World → Prop

/-- A known value. -/
def isV (v : Value) : List Nat × Tw := ([], fun _ _ _ x => x = v)
def NewB (w w' : World) (k : Nat) : Prop := w.heap.size ≤ k ∧ k < w'.heap.size

structure RWg (S : Rw) (L : Array Bool) (l : List Value) (w : World) (B : Nat → Nat → Prop) : Prop where
  glob : S.G L l w
  size : S.n0 ≤ w.heap.size
  ok : ∀ (i : Nat) (js : List Nat) (P : Tw), did L i = true → S.kd[i]? = some (js, P) → (∀ j ∈ js, did L j = true) ∧ P (B i) w (js.map (nth l)) (nth l i)
  blk : ∀ i k, did L i = true → B i k → S.n0 ≤ k ∧ k < w.heap.size
  apart : ∀ i j k, did L i = true → did L j = true → B i k → B j k → i = j
def RW (S : Rw) (L : Array Bool) (l : List Value) (w : World) : Prop := ∃ B, RWg S L l w B

structure Rw.Fine (S : Rw) : Prop where
  old : ∀ k, S.dep k → k < S.n0
  stab : ∀ (i : Nat) (js : List Nat) (P : Tw), S.kd[i]? = some (js, P) → ∀ (B : Nat → Prop) (w w' : World) (ls : List Value) (v : Value), P B w ls v → (∀ k, B k → k < w.heap.size) → (∀ k, B k ∨ S.dep k → w'.heap[k]? = w.heap[k]?) → w.heap.size ≤ w'.heap.size → P B w' ls v

variable {S : Rw} {w w' : World} {L : Array Bool} {l : List Value}
theorem RW.init (h : ∀ i, did L i = false) (hs : S.n0 ≤ w.heap.size) (hG : S.G L l w) : RW S L l w :=
  ⟨fun _ _ => False, hG, hs, (fun i js P h1 => by rw [h] at h1; cases h1), (fun i k h1 => by rw [h] at h1; cases h1), fun i j k h1 => by rw [h] at h1; cases h1⟩
theorem RW.glob (h : RW S L l w) : S.G L l w := by obtain ⟨B, h⟩ := h; exact h.glob
theorem RW.got (h : RW S L l w) (i : Nat) {v : Value} (hd : did L i = true) (hk : S.kd[i]? = some (isV v)) : nth l i = v := by
  obtain ⟨B, h⟩ := h
  exact (h.ok i _ _ hd hk).2
theorem RW.made (h : RW S L l w) (i : Nat) {js : List Nat} {P : Tw} (hd : did L i = true) (hk : S.kd[i]? = some (js, P)) : ∃ B, (∀ k, B k → S.n0 ≤ k ∧ k < w.heap.size) ∧ P B w (js.map (nth l)) (nth l i) := by
  obtain ⟨B, h⟩ := h
  exact ⟨B i, fun k => h.blk i k hd, (h.ok i _ _ hd hk).2⟩

theorem RWg.turn {B : Nat → Nat → Prop} (i : Nat) (v : Value) {js : List Nat} {P : Tw} (h : RWg S L l w B) (hn : did L i = false) (hL : i < L.size) (hl : i < l.length) (hk : S.kd[i]? = some (js, P)) (hjs : ∀ j ∈ js, did L j = true) (hsz : w.heap.size ≤ w'.heap.size)
    (hold : ∀ (j : Nat) (js' : List Nat) (P' : Tw), did L j = true → S.kd[j]? = some (js', P') → P' (B j) w (js'.map (nth l)) (nth l j) → P' (B j) w' (js'.map (nth l)) (nth l j))
    (hG : S.G (L.setIfInBounds i true) (l.set i v) w') (hnew : P (NewB w w') w' (js.map (nth l)) v) : RW S (L.setIfInBounds i true) (l.set i v) w' := by
  have keep : ∀ js : List Nat, (∀ j ∈ js, did L j = true) → js.map (nth (l.set i v)) = js.map (nth l) := fun js hjs => List.map_congr_left fun j hj => nth_other (fun q => by have := hjs j hj; rw [← q, hn] at this; cases this)
  have dd : ∀ j, did L j = true → did (L.setIfInBounds i true) j = true := fun j hj => by
    by_cases e : j = i
    · subst e; exact did_same hL
    · rw [did_other e]; exact hj
  refine ⟨fun j k => if j = i then NewB w w' k else B j k, hG, Nat.le_trans h.size hsz, fun j js' P' hj hk' => ?_, fun j k hj hb => ?_, fun j m k hj hm hb hc => ?_⟩
  · by_cases e : j = i
    · subst e
      rw [hk] at hk'
      cases hk'
      refine ⟨fun m hm => dd m (hjs m hm), ?_⟩
      rw [keep _ hjs, nth_same hl]
      simpa using hnew
    · rw [did_other e] at hj
      obtain ⟨a1, a2⟩ := h.ok j js' P' hj hk'
      refine ⟨fun m hm => dd m (a1 m hm), ?_⟩
      rw [keep _ a1, nth_other (fun q => e q.symm)]
      have := hold j js' P' hj hk' a2
      simpa [e] using this
  · by_cases e : j = i
    · subst e
      simp only [if_pos] at hb
      exact ⟨Nat.le_trans h.size hb.1, hb.2⟩
    · rw [did_other e] at hj
      simp only [e, if_false] at hb
      have := h.blk j k hj hb
      omega
  · by_cases e : j = i <;> by_cases e2 : m = i
    · rw [e, e2]
    · exfalso
      simp only [e, e2, if_true, if_false] at hb hc
      rw [did_other e2] at hm
      have := (h.blk m k hm hc).2
      have := hb.1
      omega
    · exfalso
      simp only [e, e2, if_true, if_false] at hb hc
      rw [did_other e] at hj
      have := (h.blk j k hj hb).2
      have := hc.1
      omega
    · simp only [e, e2, if_false] at hb hc
      rw [did_other e] at hj
      rw [did_other e2] at hm
      exact h.apart j m k hj hm hb hc

/-- An operation that leaves all that was. -/
theorem RW.quiet (i : Nat) (v : Value) {js : List Nat} {P : Tw} (h : RW S L l w) (hS : S.Fine) (hn : did L i = false) (hL : i < L.size) (hl : i < l.length) (hk : S.kd[i]? = some (js, P)) (hjs : ∀ j ∈ js, did L j = true) (hb : Below w.heap.size w w')
    (hG : S.G L l w → S.G (L.setIfInBounds i true) (l.set i v) w') (hnew : P (NewB w w') w' (js.map (nth l)) v) : RW S (L.setIfInBounds i true) (l.set i v) w' := by
  obtain ⟨B, h⟩ := h
  exact h.turn i v hn hL hl hk hjs hb.size (fun j js' P' hj hk' hp => hS.stab j js' P' hk' _ _ _ _ _ hp (fun k hb => (h.blk j k hj hb).2) (fun k hb' => hb.block k (by
    rcases hb' with q | q
    · exact (h.blk j k hj q).2
    · have := hS.old k q; have := h.size; omega)) hb.size) (hG h.glob) hnew
theorem RW.val (i : Nat) (v : Value) (h : RW S L l w) (hS : S.Fine) (hn : did L i = false) (hL : i < L.size) (hl : i < l.length) (hk : S.kd[i]? = some (isV v)) (hb : Below w.heap.size w w') (hG : S.G L l w → S.G (L.setIfInBounds i true) (l.set i v) w') : RW S (L.setIfInBounds i true) (l.set i v) w' :=
  h.quiet i v hS hn hL hl hk (fun j hj => by cases hj) hb hG rfl

/-- A store into a block g: an own one of operation t, or an old one that no fact hangs on. -/
theorem RW.put (i t g : Nat) (v : Value) {js : List Nat} {P : Tw} (h : RW S L l w) (hS : S.Fine) (hn : did L i = false) (hL : i < L.size) (hl : i < l.length) (hk : S.kd[i]? = some (js, P)) (hjs : ∀ j ∈ js, did L j = true)
    (hw : ∀ k, k ≠ g → w'.heap[k]? = w.heap[k]?) (hsz : w'.heap.size = w.heap.size)
    (hown : ∀ B, RWg S L l w B → (∀ j, did L j = true → j ≠ t → ¬ B j g) ∧ ¬ S.dep g)
    (ht : ∀ (js' : List Nat) (P' : Tw), S.kd[t]? = some (js', P') → ∀ (B : Nat → Prop) (ls : List Value) (x : Value), P' B w ls x → P' B w' ls x)
    (hG : S.G L l w → S.G (L.setIfInBounds i true) (l.set i v) w') (hnew : P (NewB w w') w' (js.map (nth l)) v) : RW S (L.setIfInBounds i true) (l.set i v) w' := by
  obtain ⟨B, h⟩ := h
  obtain ⟨o1, o2⟩ := hown B h
  refine h.turn i v hn hL hl hk hjs (by omega) (fun j js' P' hj hk' hp => ?_) (hG h.glob) hnew
  by_cases e : j = t
  · subst e; exact ht _ _ hk' _ _ _ hp
  · refine hS.stab j js' P' hk' _ _ _ _ _ hp (fun k hb => (h.blk j k hj hb).2) (fun k hb' => hw k fun q => ?_) (by omega)
    subst q
    rcases hb' with q | q
    · exact o1 j hj e q
    · exact o2 q

end Go.Proofs.Ytlnkflmnjkmhkaa

/-
  symhead.own of the packet of the page's examples.
-/
namespace Go.Proofs.Ytlnkflmnjkmhkaa
open Go.RowKit Go.Maps

/-- What own's callees tell of that packet: rows in memory behind n0. -/
def PrK (n0 : Nat) (bs : List Int) (k : Nat) (f : Nat → Value) (W : World) : Prop :=
  (0 < k → ∃ r ca a, f 0 = .slice (some ⟨r, 0, none⟩) 1 1 ∧ n0 < r ∧ W.cell? ⟨r, 0, none⟩ = some (.slice (some a) 8 ca) ∧ IVec W (.slice (some a) 8 ca) bs ∧ n0 < a.block) ∧
  (1 < k → ∃ b, f 1 = .slice (some b) 0 0) ∧
  (2 < k → ∃ vb c, f 2 = .slice (some ⟨vb, 0, none⟩) 1 c ∧ 1 ≤ c ∧ n0 < vb ∧ W.cell? ⟨vb, 0, none⟩ = some (.int .i64 0) ∧ W.frozen? ⟨vb, 0, none⟩ = false) ∧
  (3 < k → ∃ p n c, f 3 = .slice p n c)

theorem IVec.setOther {W : World} {a : Addr} {n ca b j : Nat} {xs : List Int} {x : Value} (h : IVec W (.slice (some a) n ca) xs) (hb : b ≠ a.block) : IVec (W.setCell ⟨b, j, none⟩ x) (.slice (some a) n ca) xs := by
  obtain ⟨pa, c, e, h1, h2, h3⟩ := h
  refine ⟨pa, c, e, h1, h2, fun h0 => ?_⟩
  obtain ⟨b1, o1, e1, hl, hc⟩ := h3 h0
  simp only [Value.slice.injEq] at e
  have ea : a = ⟨b1, o1, none⟩ := by have := e.1.trans e1; simpa using this
  subst ea
  exact ⟨b1, o1, e1, by simpa [World.setCell] using hl, fun i hi => by rw [World.cell?_of_block (a := ⟨b1, o1 + i, none⟩) (setCell_heap (w := W) (g := b) (k := b1) (i := j) (v := x) (fun q => hb q.symm))]; exact hc i hi⟩

theorem prK_ok (g1 : Nat) (bs : List Int) : PrOk g1 (PrK (g1 + 1) bs) where
  loc := fun k f g W e ⟨h0, h1, h2, h3⟩ => ⟨fun h => by rw [← e 0 h]; exact h0 h, fun h => by rw [← e 1 h]; exact h1 h, fun h => by rw [← e 2 h]; exact h2 h, fun h => by rw [← e 3 h]; exact h3 h⟩
  later := fun k f W W' ⟨h0, h1, h2, h3⟩ hb => by
    refine ⟨fun h => ?_, h1, fun h => ?_, h3⟩
    · obtain ⟨r, ca, a, e, hr, hc, hv, ha⟩ := h0 h
      exact ⟨r, ca, a, e, hr, (hb.cell (p := ⟨r, 0, none⟩) (cell_there hc).1).trans hc, hv.below hb, ha⟩
    · obtain ⟨vb, c, e, hc1, hv, hc, hf⟩ := h2 h
      exact ⟨vb, c, e, hc1, hv, (hb.cell (p := ⟨vb, 0, none⟩) (cell_there hc).1).trans hc, (hb.frozen (p := ⟨vb, 0, none⟩) (cell_there hc).1).trans hf⟩
  box := fun f W b j x hb1 hb2 ⟨h0, h1, h2, h3⟩ => by
    refine ⟨fun h => ?_, h1, fun h => ?_, h3⟩
    · obtain ⟨r, ca, a, e, hr, hc, hv, ha⟩ := h0 h
      exact ⟨r, ca, a, e, hr, (World.cell?_of_block (a := ⟨r, 0, none⟩) (setCell_heap (by show r ≠ b; omega))).trans hc, hv.setOther (by omega), ha⟩
    · obtain ⟨vb, c, e, hc1, hv, hc, hf⟩ := h2 h
      exact ⟨vb, c, e, hc1, hv, (World.cell?_of_block (a := ⟨vb, 0, none⟩) (setCell_heap (by show vb ≠ b; omega))).trans hc, (World.frozen?_of_block (a := ⟨vb, 0, none⟩) (setCell_heap (by show vb ≠ b; omega))).trans hf⟩
  shape := fun f W j hj ⟨h0, h1, h2, h3⟩ => by
    match j, hj with
    | 0, _ => obtain ⟨r, ca, a, e, -⟩ := h0 (by omega); exact ⟨_, _, _, e⟩
    | 1, _ => obtain ⟨b, e⟩ := h1 (by omega); exact ⟨_, _, _, e⟩
    | 2, _ => obtain ⟨vb, c, e, -⟩ := h2 (by omega); exact ⟨_, _, _, e⟩
    | 3, _ => exact h3 (by omega)

theorem prK_calls (w : World) (bs : List Int) (hbs : bs.length = 8) (r0 rc0 ca v0 e0 : Nat) (a : Addr) (es : List Int) (hes : es.length = 9)
    (hrc : 1 ≤ rc0) (hR : w.cell? ⟨r0, 0, none⟩ = some (.slice (some a) 8 ca)) (hRv : IVec w (.slice (some a) 8 ca) bs) (hV : IVec w (.slice (some ⟨v0, 0, none⟩) 1 1) [0]) (hE : IVec w (.slice (some ⟨e0, 0, none⟩) 9 9) es) :
    OwnCalls w (.slice (some ⟨r0, 0, none⟩) 1 rc0) (.slice (some ⟨v0, 0, none⟩) 1 1) (.slice none 0 0) (.slice (some ⟨e0, 0, none⟩) 9 9) (PrK (w.heap.size + 1) bs) := by
  refine ⟨fun f W hW hs h => ?_, fun f W hW hs h => ?_, fun f W hW hs h => ?_, fun f W hW hs h => ?_⟩
  · refine (vecs_one r0 rc0 8 ca a bs W hbs ((hW.cell (p := ⟨r0, 0, none⟩) (cell_there hR).1).trans hR) (hRv.below hW) hrc (by omega)).mono ?_
    rintro e w' ⟨rfl, ⟨rv, h1, -, h3⟩, hb⟩
    refine ⟨_, rfl, ⟨fun _ => ?_, fun h => by omega, fun h => by omega, fun h => by omega⟩, hb⟩
    have h3' := h3
    obtain ⟨-, ⟨e1, e2⟩ | ⟨g, cap, cur, e1, -⟩⟩ := h3'
    · omega
    · subst e1
      rw [hbs] at h1 h3
      exact ⟨W.heap.size, cap, ⟨g, 0, none⟩, rfl, by omega, h1, IVec.of_owns hbs h3, by have := (h3.lt g rfl).1; show _ < g; omega⟩
  · refine (vecs_nil none 0 W).mono ?_
    rintro e w' ⟨rfl, hb⟩
    obtain ⟨q0, -, -, -⟩ := (prK_ok w.heap.size bs).later _ _ _ _ h hb
    exact ⟨_, rfl, ⟨fun _ => q0 (by omega), fun _ => ⟨_, rfl⟩, fun h => by omega, fun h => by omega⟩, hb⟩
  · refine (cloneI_any ⟨v0, 0, none⟩ 1 1 [0] W rfl (hV.below hW) (by simp)).mono ?_
    rintro e w' ⟨v, rfl, hown, hb⟩
    obtain ⟨q0, q1, -, -⟩ := (prK_ok w.heap.size bs).later _ _ _ _ h hb
    refine ⟨_, rfl, ⟨fun _ => q0 (by omega), fun _ => q1 (by omega), fun _ => ?_, fun h => by omega⟩, hb⟩
    have h3' := hown
    obtain ⟨-, ⟨e1, e2⟩ | ⟨g, cap, cur, e1, -, -, hle, -⟩⟩ := h3'
    · simp at e2
    · subst e1
      exact ⟨g, cap, rfl, hle, by have := (hown.lt g rfl).1; omega, by rw [hown.cellAt 0 (by decide)]; rfl, hown.frozenAt 0⟩
  · refine (cloneV_any ⟨e0, 0, none⟩ 9 9 es W hes (hE.below hW) (by omega)).mono ?_
    rintro e w' ⟨v, rfl, hown, hb⟩
    obtain ⟨q0, q1, q2, -⟩ := (prK_ok w.heap.size bs).later _ _ _ _ h hb
    obtain ⟨p, c, e1, -⟩ := own_shape hown
    exact ⟨_, rfl, ⟨fun _ => q0 (by omega), fun _ => q1 (by omega), fun _ => q2 (by omega), fun _ => ⟨p, _, c, e1⟩⟩, hb⟩

def zero9 : List Int := [0, 0, 0, 0, 0, 0, 0, 0, 0]
/-- The packet of the page's examples, as New makes it. -/
def KIn (w : World) (bs : List Int) (X : Value) : Prop := ∃ (r0 rc0 ca v0 f0 fc0 q0 qc0 zc e0 : Nat) (a zz : Addr), X = .agg #[.int .i64 1, .int .i64 3, .slice (some ⟨r0, 0, none⟩) 1 rc0, .slice (some ⟨v0, 0, none⟩) 1 1, .slice (some ⟨f0, 0, none⟩) 1 fc0, .slice none 0 0, .int .i64 0, .int .i64 0, .slice (some ⟨e0, 0, none⟩) 9 9, .int .i64 0] ∧
  1 ≤ rc0 ∧ w.cell? ⟨r0, 0, none⟩ = some (.slice (some a) 8 ca) ∧ IVec w (.slice (some a) 8 ca) bs ∧ IVec w (.slice (some ⟨v0, 0, none⟩) 1 1) [0] ∧ 1 ≤ fc0 ∧ w.cell? ⟨f0, 0, none⟩ = some (.slice (some ⟨q0, 0, none⟩) 1 qc0) ∧ 1 ≤ qc0 ∧ w.cell? ⟨q0, 0, none⟩ = some (.slice (some zz) 8 zc) ∧ IVec w (.slice (some zz) 8 zc) zero8 ∧ IVec w (.slice (some ⟨e0, 0, none⟩) 9 9) zero9
/-- .. as own makes it: in new memory, the rows apart. -/
def KOut (n0 : Nat) (W : World) (bs : List Int) (r ca vb vc lo : Nat) (a b : Addr) (pe : Option Addr) (ne ce : Nat) (X : Value) : Prop :=
  X = .agg #[.int .i64 1, .int .i64 3, .slice (some ⟨r, 0, none⟩) 1 1, .slice (some ⟨vb, 0, none⟩) 1 vc, .slice (some ⟨lo, 0, none⟩) 1 1, .slice (some b) 0 0, .int .i64 0, .int .i64 0, .slice pe ne ce, .int .i64 0] ∧
  n0 < r ∧ W.cell? ⟨r, 0, none⟩ = some (.slice (some a) 8 ca) ∧ IVec W (.slice (some a) 8 ca) bs ∧ n0 < a.block ∧ 1 ≤ vc ∧ n0 < vb ∧ vb < lo ∧ W.cell? ⟨vb, 0, none⟩ = some (.int .i64 0) ∧ W.frozen? ⟨vb, 0, none⟩ = false ∧ FldR lo W

theorem own_known (w : World) (bs : List Int) (hbs : bs.length = 8) (X : Value) (h : KIn w bs X) :
    Calls Try.prog 117 #[X] w fun e w' => ∃ (r ca vb vc lo : Nat) (a b : Addr) (pe : Option Addr) (ne ce : Nat) (Y : Value), e = .returned Y ∧ KOut (w.heap.size + 1) w' bs r ca vb vc lo a b pe ne ce Y ∧ Below w.heap.size w w' := by
  obtain ⟨r0, rc0, ca, v0, f0, fc0, q0, qc0, zc, e0, a, zz, rfl, hrc, hR, hRv, hV, hfc, hF0, hqc, hF1, hF2, hE⟩ := h
  refine (own_f1 1 3 0 0 0 f0 fc0 q0 qc0 8 zc zz zero8 _ _ _ _ (PrK (w.heap.size + 1) bs) w (prK_ok _ bs) (fun f => ⟨fun h => by omega, fun h => by omega, fun h => by omega, fun h => by omega⟩) (prK_calls w bs hbs r0 rc0 ca v0 e0 a zero9 rfl hrc hR hRv hV hE) rfl hfc hqc hF0 hF1 hF2 (by decide) ⟨_, _, _, rfl⟩ ⟨_, _, _, rfl⟩ ⟨_, _, _, rfl⟩ ⟨_, _, _, rfl⟩).mono ?_
  rintro e w' ⟨f, lo, W4, rfl, ⟨h0, h1, h2, h3⟩, hb, ⟨-, -, k2, -⟩, ⟨hlo, hlo2⟩, hfld⟩
  obtain ⟨r, ca', a', e0', hr, hc, hv, ha⟩ := h0 (by omega)
  obtain ⟨b, e1'⟩ := h1 (by omega)
  obtain ⟨vb, vc, e2', hvc, hvb, hvcell, hvf⟩ := h2 (by omega)
  obtain ⟨pe, ne, ce, e3'⟩ := h3 (by omega)
  obtain ⟨vb', vc', e2'', -, -, hvcell', -⟩ := k2 (by omega)
  have evb : vb' = vb := by rw [e2'] at e2''; simp at e2''; exact e2''.1.symm
  subst evb
  have hvl : vb' < W4.heap.size := (cell_there hvcell').1
  rw [e0', e1', e2', e3']
  exact ⟨r, ca', vb', vc, lo, a', b, pe, ne, ce, _, rfl, ⟨rfl, hr, hc, hv, ha, hvc, hvb, by omega, hvcell, hvf, hfld⟩, hb⟩

end Go.Proofs.Ytlnkflmnjkmhkaa
