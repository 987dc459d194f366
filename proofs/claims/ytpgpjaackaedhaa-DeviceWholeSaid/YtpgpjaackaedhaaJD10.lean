/-
  A node of code that asks one number, done.
-/
import Derived.Test.YtpgpjaackaedhaaJD09

namespace Go.Proofs.Ytpgpjaackaedhaa
open Go.RowKit Go.Maps

theorem Stk.lt {w : World} {n0 m : Nat} {x : Value} {st : List (Nat × Int)} (h : Stk w n0 m x st) : m < w.heap.size := by
  obtain ⟨v, h1, -⟩ := h
  exact (Array.getElem?_eq_some_iff.1 h1).1
/-- A store into a block of another type. -/
theorem Stk.kept {w w' : World} {n0 m g : Nat} {x : Value} {st : List (Nat × Int)} {cs : Array Value} (h : Stk w n0 m x st) (hg : w.heap[g]? = some (.cells cs 33 (0, 0))) (hm : m ≠ g) (hk : ∀ k, k ≠ g → w'.heap[k]? = w.heap[k]?) : Stk w' n0 m x st := by
  obtain ⟨v, h1, h2, h3, h4, h5⟩ := h
  refine ⟨v, (hk m hm).trans h1, ?_, h3, h4, h5⟩
  obtain ⟨q0, q | ⟨g', cap, cur, q1, q2, q3, q4⟩⟩ := h2
  · exact ⟨q0, .inl q⟩
  · exact ⟨q0, .inr ⟨g', cap, cur, q1, q2, (hk g' (fun e => by rw [e, hg] at q3; simp at q3)).trans q3, q4⟩⟩
theorem not_lt (a : Nat) (k : Int) (ha : a < B * B) : (a % 2 ^ sh k) ^^^ (2 ^ sh k - 1) < B * B := by
  have h1 : a % 2 ^ sh k < 2 ^ 128 := by rw [← BB_pow]; exact Nat.lt_of_le_of_lt (Nat.mod_le _ _) ha
  have h2 : 2 ^ sh k - 1 < 2 ^ 128 := by rw [← BB_pow]; exact mask_lt k
  rw [BB_pow]
  exact Nat.xor_lt_two_pow h1 h2

set_option maxRecDepth 100000 in
set_option maxHeartbeats 4000000 in
theorem node_not (n0 m : Nat) (x : Value) (st : List (Nat × Int)) (a : Nat) (j : Int) (k c2 c3 c4 c5 : Int) (w : World) (hS : Stk w n0 m x (st ++ [(a, j)])) (hlen : st.length < 99990) (ha : a < B * B) :
    Calls Try.prog 47 #[.pointer (some ⟨m, 0, none⟩), nodeV 7 k c2 c3 c4 c5] w fun e w' => e = .returned (.tuple #[]) ∧ Stk w' n0 m x (st ++ [(((a % 2 ^ sh k) ^^^ (2 ^ sh k - 1)) % 2 ^ sh k, k)]) ∧ Below n0 w w' := by
  have HS := Lib.hid hS
  have HLEN : Hid (st.length < 100000) := (by show _ < _; omega)
  have HL : Hid (∀ W, Calls Try.prog 52 #[.pointer (some ⟨m, 0, none⟩), nodeV 7 k c2 c3 c4 c5] W fun e w' => e = .returned (.tuple #[.agg #[.int .u64 0, .int .u64 0], .bool false]) ∧ Below W.heap.size W w') := fun W => leaf_none m 7 k c2 c3 _ _ W (by omega)
  have HA : Hid (∀ W, Calls Try.prog 53 #[nodeV 7 k c2 c3 c4 c5] W fun e w' => ∃ mm, e = .returned (.map (some mm)) ∧ UMap w' mm (aloneM W.heap.size) ∧ NodeAt w' W.heap.size 7 k c2 c3 c4 c5 ∧ Below W.heap.size W w') := fun W => alone_any _ _ _ _ _ _ W
  have HBO : Hid (∀ W, Calls Try.prog 54 #[nodeV 7 k c2 c3 c4 c5] W fun e w' => ∃ mm, e = .returned (.map (some mm)) ∧ UMap w' mm (bothM W.heap.size) ∧ NodeAt w' W.heap.size 7 k c2 c3 c4 c5 ∧ Below W.heap.size W w') := fun W => both_any _ _ _ _ _ _ W
  have HNA : Hid (NodeAt (w.alloc (.cells #[.int .u8 7, .int .i64 k, .int .i64 c2, .int .i64 c3, .int .u64 c4, .int .u64 c5] 35)) w.heap.size 7 k c2 c3 c4 c5) := heap_new w _
  have HRL : Hid ((a % 2 ^ sh k) ^^^ (2 ^ sh k - 1) < B * B) := not_lt a k ha
  have HCL : Hid (∀ W g, NodeAt W g 7 k c2 c3 c4 c5 → Calls Try.prog 60 #[szV a j, .pointer (some ⟨g, 0, none⟩)] W (RetNum W ((a % 2 ^ sh k) ^^^ (2 ^ sh k - 1)))) := fun W g hg => clos_not g 7 k c2 c3 c4 c5 a j W ha hg
  have HPOP : Hid (∀ W, Stk W n0 m x (st ++ [(a, j)]) → Calls Try.prog 48 #[.pointer (some ⟨m, 0, none⟩)] W fun e w' => e = .returned (szV a j) ∧ Stk w' n0 m x st ∧ Below n0 W w' ∧ Apart m W w') := fun W h => pop_any n0 m x st a j W h
  generalize (a % 2 ^ sh k) ^^^ (2 ^ sh k - 1) = R at *
  obtain ⟨y3, z3, he3, ey3, ez3⟩ := numV_parts R
  have HE3 : Hid (y3 = R / B ∧ z3 = R % B) := ⟨ey3, ez3⟩
  unfold RetNum at HCL
  rw [he3] at HCL
  unfold szV at HCL HPOP
  obtain ⟨ay, hay⟩ : ∃ ay : Int, ay = ((a / B : Nat) : Int) := ⟨_, rfl⟩
  obtain ⟨az, haz⟩ : ∃ az : Int, az = ((a % B : Nat) : Int) := ⟨_, rfl⟩
  rw [← hay, ← haz] at HCL HPOP
  clear he3 ey3 ez3 hay haz
  clear hS hlen
  unfold nodeV at HL HA HBO ⊢
  go_enter Try.func47, Try.ntmps47
  go_wp2_with (go_at_call 52; refine (HL.out _).mono ?_; rintro e w1 ⟨rfl, hb1⟩; have HB1 := Lib.hid hb1; have hz1 := hb1.size; simp at hz1; clear hb1)
  obtain ⟨W2, hW2⟩ : ∃ W2, W2 = w1.alloc (.cells #[.int .u64 0, .int .u64 0] 33) := ⟨_, rfl⟩
  have HB2 : Hid (Below w.heap.size w W2) := by
    show Below _ _ _
    rw [hW2]
    exact (((Below.refl _ _).alloc (Nat.le_refl _) _).trans (HB1.out.mono (by simp))).alloc (by omega) _
  have HN2 : Hid (NodeAt W2 w.heap.size 7 k c2 c3 c4 c5) := by
    show NodeAt _ _ _ _ _ _ _ _
    rw [hW2]
    exact (HNA.out.below HB1.out).below ((Below.refl _ _).alloc (Nat.le_refl _) _)
  have H42 : Hid (W2.heap[w1.heap.size]? = some (.cells #[.int .u64 0, .int .u64 0] 33 (0, 0))) := by
    show _ = _
    rw [hW2]; exact heap_new w1 _
  rw [← hW2]
  have hz2 : w1.heap.size < W2.heap.size := by rw [hW2]; simp
  have hz0 : w.heap.size < w1.heap.size := by omega
  clear hW2 HB1 HNA hz1
  generalize w1.heap.size = g4 at *
  clear w1
  have HMW : Hid (m < w.heap.size) := HS.out.lt
  obtain ⟨q0, q1, q2, q3, q4, q5⟩ := HN2.out.cells
  have HS2 : Hid ((fun Wk => Below (W2.heap.size) (W2) Wk ∧ Wk.cell? ⟨w.heap.size, 0, none⟩ = some (.int .u8 7) ∧ Wk.cell? ⟨w.heap.size, 1, none⟩ = some (.int .i64 k) ∧ Wk.cell? ⟨w.heap.size, 2, none⟩ = some (.int .i64 c2) ∧ Wk.cell? ⟨w.heap.size, 3, none⟩ = some (.int .i64 c3) ∧ Wk.cell? ⟨w.heap.size, 4, none⟩ = some (.int .u64 c4) ∧ Wk.cell? ⟨w.heap.size, 5, none⟩ = some (.int .u64 c5)) W2.drew) := ⟨below_drewN (Below.refl _ _) 1, q0, q1, q2, q3, q4, q5⟩
  go_region_held3 (fun Wk => Below (W2.heap.size) (W2) Wk ∧ Wk.cell? ⟨w.heap.size, 0, none⟩ = some (.int .u8 7) ∧ Wk.cell? ⟨w.heap.size, 1, none⟩ = some (.int .i64 k) ∧ Wk.cell? ⟨w.heap.size, 2, none⟩ = some (.int .i64 c2) ∧ Wk.cell? ⟨w.heap.size, 3, none⟩ = some (.int .i64 c3) ∧ Wk.cell? ⟨w.heap.size, 4, none⟩ = some (.int .u64 c4) ∧ Wk.cell? ⟨w.heap.size, 5, none⟩ = some (.int .u64 c5))
    (first | exact HS2.out | assumption | exact held_6_0 hb1 (by assumption))
    (first
    | (go_at_call 53; refine (HA.out _).mono ?_; rintro e w1 ⟨mm, rfl, hU, hNB, hb1⟩; have hlk := hU.look (P := Try.prog) (k := 5) (T := 128) (e := 126) Try.underlying5 Try.underlying128 (x := 7) (v := fnV 60 W2.heap.size) (by simp [aloneM]); unfold fnV at hlk))
  rename_i hH
  obtain ⟨hb2, q0, q1, q2, q3, q4, q5⟩ := hH
  have HB3 := Lib.hid hb2
  have hz3 := hb2.size
  have HNB : Hid (NodeAt w1 W2.heap.size 7 k c2 c3 c4 c5) := hNB
  have HS3 : Hid (Stk w1 n0 m x (st ++ [(a, j)])) := HS.out.below (HB2.out.trans (HB3.out.mono HB2.out.size))
  have HN3 : Hid (NodeAt w1 w.heap.size 7 k c2 c3 c4 c5) := HN2.out.below HB3.out
  have H43 : Hid (w1.heap[g4]? = some (.cells #[.int .u64 0, .int .u64 0] 33 (0, 0))) := (HB3.out.block _ hz2).trans H42.out
  clear hU hlk hb1 hb2 hNB q0 q1 q2 q3 q4 q5
  go_wp2_with fail
  refine (HPOP.out _ HS3.out).mono ?_
  rintro e w3 ⟨rfl, hs3, hbn3, hap3⟩
  have HAP : Hid (Apart m w1 w3) := hap3
  have HSA := Lib.hid hs3
  have HBN3 : Hid (Below n0 w1 w3) := hbn3
  clear hs3 hbn3 hap3
  have HNB2 : Hid (NodeAt w3 W2.heap.size 7 k c2 c3 c4 c5) := (HAP.out.1 _ (Array.getElem?_eq_some_iff.1 HNB.out).1 (by have := HMW.out; omega)).trans HNB.out
  have HN4 : Hid (NodeAt w3 w.heap.size 7 k c2 c3 c4 c5) := (HAP.out.1 _ (Array.getElem?_eq_some_iff.1 HN3.out).1 (by have := HMW.out; omega)).trans HN3.out
  have H44 : Hid (w3.heap[g4]? = some (.cells #[.int .u64 0, .int .u64 0] 33 (0, 0))) := (HAP.out.1 _ (Array.getElem?_eq_some_iff.1 H43.out).1 (by have := HMW.out; omega)).trans H43.out
  go_wp2_with fail
  refine (HCL.out _ _ HNB2.out).mono ?_
  rintro e w4 ⟨rfl, hb4⟩
  have HB4 := Lib.hid hb4
  have hg4 : w4.heap[g4]? = some (.cells #[.int .u64 0, .int .u64 0] 33 (0, 0)) := (hb4.block _ (Array.getElem?_eq_some_iff.1 H44.out).1).trans H44.out
  have HG4 := Lib.hid hg4
  have k0 : w4.cell? ⟨g4, 0, none⟩ = some (.int .u64 0) := by simp [World.cell?, hg4]
  have k1 : w4.cell? ⟨g4, 1, none⟩ = some (.int .u64 0) := by simp [World.cell?, hg4]
  have k2 : w4.frozen? ⟨g4, 0, none⟩ = false := by simp [World.frozen?, hg4]
  have k3 : w4.frozen? ⟨g4, 1, none⟩ = false := by simp [World.frozen?, hg4]
  clear hg4 hb4
  go_wp2_with fail
  obtain ⟨W5, hW5⟩ : ∃ W5, W5 = (w4.setCell ⟨g4, 0, none⟩ (.int .u64 (y3 : Int))).setCell ⟨g4, 1, none⟩ (.int .u64 (z3 : Int)) := ⟨_, rfl⟩
  have hk5 : ∀ k, k ≠ g4 → W5.heap[k]? = w4.heap[k]? := fun k hk => by rw [hW5, setCell_heap hk, setCell_heap hk]
  have hs5 : W5.heap.size = w4.heap.size := by rw [hW5]; simp
  have HG5 : Hid (W5.heap[g4]? = some (.cells #[.int .u64 (y3 : Int), .int .u64 (z3 : Int)] 33 (0, 0))) := by show _ = _; rw [hW5]; exact set_lo _ (set_hi _ HG4.out)
  have HN5 : Hid (NodeAt W5 w.heap.size 7 k c2 c3 c4 c5) := (hk5 _ (by omega)).trans (HN4.out.below HB4.out)
  have HS5 : Hid (Stk W5 n0 m x st) := (HSA.out.below HB4.out).kept HG4.out (by have := HMW.out; omega) hk5
  have HBN5 : Hid (Below n0 w W5) := by
    have hn0 : n0 ≤ w.heap.size := HS.out.base
    have hB : Below n0 w w4 := (((HB2.out.trans (HB3.out.mono HB2.out.size)).mono hn0).trans HBN3.out).trans (HB4.out.mono (Nat.le_trans hn0 (by have := HB2.out.size; have := HB3.out.size; have := HAP.out.2; omega)))
    show Below _ _ _
    rw [hW5]
    exact (hB.setCell (by show n0 ≤ g4; omega) _).setCell (by show n0 ≤ g4; omega) _
  rw [← hW5]
  clear k0 k1 k2 k3 hW5 hk5
  have hl5 : g4 < W5.heap.size := (Array.getElem?_eq_some_iff.1 HG5.out).1
  obtain ⟨q0, q1, q2, q3, q4, q5⟩ := HN5.out.cells
  have HS6b : Hid ((fun Wk => Below (W5.heap.size) (W5) Wk ∧ Wk.cell? ⟨w.heap.size, 0, none⟩ = some (.int .u8 7) ∧ Wk.cell? ⟨w.heap.size, 1, none⟩ = some (.int .i64 k) ∧ Wk.cell? ⟨w.heap.size, 2, none⟩ = some (.int .i64 c2) ∧ Wk.cell? ⟨w.heap.size, 3, none⟩ = some (.int .i64 c3) ∧ Wk.cell? ⟨w.heap.size, 4, none⟩ = some (.int .u64 c4) ∧ Wk.cell? ⟨w.heap.size, 5, none⟩ = some (.int .u64 c5)) W5.drew) := ⟨below_drewN (Below.refl _ _) 1, q0, q1, q2, q3, q4, q5⟩
  go_region_held3 (fun Wk => Below (W5.heap.size) (W5) Wk ∧ Wk.cell? ⟨w.heap.size, 0, none⟩ = some (.int .u8 7) ∧ Wk.cell? ⟨w.heap.size, 1, none⟩ = some (.int .i64 k) ∧ Wk.cell? ⟨w.heap.size, 2, none⟩ = some (.int .i64 c2) ∧ Wk.cell? ⟨w.heap.size, 3, none⟩ = some (.int .i64 c3) ∧ Wk.cell? ⟨w.heap.size, 4, none⟩ = some (.int .u64 c4) ∧ Wk.cell? ⟨w.heap.size, 5, none⟩ = some (.int .u64 c5))
    (first | exact HS6b.out | assumption | exact held_6_0 hb1 (by assumption))
    (first
    | (go_at_call 54; refine (HBO.out _).mono ?_; rintro e W6 ⟨mm2, rfl, hU, hNB, hb1⟩; have hlk := hU.miss (P := Try.prog) (k := 5) (T := 132) (e := 130) Try.underlying5 Try.underlying132 (Try.zeroValue130 _) (x := 7) (by decide) (by simp [bothM])))
  rename_i hH
  obtain ⟨hb2, q0, q1, q2, q3, q4, q5⟩ := hH
  have HB6 := Lib.hid hb2
  have hz6 := hb2.size
  have HS6 : Hid (Stk W6 n0 m x st) := HS5.out.below HB6.out
  have HN6 : Hid (NodeAt W6 w.heap.size 7 k c2 c3 c4 c5) := HN5.out.below HB6.out
  have H46 : Hid (W6.heap[g4]? = some (.cells #[.int .u64 ((R / B : Nat) : Int), .int .u64 ((R % B : Nat) : Int)] 33 (0, 0))) := by
    show _ = _
    rw [← HE3.out.1, ← HE3.out.2]
    exact (HB6.out.block _ hl5).trans HG5.out
  have HBN6 : Hid (Below n0 w W6) := HBN5.out.trans (HB6.out.mono (Nat.le_trans HS.out.base HBN5.out.size))
  clear hU hlk hb1 hb2 hNB q0 q1 q2 q3 q4 q5
  go_wp2_with fail
  refine push_region n0 m w.heap.size g4 x st R 7 k c2 c3 c4 c5 W6 HS6 HN6 H46 HRL HLEN _ _ _ _ _ _ _ _ _ _ _ _ _ _ _ _ _ _ _ _ _ _ _ _ _ _ _ _ _ _ _ _ _ _ _ _ _ _ _ _ _ _ _ _ _ _ _ _ _ _ _ _ _ _ _ _ _ _ _ _ _ _ _ _ _ _ _ _ ?_
  intro u54 u55 u56 u57 u58 u59 u60 u61 u62 u63 u64 u65 u66 u67 u68 u69 w9 h9 hb9
  dsimp only
  go_wp2_with fail
  go_end0
  exact ⟨rfl, h9, HBN6.out.trans hb9⟩

set_option maxRecDepth 100000 in
set_option maxHeartbeats 4000000 in
theorem node_neg (n0 m : Nat) (x : Value) (st : List (Nat × Int)) (a : Nat) (j : Int) (k c2 c3 c4 c5 : Int) (w : World) (hS : Stk w n0 m x (st ++ [(a, j)])) (hlen : st.length < 99990) (ha : a < B * B) :
    Calls Try.prog 47 #[.pointer (some ⟨m, 0, none⟩), nodeV 8 k c2 c3 c4 c5] w fun e w' => e = .returned (.tuple #[]) ∧ Stk w' n0 m x (st ++ [(((0 + (B * B - a)) % (B * B) % 2 ^ sh k) % 2 ^ sh k, k)]) ∧ Below n0 w w' := by
  have HS := Lib.hid hS
  have HLEN : Hid (st.length < 100000) := (by show _ < _; omega)
  have HL : Hid (∀ W, Calls Try.prog 52 #[.pointer (some ⟨m, 0, none⟩), nodeV 8 k c2 c3 c4 c5] W fun e w' => e = .returned (.tuple #[.agg #[.int .u64 0, .int .u64 0], .bool false]) ∧ Below W.heap.size W w') := fun W => leaf_none m 8 k c2 c3 _ _ W (by omega)
  have HA : Hid (∀ W, Calls Try.prog 53 #[nodeV 8 k c2 c3 c4 c5] W fun e w' => ∃ mm, e = .returned (.map (some mm)) ∧ UMap w' mm (aloneM W.heap.size) ∧ NodeAt w' W.heap.size 8 k c2 c3 c4 c5 ∧ Below W.heap.size W w') := fun W => alone_any _ _ _ _ _ _ W
  have HBO : Hid (∀ W, Calls Try.prog 54 #[nodeV 8 k c2 c3 c4 c5] W fun e w' => ∃ mm, e = .returned (.map (some mm)) ∧ UMap w' mm (bothM W.heap.size) ∧ NodeAt w' W.heap.size 8 k c2 c3 c4 c5 ∧ Below W.heap.size W w') := fun W => both_any _ _ _ _ _ _ W
  have HNA : Hid (NodeAt (w.alloc (.cells #[.int .u8 8, .int .i64 k, .int .i64 c2, .int .i64 c3, .int .u64 c4, .int .u64 c5] 35)) w.heap.size 8 k c2 c3 c4 c5) := heap_new w _
  have HRL : Hid ((0 + (B * B - a)) % (B * B) % 2 ^ sh k < B * B) := Nat.lt_of_le_of_lt (Nat.mod_le _ _) (Nat.mod_lt _ (by unfold B; omega))
  have HCL : Hid (∀ W g, NodeAt W g 8 k c2 c3 c4 c5 → Calls Try.prog 62 #[szV a j, .pointer (some ⟨g, 0, none⟩)] W (RetNum W ((0 + (B * B - a)) % (B * B) % 2 ^ sh k))) := fun W g hg => clos_neg g 8 k c2 c3 c4 c5 a j W ha hg
  have HPOP : Hid (∀ W, Stk W n0 m x (st ++ [(a, j)]) → Calls Try.prog 48 #[.pointer (some ⟨m, 0, none⟩)] W fun e w' => e = .returned (szV a j) ∧ Stk w' n0 m x st ∧ Below n0 W w' ∧ Apart m W w') := fun W h => pop_any n0 m x st a j W h
  generalize (0 + (B * B - a)) % (B * B) % 2 ^ sh k = R at *
  obtain ⟨y3, z3, he3, ey3, ez3⟩ := numV_parts R
  have HE3 : Hid (y3 = R / B ∧ z3 = R % B) := ⟨ey3, ez3⟩
  unfold RetNum at HCL
  rw [he3] at HCL
  unfold szV at HCL HPOP
  obtain ⟨ay, hay⟩ : ∃ ay : Int, ay = ((a / B : Nat) : Int) := ⟨_, rfl⟩
  obtain ⟨az, haz⟩ : ∃ az : Int, az = ((a % B : Nat) : Int) := ⟨_, rfl⟩
  rw [← hay, ← haz] at HCL HPOP
  clear he3 ey3 ez3 hay haz
  clear hS hlen
  unfold nodeV at HL HA HBO ⊢
  go_enter Try.func47, Try.ntmps47
  go_wp2_with (go_at_call 52; refine (HL.out _).mono ?_; rintro e w1 ⟨rfl, hb1⟩; have HB1 := Lib.hid hb1; have hz1 := hb1.size; simp at hz1; clear hb1)
  obtain ⟨W2, hW2⟩ : ∃ W2, W2 = w1.alloc (.cells #[.int .u64 0, .int .u64 0] 33) := ⟨_, rfl⟩
  have HB2 : Hid (Below w.heap.size w W2) := by
    show Below _ _ _
    rw [hW2]
    exact (((Below.refl _ _).alloc (Nat.le_refl _) _).trans (HB1.out.mono (by simp))).alloc (by omega) _
  have HN2 : Hid (NodeAt W2 w.heap.size 8 k c2 c3 c4 c5) := by
    show NodeAt _ _ _ _ _ _ _ _
    rw [hW2]
    exact (HNA.out.below HB1.out).below ((Below.refl _ _).alloc (Nat.le_refl _) _)
  have H42 : Hid (W2.heap[w1.heap.size]? = some (.cells #[.int .u64 0, .int .u64 0] 33 (0, 0))) := by
    show _ = _
    rw [hW2]; exact heap_new w1 _
  rw [← hW2]
  have hz2 : w1.heap.size < W2.heap.size := by rw [hW2]; simp
  have hz0 : w.heap.size < w1.heap.size := by omega
  clear hW2 HB1 HNA hz1
  generalize w1.heap.size = g4 at *
  clear w1
  have HMW : Hid (m < w.heap.size) := HS.out.lt
  obtain ⟨q0, q1, q2, q3, q4, q5⟩ := HN2.out.cells
  have HS2 : Hid ((fun Wk => Below (W2.heap.size) (W2) Wk ∧ Wk.cell? ⟨w.heap.size, 0, none⟩ = some (.int .u8 8) ∧ Wk.cell? ⟨w.heap.size, 1, none⟩ = some (.int .i64 k) ∧ Wk.cell? ⟨w.heap.size, 2, none⟩ = some (.int .i64 c2) ∧ Wk.cell? ⟨w.heap.size, 3, none⟩ = some (.int .i64 c3) ∧ Wk.cell? ⟨w.heap.size, 4, none⟩ = some (.int .u64 c4) ∧ Wk.cell? ⟨w.heap.size, 5, none⟩ = some (.int .u64 c5)) W2.drew) := ⟨below_drewN (Below.refl _ _) 1, q0, q1, q2, q3, q4, q5⟩
  go_region_held3 (fun Wk => Below (W2.heap.size) (W2) Wk ∧ Wk.cell? ⟨w.heap.size, 0, none⟩ = some (.int .u8 8) ∧ Wk.cell? ⟨w.heap.size, 1, none⟩ = some (.int .i64 k) ∧ Wk.cell? ⟨w.heap.size, 2, none⟩ = some (.int .i64 c2) ∧ Wk.cell? ⟨w.heap.size, 3, none⟩ = some (.int .i64 c3) ∧ Wk.cell? ⟨w.heap.size, 4, none⟩ = some (.int .u64 c4) ∧ Wk.cell? ⟨w.heap.size, 5, none⟩ = some (.int .u64 c5))
    (first | exact HS2.out | assumption | exact held_6_0 hb1 (by assumption))
    (first
    | (go_at_call 53; refine (HA.out _).mono ?_; rintro e w1 ⟨mm, rfl, hU, hNB, hb1⟩; have hlk := hU.look (P := Try.prog) (k := 5) (T := 128) (e := 126) Try.underlying5 Try.underlying128 (x := 8) (v := fnV 62 W2.heap.size) (by simp [aloneM]); unfold fnV at hlk))
  rename_i hH
  obtain ⟨hb2, q0, q1, q2, q3, q4, q5⟩ := hH
  have HB3 := Lib.hid hb2
  have hz3 := hb2.size
  have HNB : Hid (NodeAt w1 W2.heap.size 8 k c2 c3 c4 c5) := hNB
  have HS3 : Hid (Stk w1 n0 m x (st ++ [(a, j)])) := HS.out.below (HB2.out.trans (HB3.out.mono HB2.out.size))
  have HN3 : Hid (NodeAt w1 w.heap.size 8 k c2 c3 c4 c5) := HN2.out.below HB3.out
  have H43 : Hid (w1.heap[g4]? = some (.cells #[.int .u64 0, .int .u64 0] 33 (0, 0))) := (HB3.out.block _ hz2).trans H42.out
  clear hU hlk hb1 hb2 hNB q0 q1 q2 q3 q4 q5
  go_wp2_with fail
  refine (HPOP.out _ HS3.out).mono ?_
  rintro e w3 ⟨rfl, hs3, hbn3, hap3⟩
  have HAP : Hid (Apart m w1 w3) := hap3
  have HSA := Lib.hid hs3
  have HBN3 : Hid (Below n0 w1 w3) := hbn3
  clear hs3 hbn3 hap3
  have HNB2 : Hid (NodeAt w3 W2.heap.size 8 k c2 c3 c4 c5) := (HAP.out.1 _ (Array.getElem?_eq_some_iff.1 HNB.out).1 (by have := HMW.out; omega)).trans HNB.out
  have HN4 : Hid (NodeAt w3 w.heap.size 8 k c2 c3 c4 c5) := (HAP.out.1 _ (Array.getElem?_eq_some_iff.1 HN3.out).1 (by have := HMW.out; omega)).trans HN3.out
  have H44 : Hid (w3.heap[g4]? = some (.cells #[.int .u64 0, .int .u64 0] 33 (0, 0))) := (HAP.out.1 _ (Array.getElem?_eq_some_iff.1 H43.out).1 (by have := HMW.out; omega)).trans H43.out
  go_wp2_with fail
  refine (HCL.out _ _ HNB2.out).mono ?_
  rintro e w4 ⟨rfl, hb4⟩
  have HB4 := Lib.hid hb4
  have hg4 : w4.heap[g4]? = some (.cells #[.int .u64 0, .int .u64 0] 33 (0, 0)) := (hb4.block _ (Array.getElem?_eq_some_iff.1 H44.out).1).trans H44.out
  have HG4 := Lib.hid hg4
  have k0 : w4.cell? ⟨g4, 0, none⟩ = some (.int .u64 0) := by simp [World.cell?, hg4]
  have k1 : w4.cell? ⟨g4, 1, none⟩ = some (.int .u64 0) := by simp [World.cell?, hg4]
  have k2 : w4.frozen? ⟨g4, 0, none⟩ = false := by simp [World.frozen?, hg4]
  have k3 : w4.frozen? ⟨g4, 1, none⟩ = false := by simp [World.frozen?, hg4]
  clear hg4 hb4
  go_wp2_with fail
  obtain ⟨W5, hW5⟩ : ∃ W5, W5 = (w4.setCell ⟨g4, 0, none⟩ (.int .u64 (y3 : Int))).setCell ⟨g4, 1, none⟩ (.int .u64 (z3 : Int)) := ⟨_, rfl⟩
  have hk5 : ∀ k, k ≠ g4 → W5.heap[k]? = w4.heap[k]? := fun k hk => by rw [hW5, setCell_heap hk, setCell_heap hk]
  have hs5 : W5.heap.size = w4.heap.size := by rw [hW5]; simp
  have HG5 : Hid (W5.heap[g4]? = some (.cells #[.int .u64 (y3 : Int), .int .u64 (z3 : Int)] 33 (0, 0))) := by show _ = _; rw [hW5]; exact set_lo _ (set_hi _ HG4.out)
  have HN5 : Hid (NodeAt W5 w.heap.size 8 k c2 c3 c4 c5) := (hk5 _ (by omega)).trans (HN4.out.below HB4.out)
  have HS5 : Hid (Stk W5 n0 m x st) := (HSA.out.below HB4.out).kept HG4.out (by have := HMW.out; omega) hk5
  have HBN5 : Hid (Below n0 w W5) := by
    have hn0 : n0 ≤ w.heap.size := HS.out.base
    have hB : Below n0 w w4 := (((HB2.out.trans (HB3.out.mono HB2.out.size)).mono hn0).trans HBN3.out).trans (HB4.out.mono (Nat.le_trans hn0 (by have := HB2.out.size; have := HB3.out.size; have := HAP.out.2; omega)))
    show Below _ _ _
    rw [hW5]
    exact (hB.setCell (by show n0 ≤ g4; omega) _).setCell (by show n0 ≤ g4; omega) _
  rw [← hW5]
  clear k0 k1 k2 k3 hW5 hk5
  have hl5 : g4 < W5.heap.size := (Array.getElem?_eq_some_iff.1 HG5.out).1
  obtain ⟨q0, q1, q2, q3, q4, q5⟩ := HN5.out.cells
  have HS6b : Hid ((fun Wk => Below (W5.heap.size) (W5) Wk ∧ Wk.cell? ⟨w.heap.size, 0, none⟩ = some (.int .u8 8) ∧ Wk.cell? ⟨w.heap.size, 1, none⟩ = some (.int .i64 k) ∧ Wk.cell? ⟨w.heap.size, 2, none⟩ = some (.int .i64 c2) ∧ Wk.cell? ⟨w.heap.size, 3, none⟩ = some (.int .i64 c3) ∧ Wk.cell? ⟨w.heap.size, 4, none⟩ = some (.int .u64 c4) ∧ Wk.cell? ⟨w.heap.size, 5, none⟩ = some (.int .u64 c5)) W5.drew) := ⟨below_drewN (Below.refl _ _) 1, q0, q1, q2, q3, q4, q5⟩
  go_region_held3 (fun Wk => Below (W5.heap.size) (W5) Wk ∧ Wk.cell? ⟨w.heap.size, 0, none⟩ = some (.int .u8 8) ∧ Wk.cell? ⟨w.heap.size, 1, none⟩ = some (.int .i64 k) ∧ Wk.cell? ⟨w.heap.size, 2, none⟩ = some (.int .i64 c2) ∧ Wk.cell? ⟨w.heap.size, 3, none⟩ = some (.int .i64 c3) ∧ Wk.cell? ⟨w.heap.size, 4, none⟩ = some (.int .u64 c4) ∧ Wk.cell? ⟨w.heap.size, 5, none⟩ = some (.int .u64 c5))
    (first | exact HS6b.out | assumption | exact held_6_0 hb1 (by assumption))
    (first
    | (go_at_call 54; refine (HBO.out _).mono ?_; rintro e W6 ⟨mm2, rfl, hU, hNB, hb1⟩; have hlk := hU.miss (P := Try.prog) (k := 5) (T := 132) (e := 130) Try.underlying5 Try.underlying132 (Try.zeroValue130 _) (x := 8) (by decide) (by simp [bothM])))
  rename_i hH
  obtain ⟨hb2, q0, q1, q2, q3, q4, q5⟩ := hH
  have HB6 := Lib.hid hb2
  have hz6 := hb2.size
  have HS6 : Hid (Stk W6 n0 m x st) := HS5.out.below HB6.out
  have HN6 : Hid (NodeAt W6 w.heap.size 8 k c2 c3 c4 c5) := HN5.out.below HB6.out
  have H46 : Hid (W6.heap[g4]? = some (.cells #[.int .u64 ((R / B : Nat) : Int), .int .u64 ((R % B : Nat) : Int)] 33 (0, 0))) := by
    show _ = _
    rw [← HE3.out.1, ← HE3.out.2]
    exact (HB6.out.block _ hl5).trans HG5.out
  have HBN6 : Hid (Below n0 w W6) := HBN5.out.trans (HB6.out.mono (Nat.le_trans HS.out.base HBN5.out.size))
  clear hU hlk hb1 hb2 hNB q0 q1 q2 q3 q4 q5
  go_wp2_with fail
  refine push_region n0 m w.heap.size g4 x st R 8 k c2 c3 c4 c5 W6 HS6 HN6 H46 HRL HLEN _ _ _ _ _ _ _ _ _ _ _ _ _ _ _ _ _ _ _ _ _ _ _ _ _ _ _ _ _ _ _ _ _ _ _ _ _ _ _ _ _ _ _ _ _ _ _ _ _ _ _ _ _ _ _ _ _ _ _ _ _ _ _ _ _ _ _ _ ?_
  intro u54 u55 u56 u57 u58 u59 u60 u61 u62 u63 u64 u65 u66 u67 u68 u69 w9 h9 hb9
  dsimp only
  go_wp2_with fail
  go_end0
  exact ⟨rfl, h9, HBN6.out.trans hb9⟩

set_option maxRecDepth 100000 in
set_option maxHeartbeats 4000000 in
theorem node_slice (n0 m : Nat) (x : Value) (st : List (Nat × Int)) (a : Nat) (j : Int) (k c2 c3 c4 c5 : Int) (w : World) (hS : Stk w n0 m x (st ++ [(a, j)])) (hlen : st.length < 99990) (ha : a < B * B) (h0 : 0 ≤ c3) (h1 : c3 ≤ c2) (h2 : c2 < 128) :
    Calls Try.prog 47 #[.pointer (some ⟨m, 0, none⟩), nodeV 9 k c2 c3 c4 c5] w fun e w' => e = .returned (.tuple #[]) ∧ Stk w' n0 m x (st ++ [((a / 2 ^ sh c3 % 2 ^ sh (c2 - c3 + 1)) % 2 ^ sh k, k)]) ∧ Below n0 w w' := by
  have HS := Lib.hid hS
  have HLEN : Hid (st.length < 100000) := (by show _ < _; omega)
  have HL : Hid (∀ W, Calls Try.prog 52 #[.pointer (some ⟨m, 0, none⟩), nodeV 9 k c2 c3 c4 c5] W fun e w' => e = .returned (.tuple #[.agg #[.int .u64 0, .int .u64 0], .bool false]) ∧ Below W.heap.size W w') := fun W => leaf_none m 9 k c2 c3 _ _ W (by omega)
  have HA : Hid (∀ W, Calls Try.prog 53 #[nodeV 9 k c2 c3 c4 c5] W fun e w' => ∃ mm, e = .returned (.map (some mm)) ∧ UMap w' mm (aloneM W.heap.size) ∧ NodeAt w' W.heap.size 9 k c2 c3 c4 c5 ∧ Below W.heap.size W w') := fun W => alone_any _ _ _ _ _ _ W
  have HBO : Hid (∀ W, Calls Try.prog 54 #[nodeV 9 k c2 c3 c4 c5] W fun e w' => ∃ mm, e = .returned (.map (some mm)) ∧ UMap w' mm (bothM W.heap.size) ∧ NodeAt w' W.heap.size 9 k c2 c3 c4 c5 ∧ Below W.heap.size W w') := fun W => both_any _ _ _ _ _ _ W
  have HNA : Hid (NodeAt (w.alloc (.cells #[.int .u8 9, .int .i64 k, .int .i64 c2, .int .i64 c3, .int .u64 c4, .int .u64 c5] 35)) w.heap.size 9 k c2 c3 c4 c5) := heap_new w _
  have HRL : Hid (a / 2 ^ sh c3 % 2 ^ sh (c2 - c3 + 1) < B * B) := Nat.lt_of_le_of_lt (Nat.mod_le _ _) (Nat.lt_of_le_of_lt (Nat.div_le_self _ _) ha)
  have HCL : Hid (∀ W g, NodeAt W g 9 k c2 c3 c4 c5 → Calls Try.prog 64 #[szV a j, .pointer (some ⟨g, 0, none⟩)] W (RetNum W (a / 2 ^ sh c3 % 2 ^ sh (c2 - c3 + 1)))) := fun W g hg => clos_slice g 9 k c2 c3 c4 c5 a j W ha hg h0 h1 h2
  have HPOP : Hid (∀ W, Stk W n0 m x (st ++ [(a, j)]) → Calls Try.prog 48 #[.pointer (some ⟨m, 0, none⟩)] W fun e w' => e = .returned (szV a j) ∧ Stk w' n0 m x st ∧ Below n0 W w' ∧ Apart m W w') := fun W h => pop_any n0 m x st a j W h
  generalize a / 2 ^ sh c3 % 2 ^ sh (c2 - c3 + 1) = R at *
  obtain ⟨y3, z3, he3, ey3, ez3⟩ := numV_parts R
  have HE3 : Hid (y3 = R / B ∧ z3 = R % B) := ⟨ey3, ez3⟩
  unfold RetNum at HCL
  rw [he3] at HCL
  unfold szV at HCL HPOP
  obtain ⟨ay, hay⟩ : ∃ ay : Int, ay = ((a / B : Nat) : Int) := ⟨_, rfl⟩
  obtain ⟨az, haz⟩ : ∃ az : Int, az = ((a % B : Nat) : Int) := ⟨_, rfl⟩
  rw [← hay, ← haz] at HCL HPOP
  clear he3 ey3 ez3 hay haz
  clear hS hlen
  unfold nodeV at HL HA HBO ⊢
  go_enter Try.func47, Try.ntmps47
  go_wp2_with (go_at_call 52; refine (HL.out _).mono ?_; rintro e w1 ⟨rfl, hb1⟩; have HB1 := Lib.hid hb1; have hz1 := hb1.size; simp at hz1; clear hb1)
  obtain ⟨W2, hW2⟩ : ∃ W2, W2 = w1.alloc (.cells #[.int .u64 0, .int .u64 0] 33) := ⟨_, rfl⟩
  have HB2 : Hid (Below w.heap.size w W2) := by
    show Below _ _ _
    rw [hW2]
    exact (((Below.refl _ _).alloc (Nat.le_refl _) _).trans (HB1.out.mono (by simp))).alloc (by omega) _
  have HN2 : Hid (NodeAt W2 w.heap.size 9 k c2 c3 c4 c5) := by
    show NodeAt _ _ _ _ _ _ _ _
    rw [hW2]
    exact (HNA.out.below HB1.out).below ((Below.refl _ _).alloc (Nat.le_refl _) _)
  have H42 : Hid (W2.heap[w1.heap.size]? = some (.cells #[.int .u64 0, .int .u64 0] 33 (0, 0))) := by
    show _ = _
    rw [hW2]; exact heap_new w1 _
  rw [← hW2]
  have hz2 : w1.heap.size < W2.heap.size := by rw [hW2]; simp
  have hz0 : w.heap.size < w1.heap.size := by omega
  clear hW2 HB1 HNA hz1
  generalize w1.heap.size = g4 at *
  clear w1
  have HMW : Hid (m < w.heap.size) := HS.out.lt
  obtain ⟨q0, q1, q2, q3, q4, q5⟩ := HN2.out.cells
  have HS2 : Hid ((fun Wk => Below (W2.heap.size) (W2) Wk ∧ Wk.cell? ⟨w.heap.size, 0, none⟩ = some (.int .u8 9) ∧ Wk.cell? ⟨w.heap.size, 1, none⟩ = some (.int .i64 k) ∧ Wk.cell? ⟨w.heap.size, 2, none⟩ = some (.int .i64 c2) ∧ Wk.cell? ⟨w.heap.size, 3, none⟩ = some (.int .i64 c3) ∧ Wk.cell? ⟨w.heap.size, 4, none⟩ = some (.int .u64 c4) ∧ Wk.cell? ⟨w.heap.size, 5, none⟩ = some (.int .u64 c5)) W2.drew) := ⟨below_drewN (Below.refl _ _) 1, q0, q1, q2, q3, q4, q5⟩
  go_region_held3 (fun Wk => Below (W2.heap.size) (W2) Wk ∧ Wk.cell? ⟨w.heap.size, 0, none⟩ = some (.int .u8 9) ∧ Wk.cell? ⟨w.heap.size, 1, none⟩ = some (.int .i64 k) ∧ Wk.cell? ⟨w.heap.size, 2, none⟩ = some (.int .i64 c2) ∧ Wk.cell? ⟨w.heap.size, 3, none⟩ = some (.int .i64 c3) ∧ Wk.cell? ⟨w.heap.size, 4, none⟩ = some (.int .u64 c4) ∧ Wk.cell? ⟨w.heap.size, 5, none⟩ = some (.int .u64 c5))
    (first | exact HS2.out | assumption | exact held_6_0 hb1 (by assumption))
    (first
    | (go_at_call 53; refine (HA.out _).mono ?_; rintro e w1 ⟨mm, rfl, hU, hNB, hb1⟩; have hlk := hU.look (P := Try.prog) (k := 5) (T := 128) (e := 126) Try.underlying5 Try.underlying128 (x := 9) (v := fnV 64 W2.heap.size) (by simp [aloneM]); unfold fnV at hlk))
  rename_i hH
  obtain ⟨hb2, q0, q1, q2, q3, q4, q5⟩ := hH
  have HB3 := Lib.hid hb2
  have hz3 := hb2.size
  have HNB : Hid (NodeAt w1 W2.heap.size 9 k c2 c3 c4 c5) := hNB
  have HS3 : Hid (Stk w1 n0 m x (st ++ [(a, j)])) := HS.out.below (HB2.out.trans (HB3.out.mono HB2.out.size))
  have HN3 : Hid (NodeAt w1 w.heap.size 9 k c2 c3 c4 c5) := HN2.out.below HB3.out
  have H43 : Hid (w1.heap[g4]? = some (.cells #[.int .u64 0, .int .u64 0] 33 (0, 0))) := (HB3.out.block _ hz2).trans H42.out
  clear hU hlk hb1 hb2 hNB q0 q1 q2 q3 q4 q5
  go_wp2_with fail
  refine (HPOP.out _ HS3.out).mono ?_
  rintro e w3 ⟨rfl, hs3, hbn3, hap3⟩
  have HAP : Hid (Apart m w1 w3) := hap3
  have HSA := Lib.hid hs3
  have HBN3 : Hid (Below n0 w1 w3) := hbn3
  clear hs3 hbn3 hap3
  have HNB2 : Hid (NodeAt w3 W2.heap.size 9 k c2 c3 c4 c5) := (HAP.out.1 _ (Array.getElem?_eq_some_iff.1 HNB.out).1 (by have := HMW.out; omega)).trans HNB.out
  have HN4 : Hid (NodeAt w3 w.heap.size 9 k c2 c3 c4 c5) := (HAP.out.1 _ (Array.getElem?_eq_some_iff.1 HN3.out).1 (by have := HMW.out; omega)).trans HN3.out
  have H44 : Hid (w3.heap[g4]? = some (.cells #[.int .u64 0, .int .u64 0] 33 (0, 0))) := (HAP.out.1 _ (Array.getElem?_eq_some_iff.1 H43.out).1 (by have := HMW.out; omega)).trans H43.out
  go_wp2_with fail
  refine (HCL.out _ _ HNB2.out).mono ?_
  rintro e w4 ⟨rfl, hb4⟩
  have HB4 := Lib.hid hb4
  have hg4 : w4.heap[g4]? = some (.cells #[.int .u64 0, .int .u64 0] 33 (0, 0)) := (hb4.block _ (Array.getElem?_eq_some_iff.1 H44.out).1).trans H44.out
  have HG4 := Lib.hid hg4
  have k0 : w4.cell? ⟨g4, 0, none⟩ = some (.int .u64 0) := by simp [World.cell?, hg4]
  have k1 : w4.cell? ⟨g4, 1, none⟩ = some (.int .u64 0) := by simp [World.cell?, hg4]
  have k2 : w4.frozen? ⟨g4, 0, none⟩ = false := by simp [World.frozen?, hg4]
  have k3 : w4.frozen? ⟨g4, 1, none⟩ = false := by simp [World.frozen?, hg4]
  clear hg4 hb4
  go_wp2_with fail
  obtain ⟨W5, hW5⟩ : ∃ W5, W5 = (w4.setCell ⟨g4, 0, none⟩ (.int .u64 (y3 : Int))).setCell ⟨g4, 1, none⟩ (.int .u64 (z3 : Int)) := ⟨_, rfl⟩
  have hk5 : ∀ k, k ≠ g4 → W5.heap[k]? = w4.heap[k]? := fun k hk => by rw [hW5, setCell_heap hk, setCell_heap hk]
  have hs5 : W5.heap.size = w4.heap.size := by rw [hW5]; simp
  have HG5 : Hid (W5.heap[g4]? = some (.cells #[.int .u64 (y3 : Int), .int .u64 (z3 : Int)] 33 (0, 0))) := by show _ = _; rw [hW5]; exact set_lo _ (set_hi _ HG4.out)
  have HN5 : Hid (NodeAt W5 w.heap.size 9 k c2 c3 c4 c5) := (hk5 _ (by omega)).trans (HN4.out.below HB4.out)
  have HS5 : Hid (Stk W5 n0 m x st) := (HSA.out.below HB4.out).kept HG4.out (by have := HMW.out; omega) hk5
  have HBN5 : Hid (Below n0 w W5) := by
    have hn0 : n0 ≤ w.heap.size := HS.out.base
    have hB : Below n0 w w4 := (((HB2.out.trans (HB3.out.mono HB2.out.size)).mono hn0).trans HBN3.out).trans (HB4.out.mono (Nat.le_trans hn0 (by have := HB2.out.size; have := HB3.out.size; have := HAP.out.2; omega)))
    show Below _ _ _
    rw [hW5]
    exact (hB.setCell (by show n0 ≤ g4; omega) _).setCell (by show n0 ≤ g4; omega) _
  rw [← hW5]
  clear k0 k1 k2 k3 hW5 hk5
  have hl5 : g4 < W5.heap.size := (Array.getElem?_eq_some_iff.1 HG5.out).1
  obtain ⟨q0, q1, q2, q3, q4, q5⟩ := HN5.out.cells
  have HS6b : Hid ((fun Wk => Below (W5.heap.size) (W5) Wk ∧ Wk.cell? ⟨w.heap.size, 0, none⟩ = some (.int .u8 9) ∧ Wk.cell? ⟨w.heap.size, 1, none⟩ = some (.int .i64 k) ∧ Wk.cell? ⟨w.heap.size, 2, none⟩ = some (.int .i64 c2) ∧ Wk.cell? ⟨w.heap.size, 3, none⟩ = some (.int .i64 c3) ∧ Wk.cell? ⟨w.heap.size, 4, none⟩ = some (.int .u64 c4) ∧ Wk.cell? ⟨w.heap.size, 5, none⟩ = some (.int .u64 c5)) W5.drew) := ⟨below_drewN (Below.refl _ _) 1, q0, q1, q2, q3, q4, q5⟩
  go_region_held3 (fun Wk => Below (W5.heap.size) (W5) Wk ∧ Wk.cell? ⟨w.heap.size, 0, none⟩ = some (.int .u8 9) ∧ Wk.cell? ⟨w.heap.size, 1, none⟩ = some (.int .i64 k) ∧ Wk.cell? ⟨w.heap.size, 2, none⟩ = some (.int .i64 c2) ∧ Wk.cell? ⟨w.heap.size, 3, none⟩ = some (.int .i64 c3) ∧ Wk.cell? ⟨w.heap.size, 4, none⟩ = some (.int .u64 c4) ∧ Wk.cell? ⟨w.heap.size, 5, none⟩ = some (.int .u64 c5))
    (first | exact HS6b.out | assumption | exact held_6_0 hb1 (by assumption))
    (first
    | (go_at_call 54; refine (HBO.out _).mono ?_; rintro e W6 ⟨mm2, rfl, hU, hNB, hb1⟩; have hlk := hU.miss (P := Try.prog) (k := 5) (T := 132) (e := 130) Try.underlying5 Try.underlying132 (Try.zeroValue130 _) (x := 9) (by decide) (by simp [bothM])))
  rename_i hH
  obtain ⟨hb2, q0, q1, q2, q3, q4, q5⟩ := hH
  have HB6 := Lib.hid hb2
  have hz6 := hb2.size
  have HS6 : Hid (Stk W6 n0 m x st) := HS5.out.below HB6.out
  have HN6 : Hid (NodeAt W6 w.heap.size 9 k c2 c3 c4 c5) := HN5.out.below HB6.out
  have H46 : Hid (W6.heap[g4]? = some (.cells #[.int .u64 ((R / B : Nat) : Int), .int .u64 ((R % B : Nat) : Int)] 33 (0, 0))) := by
    show _ = _
    rw [← HE3.out.1, ← HE3.out.2]
    exact (HB6.out.block _ hl5).trans HG5.out
  have HBN6 : Hid (Below n0 w W6) := HBN5.out.trans (HB6.out.mono (Nat.le_trans HS.out.base HBN5.out.size))
  clear hU hlk hb1 hb2 hNB q0 q1 q2 q3 q4 q5
  go_wp2_with fail
  refine push_region n0 m w.heap.size g4 x st R 9 k c2 c3 c4 c5 W6 HS6 HN6 H46 HRL HLEN _ _ _ _ _ _ _ _ _ _ _ _ _ _ _ _ _ _ _ _ _ _ _ _ _ _ _ _ _ _ _ _ _ _ _ _ _ _ _ _ _ _ _ _ _ _ _ _ _ _ _ _ _ _ _ _ _ _ _ _ _ _ _ _ _ _ _ _ ?_
  intro u54 u55 u56 u57 u58 u59 u60 u61 u62 u63 u64 u65 u66 u67 u68 u69 w9 h9 hb9
  dsimp only
  go_wp2_with fail
  go_end0
  exact ⟨rfl, h9, HBN6.out.trans hb9⟩

end Go.Proofs.Ytpgpjaackaedhaa
