/-
  Lemmas, joined: NodeB, NodeC.
-/
import Derived.Test.YtehcclcokgmplaaJA20
/-
  A node of code that asks one number, done.
-/
namespace Go.Proofs.Ytehcclcokgmplaa
open Go.RowKit Go.Maps

theorem Stk.lt {w : World} {n0 m : Nat} {x : Value × Value} {st : List (Nat × Int)} (h : Stk w n0 m x st) : m < w.heap.size := by
  obtain ⟨v, h1, -⟩ := h
  exact (Array.getElem?_eq_some_iff.1 h1).1
/-- A store into a block of another type. -/
theorem Stk.kept {w w' : World} {n0 m g : Nat} {x : Value × Value} {st : List (Nat × Int)} {cs : Array Value} (h : Stk w n0 m x st) (hg : w.heap[g]? = some (.cells cs 59 (0, 0))) (hm : m ≠ g) (hk : ∀ k, k ≠ g → w'.heap[k]? = w.heap[k]?) : Stk w' n0 m x st := by
  obtain ⟨v, h1, h2, h3, h4, h5⟩ := h
  refine ⟨v, (hk m hm).trans h1, ?_, h3, h4, h5⟩
  obtain ⟨q0, q | ⟨g', cap, cur, q1, q2, q3, q4⟩⟩ := h2
  · exact ⟨q0, .inl q⟩
  · exact ⟨q0, .inr ⟨g', cap, cur, q1, q2, (hk g' (fun e => by rw [e, hg] at q3; simp at q3)).trans q3, q4⟩⟩
theorem not_lt (a : Nat) (k : Int) (ha : a < B * B) : (a % 2 ^ sh k) ^^^ (2 ^ sh k - 1) < B * B := by
  have h1 : a % 2 ^ sh k < 2 ^ 128 := by rw [← BB_pow]; exact Nat.lt_of_le_of_lt (Nat.mod_le _ _) ha
  have h2 : 2 ^ sh k - 1 < 2 ^ 128 := by rw [← BB_pow]; exact mask_lt k
  rw [BB_pow]
  exact Nat.xor_lt_two_pow h1 h2

set_option maxRecDepth 100000 in
set_option maxHeartbeats 4000000 in
theorem node_one (n0 m : Nat) (x : Value × Value) (st : List (Nat × Int)) (a : Nat) (j : Int) (op k c2 c3 c4 c5 : Int) (w : World) (hS : Stk w n0 m x (st ++ [(a, j)])) (hlen : st.length < 99990) {R fk : Nat} (hop : 7 ≤ op) (hwf : (Lit.int .u8 op).wf = true) (hin : ∀ g, (op, fnV fk g) ∈ aloneM g) (hmb : ∀ g, ∀ q ∈ bothM g, q.1 ≠ op) (hcf : ∀ vs V, (callFunc fk vs).run Try.prog V = .ok (.enter fk vs) V) (hR : R < B * B)
    (hC : ∀ W g, NodeAt W g op k c2 c3 c4 c5 → Calls Try.prog fk #[szV a j, .pointer (some ⟨g, 0, none⟩)] W (RetNum W R)) :
    Calls Try.prog 40 #[.pointer (some ⟨m, 0, none⟩), nodeV op k c2 c3 c4 c5] w fun e w' => e = .returned (.tuple #[]) ∧ Stk w' n0 m x (st ++ [(R % 2 ^ sh k, k)]) ∧ Below n0 w w' := by
  have HS := Lib.hid hS
  have HLEN : Hid (st.length < 100000) := (by show _ < _; omega)
  have HL : Hid (∀ W, Calls Try.prog 45 #[.pointer (some ⟨m, 0, none⟩), nodeV op k c2 c3 c4 c5] W fun e w' => e = .returned (.tuple #[.agg #[.int .u64 0, .int .u64 0], .bool false]) ∧ Below W.heap.size W w') := fun W => leaf_none m op k c2 c3 _ _ W (by omega)
  have HA : Hid (∀ W, Calls Try.prog 46 #[nodeV op k c2 c3 c4 c5] W fun e w' => ∃ mm, e = .returned (.map (some mm)) ∧ UMap w' mm (aloneM W.heap.size) ∧ NodeAt w' W.heap.size op k c2 c3 c4 c5 ∧ Below W.heap.size W w') := fun W => alone_any _ _ _ _ _ _ W
  have HBO : Hid (∀ W, Calls Try.prog 47 #[nodeV op k c2 c3 c4 c5] W fun e w' => ∃ mm, e = .returned (.map (some mm)) ∧ UMap w' mm (bothM W.heap.size) ∧ NodeAt w' W.heap.size op k c2 c3 c4 c5 ∧ Below W.heap.size W w') := fun W => both_any _ _ _ _ _ _ W
  have HNA : Hid (NodeAt (w.alloc (.cells #[.int .u8 op, .int .i64 k, .int .i64 c2, .int .i64 c3, .int .u64 c4, .int .u64 c5] 61)) w.heap.size op k c2 c3 c4 c5) := heap_new w _
  have HRL := Lib.hid hR
  have HCL := Lib.hid hC
  have HFK := Lib.hid hin
  have HMB := Lib.hid hmb
  have HOP := Lib.hid hwf
  have HPOP : Hid (∀ W, Stk W n0 m x (st ++ [(a, j)]) → Calls Try.prog 41 #[.pointer (some ⟨m, 0, none⟩)] W fun e w' => e = .returned (szV a j) ∧ Stk w' n0 m x st ∧ Below n0 W w' ∧ Apart m W w') := fun W h => pop_any n0 m x st a j W h
  obtain ⟨y3, z3, he3, ey3, ez3⟩ := numV_parts R
  have HE3 : Hid (y3 = R / B ∧ z3 = R % B) := ⟨ey3, ez3⟩
  unfold RetNum at HCL
  rw [he3] at HCL
  unfold szV at HCL HPOP
  obtain ⟨ay, hay⟩ : ∃ ay : Int, ay = ((a / B : Nat) : Int) := ⟨_, rfl⟩
  obtain ⟨az, haz⟩ : ∃ az : Int, az = ((a % B : Nat) : Int) := ⟨_, rfl⟩
  rw [← hay, ← haz] at HCL HPOP
  clear he3 ey3 ez3 hay haz
  clear hS hlen hop hwf hin hmb hR hC
  unfold nodeV at HL HA HBO ⊢
  go_enter Try.func40, Try.ntmps40
  go_wp2_with (go_at_call 45; refine (HL.out _).mono ?_; rintro e w1 ⟨rfl, hb1⟩; have HB1 := Lib.hid hb1; have hz1 := hb1.size; simp at hz1; clear hb1)
  obtain ⟨W2, hW2⟩ : ∃ W2, W2 = w1.alloc (.cells #[.int .u64 0, .int .u64 0] 59) := ⟨_, rfl⟩
  have HB2 : Hid (Below w.heap.size w W2) := by
    show Below _ _ _
    rw [hW2]
    exact (((Below.refl _ _).alloc (Nat.le_refl _) _).trans (HB1.out.mono (by simp))).alloc (by omega) _
  have HN2 : Hid (NodeAt W2 w.heap.size op k c2 c3 c4 c5) := by
    show NodeAt _ _ _ _ _ _ _ _
    rw [hW2]
    exact (HNA.out.below HB1.out).below ((Below.refl _ _).alloc (Nat.le_refl _) _)
  have H42 : Hid (W2.heap[w1.heap.size]? = some (.cells #[.int .u64 0, .int .u64 0] 59 (0, 0))) := by
    show _ = _
    rw [hW2]; exact heap_new w1 _
  rw [← hW2]
  have hz2 : w1.heap.size < W2.heap.size := by rw [hW2]; simp
  have hz0 : w.heap.size < w1.heap.size := by omega
  clear hW2 HB1 HNA hz1
  generalize w1.heap.size = g4 at *
  clear w1
  have HMW : Hid (m < w.heap.size) := HS.out.lt
  obtain ⟨q0, q1, q2, q3, q4, q5⟩ := HN2.out.cells
  have HS2 : Hid ((fun Wk => Below (W2.heap.size) (W2) Wk ∧ Wk.cell? ⟨w.heap.size, 0, none⟩ = some (.int .u8 op) ∧ Wk.cell? ⟨w.heap.size, 1, none⟩ = some (.int .i64 k) ∧ Wk.cell? ⟨w.heap.size, 2, none⟩ = some (.int .i64 c2) ∧ Wk.cell? ⟨w.heap.size, 3, none⟩ = some (.int .i64 c3) ∧ Wk.cell? ⟨w.heap.size, 4, none⟩ = some (.int .u64 c4) ∧ Wk.cell? ⟨w.heap.size, 5, none⟩ = some (.int .u64 c5)) W2.drew) := ⟨below_drewN (Below.refl _ _) 1, q0, q1, q2, q3, q4, q5⟩
  go_region_held3 (fun Wk => Below (W2.heap.size) (W2) Wk ∧ Wk.cell? ⟨w.heap.size, 0, none⟩ = some (.int .u8 op) ∧ Wk.cell? ⟨w.heap.size, 1, none⟩ = some (.int .i64 k) ∧ Wk.cell? ⟨w.heap.size, 2, none⟩ = some (.int .i64 c2) ∧ Wk.cell? ⟨w.heap.size, 3, none⟩ = some (.int .i64 c3) ∧ Wk.cell? ⟨w.heap.size, 4, none⟩ = some (.int .u64 c4) ∧ Wk.cell? ⟨w.heap.size, 5, none⟩ = some (.int .u64 c5))
    (first | exact HS2.out | assumption | exact held_6_0 hb1 (by assumption))
    (first
    | (go_at_call 46; refine (HA.out _).mono ?_; rintro e w1 ⟨mm, rfl, hU, hNB, hb1⟩; have hlk := hU.look (P := Try.prog) (k := 5) (T := 118) (e := 116) Try.underlying5 Try.underlying118 (x := op) (v := fnV fk W2.heap.size) (HFK.out _); unfold fnV at hlk))
  rename_i hH
  obtain ⟨hb2, q0, q1, q2, q3, q4, q5⟩ := hH
  have HB3 := Lib.hid hb2
  have hz3 := hb2.size
  have HNB : Hid (NodeAt w1 W2.heap.size op k c2 c3 c4 c5) := hNB
  have HS3 : Hid (Stk w1 n0 m x (st ++ [(a, j)])) := HS.out.below (HB2.out.trans (HB3.out.mono HB2.out.size))
  have HN3 : Hid (NodeAt w1 w.heap.size op k c2 c3 c4 c5) := HN2.out.below HB3.out
  have H43 : Hid (w1.heap[g4]? = some (.cells #[.int .u64 0, .int .u64 0] 59 (0, 0))) := (HB3.out.block _ hz2).trans H42.out
  clear hU hlk hb1 hb2 hNB q0 q1 q2 q3 q4 q5
  go_wp2_with fail
  refine (HPOP.out _ HS3.out).mono ?_
  rintro e w3 ⟨rfl, hs3, hbn3, hap3⟩
  have HAP : Hid (Apart m w1 w3) := hap3
  have HSA := Lib.hid hs3
  have HBN3 : Hid (Below n0 w1 w3) := hbn3
  clear hs3 hbn3 hap3
  have HNB2 : Hid (NodeAt w3 W2.heap.size op k c2 c3 c4 c5) := (HAP.out.1 _ (Array.getElem?_eq_some_iff.1 HNB.out).1 (by have := HMW.out; omega)).trans HNB.out
  have HN4 : Hid (NodeAt w3 w.heap.size op k c2 c3 c4 c5) := (HAP.out.1 _ (Array.getElem?_eq_some_iff.1 HN3.out).1 (by have := HMW.out; omega)).trans HN3.out
  have H44 : Hid (w3.heap[g4]? = some (.cells #[.int .u64 0, .int .u64 0] 59 (0, 0))) := (HAP.out.1 _ (Array.getElem?_eq_some_iff.1 H43.out).1 (by have := HMW.out; omega)).trans H43.out
  go_wp2_with fail
  refine (HCL.out _ _ HNB2.out).mono ?_
  rintro e w4 ⟨rfl, hb4⟩
  have HB4 := Lib.hid hb4
  have hg4 : w4.heap[g4]? = some (.cells #[.int .u64 0, .int .u64 0] 59 (0, 0)) := (hb4.block _ (Array.getElem?_eq_some_iff.1 H44.out).1).trans H44.out
  have HG4 := Lib.hid hg4
  have k0 : w4.cell? ⟨g4, 0, none⟩ = some (.int .u64 0) := by simp [World.cell?, hg4]
  have k1 : w4.cell? ⟨g4, 1, none⟩ = some (.int .u64 0) := by simp [World.cell?, hg4]
  have k2 : w4.frozen? ⟨g4, 0, none⟩ = false := by simp [World.frozen?, hg4]
  have k3 : w4.frozen? ⟨g4, 1, none⟩ = false := by simp [World.frozen?, hg4]
  clear hg4 hb4
  go_wp2_with fail
  obtain ⟨W5, hW5⟩ : ∃ W5, W5 = (w4.setCell ⟨g4, 0, none⟩ (.int .u64 (y3 : Int))).setCell ⟨g4, 1, none⟩ (.int .u64 (z3 : Int)) := ⟨_, rfl⟩
  have hk5 : ∀ k, k ≠ g4 → W5.heap[k]? = w4.heap[k]? := fun k hk => by rw [hW5, setCell_heap hk, setCell_heap hk]
  have hs5 : W5.heap.size = w4.heap.size := by rw [hW5]; simp
  have HG5 : Hid (W5.heap[g4]? = some (.cells #[.int .u64 (y3 : Int), .int .u64 (z3 : Int)] 59 (0, 0))) := by show _ = _; rw [hW5]; exact set_lo _ (set_hi _ HG4.out)
  have HN5 : Hid (NodeAt W5 w.heap.size op k c2 c3 c4 c5) := (hk5 _ (by omega)).trans (HN4.out.below HB4.out)
  have HS5 : Hid (Stk W5 n0 m x st) := (HSA.out.below HB4.out).kept HG4.out (by have := HMW.out; omega) hk5
  have HBN5 : Hid (Below n0 w W5) := by
    have hn0 : n0 ≤ w.heap.size := HS.out.base
    have hB : Below n0 w w4 := (((HB2.out.trans (HB3.out.mono HB2.out.size)).mono hn0).trans HBN3.out).trans (HB4.out.mono (Nat.le_trans hn0 (by have := HB2.out.size; have := HB3.out.size; have := HAP.out.2; omega)))
    show Below _ _ _
    rw [hW5]
    exact (hB.setCell (by show n0 ≤ g4; omega) _).setCell (by show n0 ≤ g4; omega) _
  rw [← hW5]
  clear k0 k1 k2 k3 hW5 hk5
  have hl5 : g4 < W5.heap.size := (Array.getElem?_eq_some_iff.1 HG5.out).1
  obtain ⟨q0, q1, q2, q3, q4, q5⟩ := HN5.out.cells
  have HS6b : Hid ((fun Wk => Below (W5.heap.size) (W5) Wk ∧ Wk.cell? ⟨w.heap.size, 0, none⟩ = some (.int .u8 op) ∧ Wk.cell? ⟨w.heap.size, 1, none⟩ = some (.int .i64 k) ∧ Wk.cell? ⟨w.heap.size, 2, none⟩ = some (.int .i64 c2) ∧ Wk.cell? ⟨w.heap.size, 3, none⟩ = some (.int .i64 c3) ∧ Wk.cell? ⟨w.heap.size, 4, none⟩ = some (.int .u64 c4) ∧ Wk.cell? ⟨w.heap.size, 5, none⟩ = some (.int .u64 c5)) W5.drew) := ⟨below_drewN (Below.refl _ _) 1, q0, q1, q2, q3, q4, q5⟩
  go_region_held3 (fun Wk => Below (W5.heap.size) (W5) Wk ∧ Wk.cell? ⟨w.heap.size, 0, none⟩ = some (.int .u8 op) ∧ Wk.cell? ⟨w.heap.size, 1, none⟩ = some (.int .i64 k) ∧ Wk.cell? ⟨w.heap.size, 2, none⟩ = some (.int .i64 c2) ∧ Wk.cell? ⟨w.heap.size, 3, none⟩ = some (.int .i64 c3) ∧ Wk.cell? ⟨w.heap.size, 4, none⟩ = some (.int .u64 c4) ∧ Wk.cell? ⟨w.heap.size, 5, none⟩ = some (.int .u64 c5))
    (first | exact HS6b.out | assumption | exact held_6_0 hb1 (by assumption))
    (first
    | (go_at_call 47; refine (HBO.out _).mono ?_; rintro e W6 ⟨mm2, rfl, hU, hNB, hb1⟩; have hlk := hU.miss (P := Try.prog) (k := 5) (T := 122) (e := 120) Try.underlying5 Try.underlying122 (Try.zeroValue120 _) (x := op) HOP.out (HMB.out _)))
  rename_i hH
  obtain ⟨hb2, q0, q1, q2, q3, q4, q5⟩ := hH
  have HB6 := Lib.hid hb2
  have hz6 := hb2.size
  have HS6 : Hid (Stk W6 n0 m x st) := HS5.out.below HB6.out
  have HN6 : Hid (NodeAt W6 w.heap.size op k c2 c3 c4 c5) := HN5.out.below HB6.out
  have H46 : Hid (W6.heap[g4]? = some (.cells #[.int .u64 ((R / B : Nat) : Int), .int .u64 ((R % B : Nat) : Int)] 59 (0, 0))) := by
    show _ = _
    rw [← HE3.out.1, ← HE3.out.2]
    exact (HB6.out.block _ hl5).trans HG5.out
  have HBN6 : Hid (Below n0 w W6) := HBN5.out.trans (HB6.out.mono (Nat.le_trans HS.out.base HBN5.out.size))
  clear hU hlk hb1 hb2 hNB q0 q1 q2 q3 q4 q5
  go_wp2_with fail
  refine push_region n0 m w.heap.size g4 x st R op k c2 c3 c4 c5 W6 HS6 HN6 H46 HRL HLEN _ _ _ _ _ _ _ _ _ _ _ _ _ _ _ _ _ _ _ _ _ _ _ _ _ _ _ _ _ _ _ _ _ _ _ _ _ _ _ _ _ _ _ _ _ _ _ _ _ _ _ _ _ _ _ _ _ _ _ _ _ _ _ _ _ _ _ _ ?_
  intro u54 u55 u56 u57 u58 u59 u60 u61 u62 u63 u64 u65 u66 u67 u68 u69 w9 h9 hb9
  dsimp only
  go_wp2_with fail
  go_end0
  exact ⟨rfl, h9, HBN6.out.trans hb9⟩

theorem node_not (n0 m : Nat) (x : Value × Value) (st : List (Nat × Int)) (a : Nat) (j : Int) (k c2 c3 c4 c5 : Int) (w : World) (hS : Stk w n0 m x (st ++ [(a, j)])) (hlen : st.length < 99990) (ha : a < B * B) :
    Calls Try.prog 40 #[.pointer (some ⟨m, 0, none⟩), nodeV 7 k c2 c3 c4 c5] w fun e w' => e = .returned (.tuple #[]) ∧ Stk w' n0 m x (st ++ [(((a % 2 ^ sh k) ^^^ (2 ^ sh k - 1)) % 2 ^ sh k, k)]) ∧ Below n0 w w' :=
  node_one n0 m x st a j 7 k c2 c3 c4 c5 w hS hlen (fk := 55) (by decide) rfl (fun g => by simp [aloneM]) (fun g => by simp [bothM]) (fun _ _ => by kernel_rfl) (not_lt a k ha) fun W g hg => clos_not g 7 k c2 c3 c4 c5 a j W ha hg
theorem node_neg (n0 m : Nat) (x : Value × Value) (st : List (Nat × Int)) (a : Nat) (j : Int) (k c2 c3 c4 c5 : Int) (w : World) (hS : Stk w n0 m x (st ++ [(a, j)])) (hlen : st.length < 99990) (ha : a < B * B) :
    Calls Try.prog 40 #[.pointer (some ⟨m, 0, none⟩), nodeV 8 k c2 c3 c4 c5] w fun e w' => e = .returned (.tuple #[]) ∧ Stk w' n0 m x (st ++ [(((0 + (B * B - a)) % (B * B) % 2 ^ sh k) % 2 ^ sh k, k)]) ∧ Below n0 w w' :=
  node_one n0 m x st a j 8 k c2 c3 c4 c5 w hS hlen (fk := 57) (by decide) rfl (fun g => by simp [aloneM]) (fun g => by simp [bothM]) (fun _ _ => by kernel_rfl) (Nat.lt_of_le_of_lt (Nat.mod_le _ _) (Nat.mod_lt _ (by unfold B; omega))) fun W g hg => clos_neg g 8 k c2 c3 c4 c5 a j W ha hg
theorem node_slice (n0 m : Nat) (x : Value × Value) (st : List (Nat × Int)) (a : Nat) (j : Int) (k c2 c3 c4 c5 : Int) (w : World) (hS : Stk w n0 m x (st ++ [(a, j)])) (hlen : st.length < 99990) (ha : a < B * B) (h0 : 0 ≤ c3) (h1 : c3 ≤ c2) (h2 : c2 < 128) :
    Calls Try.prog 40 #[.pointer (some ⟨m, 0, none⟩), nodeV 9 k c2 c3 c4 c5] w fun e w' => e = .returned (.tuple #[]) ∧ Stk w' n0 m x (st ++ [((a / 2 ^ sh c3 % 2 ^ sh (c2 - c3 + 1)) % 2 ^ sh k, k)]) ∧ Below n0 w w' :=
  node_one n0 m x st a j 9 k c2 c3 c4 c5 w hS hlen (fk := 59) (by decide) rfl (fun g => by simp [aloneM]) (fun g => by simp [bothM]) (fun _ _ => by kernel_rfl) (Nat.lt_of_le_of_lt (Nat.mod_le _ _) (Nat.lt_of_le_of_lt (Nat.div_le_self _ _) ha)) fun W g hg => clos_slice g 9 k c2 c3 c4 c5 a j W ha hg h0 h1 h2
theorem node_shl (n0 m : Nat) (x : Value × Value) (st : List (Nat × Int)) (a : Nat) (j : Int) (k c2 c3 c4 c5 : Int) (w : World) (hS : Stk w n0 m x (st ++ [(a, j)])) (hlen : st.length < 99990) (ha : a < B * B) :
    Calls Try.prog 40 #[.pointer (some ⟨m, 0, none⟩), nodeV 13 k c2 c3 c4 c5] w fun e w' => e = .returned (.tuple #[]) ∧ Stk w' n0 m x (st ++ [((a * 2 ^ sh c2 % (B * B) % 2 ^ sh k) % 2 ^ sh k, k)]) ∧ Below n0 w w' :=
  node_one n0 m x st a j 13 k c2 c3 c4 c5 w hS hlen (fk := 61) (by decide) rfl (fun g => by simp [aloneM]) (fun g => by simp [bothM]) (fun _ _ => by kernel_rfl) (Nat.lt_of_le_of_lt (Nat.mod_le _ _) (Nat.mod_lt _ (by unfold B; omega))) fun W g hg => clos_shl g 13 k c2 c3 c4 c5 a j W ha hg
theorem node_shr (n0 m : Nat) (x : Value × Value) (st : List (Nat × Int)) (a : Nat) (j : Int) (k c2 c3 c4 c5 : Int) (w : World) (hS : Stk w n0 m x (st ++ [(a, j)])) (hlen : st.length < 99990) (ha : a < B * B) :
    Calls Try.prog 40 #[.pointer (some ⟨m, 0, none⟩), nodeV 14 k c2 c3 c4 c5] w fun e w' => e = .returned (.tuple #[]) ∧ Stk w' n0 m x (st ++ [((a / 2 ^ sh c2) % 2 ^ sh k, k)]) ∧ Below n0 w w' :=
  node_one n0 m x st a j 14 k c2 c3 c4 c5 w hS hlen (fk := 63) (by decide) rfl (fun g => by simp [aloneM]) (fun g => by simp [bothM]) (fun _ _ => by kernel_rfl) (Nat.lt_of_le_of_lt (Nat.div_le_self _ _) ha) fun W g hg => clos_shr g 14 k c2 c3 c4 c5 a j W ha hg

end Go.Proofs.Ytehcclcokgmplaa

/-
  A node of code that asks two numbers, done.
-/
namespace Go.Proofs.Ytehcclcokgmplaa
open Go.RowKit Go.Maps

section
variable {W w1 : World} {gX g4 m : Nat} {a b c : Value}
def SB (gX g4 : Nat) (a b c : Value) (Wk : World) : Prop := Wk.cell? ⟨gX, 0, none⟩ = some a ∧ Wk.cell? ⟨gX, 1, none⟩ = some b ∧ Wk.cell? ⟨gX, 2, none⟩ = some c ∧ (∃ x, Wk.cell? ⟨g4, 0, none⟩ = some x) ∧ (∃ x, Wk.cell? ⟨g4, 1, none⟩ = some x) ∧ Wk.frozen? ⟨g4, 0, none⟩ = false ∧ Wk.frozen? ⟨g4, 1, none⟩ = false
theorem SB.apart (h : SB gX g4 a b c W) (ha : Apart m W w1) (hX : gX ≠ m) (h4 : g4 ≠ m) : SB gX g4 a b c w1 := by
  obtain ⟨q0, q1, q2, ⟨x0, q3⟩, ⟨x1, q4⟩, q5, q6⟩ := h
  exact ⟨ha.cell (p := ⟨gX, 0, none⟩) hX q0, ha.cell (p := ⟨gX, 1, none⟩) hX q1, ha.cell (p := ⟨gX, 2, none⟩) hX q2, ⟨x0, ha.cell (p := ⟨g4, 0, none⟩) h4 q3⟩, ⟨x1, ha.cell (p := ⟨g4, 1, none⟩) h4 q4⟩, (ha.frozen (p := ⟨g4, 0, none⟩) h4 q3).trans q5, (ha.frozen (p := ⟨g4, 1, none⟩) h4 q4).trans q6⟩
theorem SB.below (h : SB gX g4 a b c W) (hb : Below W.heap.size W w1) : SB gX g4 a b c w1 := by
  obtain ⟨q0, q1, q2, ⟨x0, q3⟩, ⟨x1, q4⟩, q5, q6⟩ := h
  exact ⟨(hb.cell (cell_there q0).1).trans q0, (hb.cell (cell_there q1).1).trans q1, (hb.cell (cell_there q2).1).trans q2, ⟨x0, (hb.cell (cell_there q3).1).trans q3⟩, ⟨x1, (hb.cell (cell_there q4).1).trans q4⟩, (hb.frozen (cell_there q3).1).trans q5, (hb.frozen (cell_there q4).1).trans q6⟩
theorem SB.set (h : SB gX g4 a b c W) (hX : gX ≠ g4) (u v : Value) : SB gX g4 a b c ((W.setCell ⟨g4, 0, none⟩ u).setCell ⟨g4, 1, none⟩ v) := by
  obtain ⟨q0, q1, q2, q3, q4, q5, q6⟩ := h
  exact ⟨cell?_apart hX (cell?_apart hX q0), cell?_apart hX (cell?_apart hX q1), cell?_apart hX (cell?_apart hX q2), cell?_some_after _ (cell?_some_after _ q3), cell?_some_after _ (cell?_some_after _ q4), by simp only [World.frozen?_setCell]; exact q5, by simp only [World.frozen?_setCell]; exact q6⟩
end
theorem NodeAt.apart {w w' : World} {m g : Nat} {op c1 c2 c3 c4 c5 : Int} (h : NodeAt w g op c1 c2 c3 c4 c5) (ha : Apart m w w') (hne : g ≠ m) : NodeAt w' g op c1 c2 c3 c4 c5 := (ha.1 _ (Array.getElem?_eq_some_iff.1 h).1 hne).trans h

theorem cat_lt (a b : Nat) (j : Int) (hb : b < B * B) : (a * 2 ^ sh j % (B * B) % 2 ^ sh 128) ||| (b % 2 ^ sh j) < B * B := by
  have h1 : a * 2 ^ sh j % (B * B) % 2 ^ sh 128 < 2 ^ 128 := by rw [← BB_pow]; exact Nat.lt_of_le_of_lt (Nat.mod_le _ _) (Nat.mod_lt _ (by unfold B; omega))
  have h2 : b % 2 ^ sh j < 2 ^ 128 := by rw [← BB_pow]; exact Nat.lt_of_le_of_lt (Nat.mod_le _ _) hb
  rw [BB_pow]
  exact Nat.or_lt_two_pow (by rw [← BB_pow]; rw [← BB_pow] at h1; exact h1) h2
theorem xor_lt {a b : Nat} (ha : a < B * B) (hb : b < B * B) : a ^^^ b < B * B := by
  rw [BB_pow] at ha hb ⊢; exact Nat.xor_lt_two_pow ha hb
theorem or_lt {a b : Nat} (ha : a < B * B) (hb : b < B * B) : a ||| b < B * B := by
  rw [BB_pow] at ha hb ⊢; exact Nat.or_lt_two_pow ha hb
theorem one_lt (b : Bool) : oneN b < B * B := by cases b <;> (unfold oneN B; decide)

set_option maxRecDepth 100000 in
set_option maxHeartbeats 4000000 in
theorem node_two (n0 m : Nat) (x : Value × Value) (st : List (Nat × Int)) (a b : Nat) (i j : Int) (op k c2 c3 c4 c5 : Int) (w : World) (hS : Stk w n0 m x (st ++ [(a, i)] ++ [(b, j)])) (hlen : st.length < 99990) {R fk : Nat} (cp : Nat → Array Value) (hop : 7 ≤ op) (hwf : (Lit.int .u8 op).wf = true) (hin : ∀ g, (op, .func (Fn.func fk) #[] (cp g)) ∈ bothM g) (hma : ∀ g, ∀ q ∈ aloneM g, q.1 ≠ op) (hcf : ∀ vs V, (callFunc fk vs).run Try.prog V = .ok (.enter fk vs) V) (hR : R < B * B)
    (hC : ∀ W g, NodeAt W g op k c2 c3 c4 c5 → Calls Try.prog fk (#[szV a i, szV b j] ++ cp g) W (RetNum W R)) :
    Calls Try.prog 40 #[.pointer (some ⟨m, 0, none⟩), nodeV op k c2 c3 c4 c5] w fun e w' => e = .returned (.tuple #[]) ∧ Stk w' n0 m x (st ++ [(R % 2 ^ sh k, k)]) ∧ Below n0 w w' := by
  have HS := Lib.hid hS
  have HLEN : Hid (st.length < 100000) := (by show _ < _; omega)
  have HL : Hid (∀ W, Calls Try.prog 45 #[.pointer (some ⟨m, 0, none⟩), nodeV op k c2 c3 c4 c5] W fun e w' => e = .returned (.tuple #[.agg #[.int .u64 0, .int .u64 0], .bool false]) ∧ Below W.heap.size W w') := fun W => leaf_none m op k c2 c3 _ _ W (by omega)
  have HA : Hid (∀ W, Calls Try.prog 46 #[nodeV op k c2 c3 c4 c5] W fun e w' => ∃ mm, e = .returned (.map (some mm)) ∧ UMap w' mm (aloneM W.heap.size) ∧ NodeAt w' W.heap.size op k c2 c3 c4 c5 ∧ Below W.heap.size W w') := fun W => alone_any _ _ _ _ _ _ W
  have HBO : Hid (∀ W, Calls Try.prog 47 #[nodeV op k c2 c3 c4 c5] W fun e w' => ∃ mm, e = .returned (.map (some mm)) ∧ UMap w' mm (bothM W.heap.size) ∧ NodeAt w' W.heap.size op k c2 c3 c4 c5 ∧ Below W.heap.size W w') := fun W => both_any _ _ _ _ _ _ W
  have HNA : Hid (NodeAt (w.alloc (.cells #[.int .u8 op, .int .i64 k, .int .i64 c2, .int .i64 c3, .int .u64 c4, .int .u64 c5] 61)) w.heap.size op k c2 c3 c4 c5) := heap_new w _
  have HRL := Lib.hid hR
  have HCL := Lib.hid hC
  have HFK := Lib.hid hin
  have HMA := Lib.hid hma
  have HOP := Lib.hid hwf
  have HTB : Hid (∀ W, Stk W n0 m x (st ++ [(a, i)] ++ [(b, j)]) → Calls Try.prog 41 #[.pointer (some ⟨m, 0, none⟩)] W fun e w' => e = .returned (szV b j) ∧ Stk w' n0 m x (st ++ [(a, i)]) ∧ Below n0 W w' ∧ Apart m W w') := fun W h => pop_any n0 m x (st ++ [(a, i)]) b j W h
  have HTA : Hid (∀ W, Stk W n0 m x (st ++ [(a, i)]) → Calls Try.prog 41 #[.pointer (some ⟨m, 0, none⟩)] W fun e w' => e = .returned (szV a i) ∧ Stk w' n0 m x (st) ∧ Below n0 W w' ∧ Apart m W w') := fun W h => pop_any n0 m x (st) a i W h
  obtain ⟨y3, z3, he3, ey3, ez3⟩ := numV_parts R
  have HE3 : Hid (y3 = R / B ∧ z3 = R % B) := ⟨ey3, ez3⟩
  unfold RetNum at HCL
  rw [he3] at HCL
  unfold szV at HCL HTA HTB
  obtain ⟨ay, hay⟩ : ∃ ay : Int, ay = ((a / B : Nat) : Int) := ⟨_, rfl⟩
  obtain ⟨az, haz⟩ : ∃ az : Int, az = ((a % B : Nat) : Int) := ⟨_, rfl⟩
  obtain ⟨bY, hby⟩ : ∃ bY : Int, bY = ((b / B : Nat) : Int) := ⟨_, rfl⟩
  obtain ⟨bZ, hbz⟩ : ∃ bZ : Int, bZ = ((b % B : Nat) : Int) := ⟨_, rfl⟩
  rw [← hay, ← haz, ← hby, ← hbz] at HCL
  rw [← hay, ← haz] at HTA
  rw [← hby, ← hbz] at HTB
  clear he3 ey3 ez3 hay haz hby hbz
  clear hS hlen hop hwf hin hma hR hC
  unfold nodeV at HL HA HBO ⊢
  go_enter Try.func40, Try.ntmps40
  go_wp2_with (go_at_call 45; refine (HL.out _).mono ?_; rintro e w1 ⟨rfl, hb1⟩; have HB1 := Lib.hid hb1; have hz1 := hb1.size; simp at hz1; clear hb1)
  obtain ⟨W2, hW2⟩ : ∃ W2, W2 = w1.alloc (.cells #[.int .u64 0, .int .u64 0] 59) := ⟨_, rfl⟩
  have HB2 : Hid (Below w.heap.size w W2) := by
    show Below _ _ _
    rw [hW2]
    exact (((Below.refl _ _).alloc (Nat.le_refl _) _).trans (HB1.out.mono (by simp))).alloc (by omega) _
  have HN2 : Hid (NodeAt W2 w.heap.size op k c2 c3 c4 c5) := by
    show NodeAt _ _ _ _ _ _ _ _
    rw [hW2]
    exact (HNA.out.below HB1.out).below ((Below.refl _ _).alloc (Nat.le_refl _) _)
  have H42 : Hid (W2.heap[w1.heap.size]? = some (.cells #[.int .u64 0, .int .u64 0] 59 (0, 0))) := by
    show _ = _
    rw [hW2]; exact heap_new w1 _
  rw [← hW2]
  have hz2 : w1.heap.size < W2.heap.size := by rw [hW2]; simp
  have hz0 : w.heap.size < w1.heap.size := by omega
  clear hW2 HB1 HNA hz1
  generalize w1.heap.size = g4 at *
  clear w1
  have HMW : Hid (m < w.heap.size) := HS.out.lt
  obtain ⟨q0, q1, q2, q3, q4, q5⟩ := HN2.out.cells
  have HS2 : Hid ((fun Wk => Below (W2.heap.size) (W2) Wk ∧ Wk.cell? ⟨w.heap.size, 0, none⟩ = some (.int .u8 op) ∧ Wk.cell? ⟨w.heap.size, 1, none⟩ = some (.int .i64 k) ∧ Wk.cell? ⟨w.heap.size, 2, none⟩ = some (.int .i64 c2) ∧ Wk.cell? ⟨w.heap.size, 3, none⟩ = some (.int .i64 c3) ∧ Wk.cell? ⟨w.heap.size, 4, none⟩ = some (.int .u64 c4) ∧ Wk.cell? ⟨w.heap.size, 5, none⟩ = some (.int .u64 c5)) W2.drew) := ⟨below_drewN (Below.refl _ _) 1, q0, q1, q2, q3, q4, q5⟩
  go_region_held3 (fun Wk => Below (W2.heap.size) (W2) Wk ∧ Wk.cell? ⟨w.heap.size, 0, none⟩ = some (.int .u8 op) ∧ Wk.cell? ⟨w.heap.size, 1, none⟩ = some (.int .i64 k) ∧ Wk.cell? ⟨w.heap.size, 2, none⟩ = some (.int .i64 c2) ∧ Wk.cell? ⟨w.heap.size, 3, none⟩ = some (.int .i64 c3) ∧ Wk.cell? ⟨w.heap.size, 4, none⟩ = some (.int .u64 c4) ∧ Wk.cell? ⟨w.heap.size, 5, none⟩ = some (.int .u64 c5))
    (first | exact HS2.out | assumption | exact held_6_0 hb1 (by assumption))
    (first
    | (go_at_call 46; refine (HA.out _).mono ?_; rintro e w1 ⟨mm, rfl, hU, hNB, hb1⟩; have hlk := hU.miss (P := Try.prog) (k := 5) (T := 118) (e := 116) Try.underlying5 Try.underlying118 (Try.zeroValue116 _) (x := op) HOP.out (HMA.out _)))
  rename_i hH
  obtain ⟨hb2, q0, q1, q2, q3, q4, q5⟩ := hH
  have HB3 := Lib.hid hb2
  have hz3 := hb2.size
  have HS3 : Hid (Stk w1 n0 m x (st ++ [(a, i)] ++ [(b, j)])) := HS.out.below (HB2.out.trans (HB3.out.mono HB2.out.size))
  have HN3 : Hid (NodeAt w1 w.heap.size op k c2 c3 c4 c5) := HN2.out.below HB3.out
  have H43 : Hid (w1.heap[g4]? = some (.cells #[.int .u64 0, .int .u64 0] 59 (0, 0))) := (HB3.out.block _ hz2).trans H42.out
  clear hU hlk hb1 hb2 hNB
  go_wp2_with fail
  have HS3b : Hid ((fun Wk => Below (w1.heap.size) (w1) Wk ∧ Wk.cell? ⟨w.heap.size, 0, none⟩ = some (.int .u8 op) ∧ Wk.cell? ⟨w.heap.size, 1, none⟩ = some (.int .i64 k) ∧ Wk.cell? ⟨w.heap.size, 2, none⟩ = some (.int .i64 c2) ∧ Wk.cell? ⟨w.heap.size, 3, none⟩ = some (.int .i64 c3) ∧ Wk.cell? ⟨w.heap.size, 4, none⟩ = some (.int .u64 c4) ∧ Wk.cell? ⟨w.heap.size, 5, none⟩ = some (.int .u64 c5)) w1.drew) := ⟨below_drewN (Below.refl _ _) 1, q0, q1, q2, q3, q4, q5⟩
  go_region_held3 (fun Wk => Below (w1.heap.size) (w1) Wk ∧ Wk.cell? ⟨w.heap.size, 0, none⟩ = some (.int .u8 op) ∧ Wk.cell? ⟨w.heap.size, 1, none⟩ = some (.int .i64 k) ∧ Wk.cell? ⟨w.heap.size, 2, none⟩ = some (.int .i64 c2) ∧ Wk.cell? ⟨w.heap.size, 3, none⟩ = some (.int .i64 c3) ∧ Wk.cell? ⟨w.heap.size, 4, none⟩ = some (.int .u64 c4) ∧ Wk.cell? ⟨w.heap.size, 5, none⟩ = some (.int .u64 c5))
    (first | exact HS3b.out | assumption | exact held_6_0 hb1 (by assumption))
    (first
    | (go_at_call 47; refine (HBO.out _).mono ?_; rintro e w3 ⟨mm2, rfl, hU, hNB, hb1⟩; have hlk := hU.look (P := Try.prog) (k := 5) (T := 122) (e := 120) Try.underlying5 Try.underlying122 (x := op) (v := .func (Fn.func fk) #[] (cp w1.heap.size)) (HFK.out _)))
  rename_i hH
  obtain ⟨hb2, q0, q1, q2, q3, q4, q5⟩ := hH
  have HB4 := Lib.hid hb2
  have hz4 := hb2.size
  have hl1 : g4 < w1.heap.size := (Array.getElem?_eq_some_iff.1 H43.out).1
  have HNB : Hid (NodeAt w3 w1.heap.size op k c2 c3 c4 c5) := hNB
  have HS4 : Hid (Stk w3 n0 m x (st ++ [(a, i)] ++ [(b, j)])) := HS3.out.below HB4.out
  have HN4 : Hid (NodeAt w3 w.heap.size op k c2 c3 c4 c5) := HN3.out.below HB4.out
  have H44 : Hid (w3.heap[g4]? = some (.cells #[.int .u64 0, .int .u64 0] 59 (0, 0))) := (HB4.out.block _ hl1).trans H43.out
  clear hU hlk hb1 hb2 hNB q0 q1 q2 q3 q4 q5
  go_wp2_with fail
  refine (HTB.out _ HS4.out).mono ?_
  rintro e w4 ⟨rfl, hs4, hbn4, hap4⟩
  have HAP4 := Lib.hid hap4
  have HSA := Lib.hid hs4
  have HBN4 := Lib.hid hbn4
  clear hs4 hbn4 hap4
  go_wp2_with fail
  obtain ⟨W5, hW5⟩ : ∃ W5, W5 = w4.alloc (.cells #[.int .u64 bY, .int .u64 bZ, .int .i64 j] 111) := ⟨_, rfl⟩
  have hbA : Below w4.heap.size w4 W5 := by rw [hW5]; exact (Below.refl _ _).alloc (Nat.le_refl _) _
  have hX5 : W5.heap[w4.heap.size]? = some (.cells #[.int .u64 bY, .int .u64 bZ, .int .i64 j] 111 (0, 0)) := by rw [hW5]; exact heap_new w4 _
  rw [← hW5]
  have HBA := Lib.hid hbA
  have hszs : m < w.heap.size ∧ w.heap.size < g4 ∧ g4 < w1.heap.size ∧ w1.heap.size < w3.heap.size ∧ w3.heap.size ≤ w4.heap.size := ⟨HMW.out, hz0, hl1, (Array.getElem?_eq_some_iff.1 HNB.out).1, HAP4.out.2⟩
  have HSZ := Lib.hid hszs
  have HNB5 : Hid (NodeAt W5.drew w1.heap.size op k c2 c3 c4 c5) := ((HNB.out.apart HAP4.out (by omega)).below hbA).below (below_drewN (Below.refl _ _) 1)
  have HN5 : Hid (NodeAt W5.drew w.heap.size op k c2 c3 c4 c5) := ((HN4.out.apart HAP4.out (by omega)).below hbA).below (below_drewN (Below.refl _ _) 1)
  have h45 : W5.heap[g4]? = some (.cells #[.int .u64 0, .int .u64 0] 59 (0, 0)) := (hbA.block _ (by omega)).trans ((HAP4.out.1 _ (by omega) (by omega)).trans H44.out)
  have HS5 : Hid (Stk W5.drew n0 m x (st ++ [(a, i)])) := (HSA.out.below hbA).below (below_drewN (Below.refl _ _) 1)
  have H45 : Hid (W5.drew.heap[g4]? = some (.cells #[.int .u64 0, .int .u64 0] 59 (0, 0))) := h45
  have x0 : W5.cell? ⟨w4.heap.size, 0, none⟩ = some (.int .u64 bY) := by simp [World.cell?, hX5]
  have x1 : W5.cell? ⟨w4.heap.size, 1, none⟩ = some (.int .u64 bZ) := by simp [World.cell?, hX5]
  have x2 : W5.cell? ⟨w4.heap.size, 2, none⟩ = some (.int .i64 j) := by simp [World.cell?, hX5]
  have x3 : W5.cell? ⟨g4, 0, none⟩ = some (.int .u64 0) := by simp [World.cell?, h45]
  have x4 : W5.cell? ⟨g4, 1, none⟩ = some (.int .u64 0) := by simp [World.cell?, h45]
  have x5 : W5.frozen? ⟨g4, 0, none⟩ = false := by simp [World.frozen?, h45]
  have x6 : W5.frozen? ⟨g4, 1, none⟩ = false := by simp [World.frozen?, h45]
  have HSB : Hid (SB w4.heap.size g4 (.int .u64 bY) (.int .u64 bZ) (.int .i64 j) W5.drew) := ⟨x0, x1, x2, ⟨_, x3⟩, ⟨_, x4⟩, x5, x6⟩
  clear hW5 h45 hX5 hbA hszs
  go_region_held3 (fun Wk => Wk.cell? ⟨w4.heap.size, 0, none⟩ = some (.int .u64 bY) ∧ Wk.cell? ⟨w4.heap.size, 1, none⟩ = some (.int .u64 bZ) ∧ Wk.cell? ⟨w4.heap.size, 2, none⟩ = some (.int .i64 j) ∧ (∃ x, Wk.cell? ⟨g4, 0, none⟩ = some x) ∧ (∃ x, Wk.cell? ⟨g4, 1, none⟩ = some x) ∧ Wk.frozen? ⟨g4, 0, none⟩ = false ∧ Wk.frozen? ⟨g4, 1, none⟩ = false)
    (first | exact HSB.out | exact SB.apart HSB.out HAP6.out (by have := HSZ.out; omega) (by have := HSZ.out; omega) | exact SB.below HSB6.out HB7.out | exact SB.set HSB7.out (by have := HSZ.out; omega) _ _ | assumption)
    (first
    | (go_at_call 41; refine (HTA.out _ HS5.out).mono ?_; rintro e w6 ⟨rfl, hs6, hbn6, hap6⟩; have HAP6 := Lib.hid hap6; have HSA6 := Lib.hid hs6; have HBN6' := Lib.hid hbn6; have HSB6 : Hid (SB w4.heap.size g4 (.int .u64 bY) (.int .u64 bZ) (.int .i64 j) w6) := SB.apart HSB.out HAP6.out (by have := HSZ.out; omega) (by have := HSZ.out; omega); clear hap6 hs6 hbn6)
    | (refine (HCL.out _ _ (HNB5.out.apart HAP6.out (by have := HSZ.out; omega))).mono ?_; rintro e w7 ⟨rfl, hb7⟩; have HB7 := Lib.hid hb7; have HSB7 : Hid (SB w4.heap.size g4 (.int .u64 bY) (.int .u64 bZ) (.int .i64 j) w7) := SB.below HSB6.out hb7; obtain ⟨-, -, -, ⟨xa, g0⟩, ⟨xb, g1⟩, g2, g3⟩ := HSB7.out; clear hb7))
  rename_i hH
  clear hH g0 g1 g2 g3 x0 x1 x2 x3 x4 x5 x6
  have HG7 : Hid (w7.heap[g4]? = some (.cells #[.int .u64 0, .int .u64 0] 59 (0, 0))) := (HB7.out.block _ (by have := HSZ.out; have := HAP6.out.2; have := HBA.out.size; show g4 < w6.heap.size; have h9 : W5.drew.heap.size = W5.heap.size := rfl; omega)).trans ((HAP6.out.1 _ (Array.getElem?_eq_some_iff.1 H45.out).1 (by have := HSZ.out; omega)).trans H45.out)
  have HN7 : Hid (NodeAt w7 w.heap.size op k c2 c3 c4 c5) := (HN5.out.apart HAP6.out (by have := HSZ.out; omega)).below HB7.out
  have HS7 : Hid (Stk w7 n0 m x st) := HSA6.out.below HB7.out
  have HBN7 : Hid (Below n0 w w7) := by
    have hn0 : n0 ≤ w.heap.size := HS.out.base
    have h9 : W5.drew.heap.size = W5.heap.size := rfl
    have hs := HSZ.out
    have h1 : Below n0 w w3 := ((HB2.out.trans (HB3.out.mono HB2.out.size)).trans (HB4.out.mono (by omega))).mono hn0
    have h2 : Below n0 w W5 := (h1.trans HBN4.out).trans (HBA.out.mono (by omega))
    have h3 : Below n0 w w6 := (h2.trans (below_drewN (Below.refl _ _) 1)).trans HBN6'.out
    exact h3.trans (HB7.out.mono (by have := HAP6.out.2; have := HBA.out.size; omega))
  obtain ⟨W8, hW8⟩ : ∃ W8, W8 = (w7.setCell ⟨g4, 0, none⟩ (.int .u64 (y3 : Int))).setCell ⟨g4, 1, none⟩ (.int .u64 (z3 : Int)) := ⟨_, rfl⟩
  have hk8 : ∀ k, k ≠ g4 → W8.heap[k]? = w7.heap[k]? := fun k hk => by rw [hW8, setCell_heap hk, setCell_heap hk]
  have HS6 : Hid (Stk W8 n0 m x st) := HS7.out.kept HG7.out (by have := HSZ.out; omega) hk8
  have HN6 : Hid (NodeAt W8 w.heap.size op k c2 c3 c4 c5) := (hk8 _ (by have := HSZ.out; omega)).trans HN7.out
  have H46 : Hid (W8.heap[g4]? = some (.cells #[.int .u64 ((R / B : Nat) : Int), .int .u64 ((R % B : Nat) : Int)] 59 (0, 0))) := by
    show _ = _
    rw [hW8, ← HE3.out.1, ← HE3.out.2]
    exact set_lo _ (set_hi _ HG7.out)
  have HBN6 : Hid (Below n0 w W8) := by
    have hn0 : n0 ≤ w.heap.size := HS.out.base
    have := HSZ.out
    show Below _ _ _
    rw [hW8]
    exact (HBN7.out.setCell (by show n0 ≤ g4; omega) _).setCell (by show n0 ≤ g4; omega) _
  rw [← hW8]
  clear hW8 hk8
  go_wp2_with fail
  refine push_region n0 m w.heap.size g4 x st R op k c2 c3 c4 c5 W8 HS6 HN6 H46 HRL HLEN _ _ _ _ _ _ _ _ _ _ _ _ _ _ _ _ _ _ _ _ _ _ _ _ _ _ _ _ _ _ _ _ _ _ _ _ _ _ _ _ _ _ _ _ _ _ _ _ _ _ _ _ _ _ _ _ _ _ _ _ _ _ _ _ _ _ _ _ ?_
  intro u54 u55 u56 u57 u58 u59 u60 u61 u62 u63 u64 u65 u66 u67 u68 u69 w9 h9 hb9
  dsimp only
  go_wp2_with fail
  go_end0
  exact ⟨rfl, h9, HBN6.out.trans hb9⟩

theorem node_cat (n0 m : Nat) (x : Value × Value) (st : List (Nat × Int)) (a b : Nat) (i j : Int) (k c2 c3 c4 c5 : Int) (w : World) (hS : Stk w n0 m x (st ++ [(a, i)] ++ [(b, j)])) (hlen : st.length < 99990) (ha : a < B * B) (hb : b < B * B) :
    Calls Try.prog 40 #[.pointer (some ⟨m, 0, none⟩), nodeV 10 k c2 c3 c4 c5] w fun e w' => e = .returned (.tuple #[]) ∧ Stk w' n0 m x (st ++ [(((a * 2 ^ sh j % (B * B) % 2 ^ sh 128) ||| (b % 2 ^ sh j)) % 2 ^ sh k, k)]) ∧ Below n0 w w' :=
  node_two n0 m x st a b i j 10 k c2 c3 c4 c5 w hS hlen (fk := 64) (fun _ => #[]) (by decide) rfl (fun g => by simp [bothM, fnV, fn0]) (fun g => by simp [aloneM]) (fun _ _ => by kernel_rfl) (cat_lt a b j hb) (fun W g hg => clos_cat a b i j W ha hb)
theorem node_add (n0 m : Nat) (x : Value × Value) (st : List (Nat × Int)) (a b : Nat) (i j : Int) (k c2 c3 c4 c5 : Int) (w : World) (hS : Stk w n0 m x (st ++ [(a, i)] ++ [(b, j)])) (hlen : st.length < 99990) (ha : a < B * B) (hb : b < B * B) :
    Calls Try.prog 40 #[.pointer (some ⟨m, 0, none⟩), nodeV 11 k c2 c3 c4 c5] w fun e w' => e = .returned (.tuple #[]) ∧ Stk w' n0 m x (st ++ [(((a + b) % (B * B) % 2 ^ sh k) % 2 ^ sh k, k)]) ∧ Below n0 w w' :=
  node_two n0 m x st a b i j 11 k c2 c3 c4 c5 w hS hlen (fk := 66) (fun g => #[.pointer (some ⟨g, 0, none⟩)]) (by decide) rfl (fun g => by simp [bothM, fnV, fn0]) (fun g => by simp [aloneM]) (fun _ _ => by kernel_rfl) (Nat.lt_of_le_of_lt (Nat.mod_le _ _) (Nat.mod_lt _ (by unfold B; omega))) (fun W g hg => clos_add g 11 k c2 c3 c4 c5 a b i j W ha hb hg)
theorem node_sub (n0 m : Nat) (x : Value × Value) (st : List (Nat × Int)) (a b : Nat) (i j : Int) (k c2 c3 c4 c5 : Int) (w : World) (hS : Stk w n0 m x (st ++ [(a, i)] ++ [(b, j)])) (hlen : st.length < 99990) (ha : a < B * B) (hb : b < B * B) :
    Calls Try.prog 40 #[.pointer (some ⟨m, 0, none⟩), nodeV 12 k c2 c3 c4 c5] w fun e w' => e = .returned (.tuple #[]) ∧ Stk w' n0 m x (st ++ [(((a + (B * B - b)) % (B * B) % 2 ^ sh k) % 2 ^ sh k, k)]) ∧ Below n0 w w' :=
  node_two n0 m x st a b i j 12 k c2 c3 c4 c5 w hS hlen (fk := 68) (fun g => #[.pointer (some ⟨g, 0, none⟩)]) (by decide) rfl (fun g => by simp [bothM, fnV, fn0]) (fun g => by simp [aloneM]) (fun _ _ => by kernel_rfl) (Nat.lt_of_le_of_lt (Nat.mod_le _ _) (Nat.mod_lt _ (by unfold B; omega))) (fun W g hg => clos_sub g 12 k c2 c3 c4 c5 a b i j W ha hb hg)
theorem node_and (n0 m : Nat) (x : Value × Value) (st : List (Nat × Int)) (a b : Nat) (i j : Int) (k c2 c3 c4 c5 : Int) (w : World) (hS : Stk w n0 m x (st ++ [(a, i)] ++ [(b, j)])) (hlen : st.length < 99990) (ha : a < B * B) (hb : b < B * B) :
    Calls Try.prog 40 #[.pointer (some ⟨m, 0, none⟩), nodeV 15 k c2 c3 c4 c5] w fun e w' => e = .returned (.tuple #[]) ∧ Stk w' n0 m x (st ++ [((a &&& b) % 2 ^ sh k, k)]) ∧ Below n0 w w' :=
  node_two n0 m x st a b i j 15 k c2 c3 c4 c5 w hS hlen (fk := 69) (fun _ => #[]) (by decide) rfl (fun g => by simp [bothM, fnV, fn0]) (fun g => by simp [aloneM]) (fun _ _ => by kernel_rfl) (Nat.lt_of_le_of_lt Nat.and_le_left ha) (fun W g hg => clos_and a b i j W ha hb)
theorem node_xor (n0 m : Nat) (x : Value × Value) (st : List (Nat × Int)) (a b : Nat) (i j : Int) (k c2 c3 c4 c5 : Int) (w : World) (hS : Stk w n0 m x (st ++ [(a, i)] ++ [(b, j)])) (hlen : st.length < 99990) (ha : a < B * B) (hb : b < B * B) :
    Calls Try.prog 40 #[.pointer (some ⟨m, 0, none⟩), nodeV 16 k c2 c3 c4 c5] w fun e w' => e = .returned (.tuple #[]) ∧ Stk w' n0 m x (st ++ [((a ^^^ b) % 2 ^ sh k, k)]) ∧ Below n0 w w' :=
  node_two n0 m x st a b i j 16 k c2 c3 c4 c5 w hS hlen (fk := 70) (fun _ => #[]) (by decide) rfl (fun g => by simp [bothM, fnV, fn0]) (fun g => by simp [aloneM]) (fun _ _ => by kernel_rfl) (xor_lt ha hb) (fun W g hg => clos_xor a b i j W ha hb)
theorem node_or (n0 m : Nat) (x : Value × Value) (st : List (Nat × Int)) (a b : Nat) (i j : Int) (k c2 c3 c4 c5 : Int) (w : World) (hS : Stk w n0 m x (st ++ [(a, i)] ++ [(b, j)])) (hlen : st.length < 99990) (ha : a < B * B) (hb : b < B * B) :
    Calls Try.prog 40 #[.pointer (some ⟨m, 0, none⟩), nodeV 17 k c2 c3 c4 c5] w fun e w' => e = .returned (.tuple #[]) ∧ Stk w' n0 m x (st ++ [((a ||| b) % 2 ^ sh k, k)]) ∧ Below n0 w w' :=
  node_two n0 m x st a b i j 17 k c2 c3 c4 c5 w hS hlen (fk := 72) (fun _ => #[]) (by decide) rfl (fun g => by simp [bothM, fnV, fn0]) (fun g => by simp [aloneM]) (fun _ _ => by kernel_rfl) (or_lt ha hb) (fun W g hg => clos_or a b i j W ha hb)
theorem node_eq (n0 m : Nat) (x : Value × Value) (st : List (Nat × Int)) (a b : Nat) (i j : Int) (k c2 c3 c4 c5 : Int) (w : World) (hS : Stk w n0 m x (st ++ [(a, i)] ++ [(b, j)])) (hlen : st.length < 99990) (ha : a < B * B) (hb : b < B * B) :
    Calls Try.prog 40 #[.pointer (some ⟨m, 0, none⟩), nodeV 18 k c2 c3 c4 c5] w fun e w' => e = .returned (.tuple #[]) ∧ Stk w' n0 m x (st ++ [((oneN (decide (a = b))) % 2 ^ sh k, k)]) ∧ Below n0 w w' :=
  node_two n0 m x st a b i j 18 k c2 c3 c4 c5 w hS hlen (fk := 74) (fun _ => #[]) (by decide) rfl (fun g => by simp [bothM, fnV, fn0]) (fun g => by simp [aloneM]) (fun _ _ => by kernel_rfl) (one_lt _) (fun W g hg => clos_eq a b i j W ha hb)
theorem node_lt (n0 m : Nat) (x : Value × Value) (st : List (Nat × Int)) (a b : Nat) (i j : Int) (k c2 c3 c4 c5 : Int) (w : World) (hS : Stk w n0 m x (st ++ [(a, i)] ++ [(b, j)])) (hlen : st.length < 99990) (ha : a < B * B) (hb : b < B * B) :
    Calls Try.prog 40 #[.pointer (some ⟨m, 0, none⟩), nodeV 19 k c2 c3 c4 c5] w fun e w' => e = .returned (.tuple #[]) ∧ Stk w' n0 m x (st ++ [((oneN (decide (a < b))) % 2 ^ sh k, k)]) ∧ Below n0 w w' :=
  node_two n0 m x st a b i j 19 k c2 c3 c4 c5 w hS hlen (fk := 75) (fun _ => #[]) (by decide) rfl (fun g => by simp [bothM, fnV, fn0]) (fun g => by simp [aloneM]) (fun _ _ => by kernel_rfl) (one_lt _) (fun W g hg => clos_lt a b i j W ha hb)
theorem node_le (n0 m : Nat) (x : Value × Value) (st : List (Nat × Int)) (a b : Nat) (i j : Int) (k c2 c3 c4 c5 : Int) (w : World) (hS : Stk w n0 m x (st ++ [(a, i)] ++ [(b, j)])) (hlen : st.length < 99990) (ha : a < B * B) (hb : b < B * B) :
    Calls Try.prog 40 #[.pointer (some ⟨m, 0, none⟩), nodeV 20 k c2 c3 c4 c5] w fun e w' => e = .returned (.tuple #[]) ∧ Stk w' n0 m x (st ++ [((oneN (decide (a ≤ b))) % 2 ^ sh k, k)]) ∧ Below n0 w w' :=
  node_two n0 m x st a b i j 20 k c2 c3 c4 c5 w hS hlen (fk := 77) (fun _ => #[]) (by decide) rfl (fun g => by simp [bothM, fnV, fn0]) (fun g => by simp [aloneM]) (fun _ _ => by kernel_rfl) (one_lt _) (fun W g hg => clos_le a b i j W ha hb)

end Go.Proofs.Ytehcclcokgmplaa
