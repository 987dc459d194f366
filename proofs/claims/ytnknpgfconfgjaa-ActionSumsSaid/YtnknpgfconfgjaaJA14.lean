/-
  Lemmas, joined: Known21B, Law21A, Law21B, Ops8.
-/
import Derived.Test.YtnknpgfconfgjaaJA13
/-
  The page's examples of layer 21 hold.
-/
namespace Go.Proofs.Ytnknpgfconfgjaa
open Go.RowKit Go.Maps

theorem neq_same (a b : Int) (W : World) : (Go.binOp .neq 24 (.agg #[.int .u64 a, .int .u64 b]) (.agg #[.int .u64 a, .int .u64 b])).run Try.prog W = .ok (.bool false) W := by simp [go_sem]
theorem eq_same (a b : Int) (W : World) : (Go.binOp .eql 24 (.agg #[.int .u64 a, .int .u64 b]) (.agg #[.int .u64 a, .int .u64 b])).run Try.prog W = .ok (.bool true) W := by simp [go_sem]

theorem kR_quiet {gx g2 kc a b r : Nat} {w0 : World} (i : Nat) (v : Value) (L : Array Bool) (l : List Value) (w w' : World) (hn : did L i = false) (_h1 : i < L.size) (_h2 : i < l.length) (hb : Below w.heap.size w w') (hg : (kR gx g2 kc a b r w0).G L l w) (hne : i ≠ 10) : (kR gx g2 kc a b r w0).G (L.setIfInBounds i true) (l.set i v) w' :=
  ⟨hg.1.trans (hb.mono hg.1.size), hg.2.quiet hn hne hb⟩

theorem kcell (n : Nat) (hn : n < B) (W : World) : Calls Try.prog 30 #[.int .u64 (n : Int)] W fun e w' => e = .returned (.agg #[.int .u8 1, .int .i64 4, .int .i64 0, .int .i64 0, .int .u64 0, .int .u64 (n : Int)]) ∧ Below W.heap.size W w' := by
  have h := kc_any n W hn
  unfold Nd.val nodeV at h
  dsimp only at h
  rwa [Nat.div_eq_of_lt hn, Nat.mod_eq_of_lt hn] at h
theorem kvalue1 (gx : Nat) (W : World) (gc : Nat) (h : W.heap[gc]? = some (.cells #[.int .u8 1, .int .i64 4, .int .i64 0, .int .i64 0, .int .u64 0, .int .u64 5, .int .u8 1, .int .i64 4, .int .i64 0, .int .i64 0, .int .u64 0, .int .u64 3, .int .u8 12, .int .i64 4, .int .i64 0, .int .i64 0, .int .u64 0, .int .u64 0] 33 (0, 0))) : Calls Try.prog 9 #[prog0, .pointer (some ⟨gx, 0, none⟩), .slice (some ⟨gc, 0, none⟩) 3 3, .slice none 0 0] W fun e w' => e = .returned (.agg #[.int .u64 0, .int .u64 2]) ∧ Below W.heap.size W w' :=
  value_of run_k1 gx gc 3 W 33 h
theorem kvalue2 (gx : Nat) (W : World) (gc : Nat) (h : W.heap[gc]? = some (.cells #[.int .u8 1, .int .i64 4, .int .i64 0, .int .i64 0, .int .u64 0, .int .u64 3, .int .u8 1, .int .i64 4, .int .i64 0, .int .i64 0, .int .u64 0, .int .u64 5, .int .u8 12, .int .i64 4, .int .i64 0, .int .i64 0, .int .u64 0, .int .u64 0] 33 (0, 0))) : Calls Try.prog 9 #[prog0, .pointer (some ⟨gx, 0, none⟩), .slice (some ⟨gc, 0, none⟩) 3 3, .slice none 0 0] W fun e w' => e = .returned (.agg #[.int .u64 0, .int .u64 14]) ∧ Below W.heap.size W w' :=
  value_of run_k2 gx gc 3 W 33 h

set_option maxRecDepth 100000 in
set_option maxHeartbeats 8000000 in
theorem known21_true (w : World) : Calls Try.prog 12 #[] w fun e w' => e = .returned (.bool true) ∧ Below w.heap.size w w' := by
  have HK5 : Hid (∀ W, Calls Try.prog 30 #[.int .u64 5] W fun e w' => e = .returned (.agg #[.int .u8 1, .int .i64 4, .int .i64 0, .int .i64 0, .int .u64 0, .int .u64 5]) ∧ Below W.heap.size W w') := fun W => kcell 5 (by unfold B; omega) W
  have HK3 : Hid (∀ W, Calls Try.prog 30 #[.int .u64 3] W fun e w' => e = .returned (.agg #[.int .u8 1, .int .i64 4, .int .i64 0, .int .i64 0, .int .u64 0, .int .u64 3]) ∧ Below W.heap.size W w') := fun W => kcell 3 (by unfold B; omega) W
  have HO2 : Hid (∀ W, Calls Try.prog 29 #[.int .u64 2] W fun e w' => e = .returned (.agg #[.int .u64 0, .int .u64 2]) ∧ Below W.heap.size W w') := fun W => refOf_any 2 (by unfold B; omega) W
  have HO14 : Hid (∀ W, Calls Try.prog 29 #[.int .u64 14] W fun e w' => e = .returned (.agg #[.int .u64 0, .int .u64 14]) ∧ Below W.heap.size W w') := fun W => refOf_any 14 (by unfold B; omega) W
  have heq := eq_same
  have HEQ := Lib.hid heq
  clear heq
  go_enter Try.func12, Try.ntmps12
  go_wp2_with fail
  obtain ⟨W0, hW0⟩ : ∃ W0, W0 = (w.alloc (.cells #[.int .u8 12, .int .i64 4, .int .i64 0, .int .i64 0, .int .u64 0, .int .u64 0] 33)).alloc (.cells #[.int .i64 0, .slice none 0 0, .slice none 0 0, .slice none 0 0, .slice none 0 0, .bool false, .bool false, .int .i64 0, .bool false] 31) := ⟨_, rfl⟩
  have HB0 : Hid (Below w.heap.size w W0) := by show Below _ _ _; rw [hW0]; exact (by repeat (first | exact Below.refl _ _ | assumption | refine Below.drew ?_ | refine Below.alloc ?_ (by first | omega | (simp <;> omega)) _ | refine Below.setCell ?_ (by first | omega | (simp <;> omega)) _ | refine Below.trans ?_ (Below.mono (by assumption) (by first | omega | (simp <;> omega)))))
  have h2 : W0.heap[w.heap.size]? = some (.cells #[.int .u8 12, .int .i64 4, .int .i64 0, .int .i64 0, .int .u64 0, .int .u64 0] 33 (0, 0)) := by rw [hW0]; exact heap_new2 w _ _
  have hz0 : W0.heap.size = w.heap.size + 1 + 1 := by rw [hW0]; simp
  have HC : Hid (∀ W, Below W0.heap.size W0 W → W.cell? ⟨w.heap.size, 0, none⟩ = some (.int .u8 12) ∧ W.cell? ⟨w.heap.size, 1, none⟩ = some (.int .i64 4) ∧ W.cell? ⟨w.heap.size, 2, none⟩ = some (.int .i64 0) ∧ W.cell? ⟨w.heap.size, 3, none⟩ = some (.int .i64 0) ∧ W.cell? ⟨w.heap.size, 4, none⟩ = some (.int .u64 0) ∧ W.cell? ⟨w.heap.size, 5, none⟩ = some (.int .u64 0)) := fun W hb => by
    have h := (hb.block _ (by omega)).trans h2
    refine ⟨?_, ?_, ?_, ?_, ?_, ?_⟩ <;> simp [World.cell?, h]
  rw [← hW0]
  clear hW0 h2
  refine kreg4 (w.heap.size + 1) w.heap.size W0 kR_fine (fun l => ⟨below_drewN (Below.refl _ _) 1, LaidTwo.start⟩) (Nat.le_refl _) HK5 HK3 HC (kvalue1 _) kR_quiet _ _ _ _ _ _ _ _ _ _ _ _ _ _ _ _ _ _ _ _ _ _ _ _ _ _ _ _ _ _ _ _ _ ?_
  intro u0 u1 u2 u3 u4 u5 u6 u7 u8 u9 L w1 hall hI
  obtain ⟨hb1, hL1⟩ := hI.glob
  obtain ⟨-, g4, e9, hg4, h4⟩ := hL1 (hall 10 (by omega))
  have e9 : u9 = .pointer (some ⟨g4, 0, none⟩) := e9
  subst e9
  have HB1 : Hid (Below W0.heap.size W0 w1) := hb1
  have H4 : Hid (w1.heap[g4]? = some (.cells #[.int .u64 0, .int .u64 2] 24 (0, 0))) := h4
  have hz1 : W0.heap.size ≤ w1.heap.size := hb1.size
  have hl4 : g4 < w1.heap.size := lt_of_block h4
  clear hI hL1 hb1 h4 hall
  dsimp only
  go_wp2_with fail
  have HC1 : Hid (∀ W, Below w1.heap.size w1 W → W.cell? ⟨w.heap.size, 0, none⟩ = some (.int .u8 12) ∧ W.cell? ⟨w.heap.size, 1, none⟩ = some (.int .i64 4) ∧ W.cell? ⟨w.heap.size, 2, none⟩ = some (.int .i64 0) ∧ W.cell? ⟨w.heap.size, 3, none⟩ = some (.int .i64 0) ∧ W.cell? ⟨w.heap.size, 4, none⟩ = some (.int .u64 0) ∧ W.cell? ⟨w.heap.size, 5, none⟩ = some (.int .u64 0)) := fun W hb => HC.out W (HB1.out.trans (hb.mono hz1))
  refine kreg5 (w.heap.size + 1) w.heap.size w1 kR_fine (fun l => ⟨below_drewN (Below.refl _ _) 1, LaidTwo.start⟩) (Nat.le_refl _) HK3 HK5 HC1 (kvalue2 _) kR_quiet _ _ _ _ _ _ _ _ _ _ _ _ _ _ _ _ _ _ _ _ _ _ _ _ _ _ _ _ _ _ _ _ _ ?_
  intro v0 v1 v2 v3 v4 v5 v6 v7 v8 v9 L2 w2 hall hI
  obtain ⟨hb1, hL1⟩ := hI.glob
  obtain ⟨-, g5, e9, hg5, h5⟩ := hL1 (hall 10 (by omega))
  have e9 : v9 = .pointer (some ⟨g5, 0, none⟩) := e9
  subst e9
  have HB2 : Hid (Below w1.heap.size w1 w2) := hb1
  have h4 : w2.heap[g4]? = some (.cells #[.int .u64 0, .int .u64 2] 24 (0, 0)) := (HB2.out.block _ hl4).trans H4.out
  have HBW : Hid (Below w.heap.size w w2) := (HB0.out.trans (HB1.out.mono (by omega))).trans (HB2.out.mono (by omega))
  have h5 : w2.heap[g5]? = some (.cells #[.int .u64 0, .int .u64 14] 24 (0, 0)) := h5
  have c0 : w2.cell? ⟨g4, 0, none⟩ = some (.int .u64 0) := by simp [World.cell?, h4]
  have c1 : w2.cell? ⟨g4, 1, none⟩ = some (.int .u64 2) := by simp [World.cell?, h4]
  have c2 : w2.cell? ⟨g5, 0, none⟩ = some (.int .u64 0) := by simp [World.cell?, h5]
  have c3 : w2.cell? ⟨g5, 1, none⟩ = some (.int .u64 14) := by simp [World.cell?, h5]
  have HS0 : Hid ((fun Wk => Below (w.heap.size) (w) Wk ∧ Wk.cell? ⟨g4, 0, none⟩ = some (.int .u64 0) ∧ Wk.cell? ⟨g4, 1, none⟩ = some (.int .u64 2) ∧ Wk.cell? ⟨g5, 0, none⟩ = some (.int .u64 0) ∧ Wk.cell? ⟨g5, 1, none⟩ = some (.int .u64 14)) w2.drew) := ⟨below_drewN HBW.out 1, c0, c1, c2, c3⟩
  clear hI hL1 hb1 h4 h5 hall
  dsimp only
  go_wp2_with fail
  have heq := HEQ.out
  go_region_held3 (fun Wk => Below (w.heap.size) (w) Wk ∧ Wk.cell? ⟨g4, 0, none⟩ = some (.int .u64 0) ∧ Wk.cell? ⟨g4, 1, none⟩ = some (.int .u64 2) ∧ Wk.cell? ⟨g5, 0, none⟩ = some (.int .u64 0) ∧ Wk.cell? ⟨g5, 1, none⟩ = some (.int .u64 14))
    (first | exact HS0.out | exact held_4_0 hb1 (by assumption) | assumption)
    (first
    | (go_at_call 29; (with_reducible refine (HO2.out _).mono ?_); rintro e w3 ⟨rfl, hb1⟩)
    | (go_at_call 29; (with_reducible refine (HO14.out _).mono ?_); rintro e w4 ⟨rfl, hb1⟩))
  rename_i hS
  have HBF := Lib.hid hS.1
  clear hS
  go_wp2_with fail
  go_ret
  exact ⟨rfl, HBF.out⟩

end Go.Proofs.Ytnknpgfconfgjaa

/-
  The law ActionSums of layer 21: the region that makes m and n.
-/
namespace Go.Proofs.Ytnknpgfconfgjaa
open Go.RowKit Go.Maps

def box6 (ay az bY bZ my mz ny nz : Nat) (W : Int) : Boxes :=
  ⟨[some (.agg #[.int .u64 (ay : Int), .int .u64 (az : Int)]), some (.int .i64 (W : Int)), some (.agg #[.int .u64 (my : Int), .int .u64 (mz : Int)]), some (.agg #[.int .u64 (bY : Int), .int .u64 (bZ : Int)]), some (.int .i64 (W : Int)), some (.agg #[.int .u64 (ny : Int), .int .u64 (nz : Int)]), none, none, none, none], [(6, 8, #[.int .u64 0, .int .u64 0], #[.int .u64 (my : Int), .int .u64 (mz : Int)], 24), (7, 9, #[.int .u64 0, .int .u64 0], #[.int .u64 (ny : Int), .int .u64 (nz : Int)], 24)]⟩

set_option maxRecDepth 100000 in
set_option maxHeartbeats 6000000 in
theorem sreg6 (gA gB gW ay az bY bZ my mz ny nz : Nat) (W : Int)
    (HP : Hid (∀ W', Calls Try.prog 7 #[.agg #[.int .u64 (ay : Int), .int .u64 (az : Int)], .int .i64 (W : Int)] W' fun e w' => e = .returned (.agg #[.int .u64 (my : Int), .int .u64 (mz : Int)]) ∧ Below W'.heap.size W' w'))
    (HK : Hid (∀ W', Calls Try.prog 7 #[.agg #[.int .u64 (bY : Int), .int .u64 (bZ : Int)], .int .i64 (W : Int)] W' fun e w' => e = .returned (.agg #[.int .u64 (ny : Int), .int .u64 (nz : Int)]) ∧ Below W'.heap.size W' w'))
    (WB : World) (HC : Hid (∀ W', Below WB.heap.size WB W' → W'.cell? ⟨gA, 0, none⟩ = some (.int .u64 (ay : Int)) ∧ W'.cell? ⟨gA, 1, none⟩ = some (.int .u64 (az : Int)) ∧ W'.cell? ⟨gB, 0, none⟩ = some (.int .u64 (bY : Int)) ∧ W'.cell? ⟨gB, 1, none⟩ = some (.int .u64 (bZ : Int)) ∧ W'.cell? ⟨gW, 0, none⟩ = some (.int .i64 (W : Int))))
    (c0 c1 c2 c3 c7 c8 c9 c10 c11 c12 c13 c14 c15 c16 c17 c18 c19 c20 c21 c22 c23 c24 c25 c26 c27 c28 c29 c30 c31 c32 c33 c34 c35 c36 c37 c38 c39 c40 c41 c42 c43 c44 c45 c46 c47 c48 c49 c50 c51 c52 c53 c54 c55 c56 c57 c58 c59 c60 c61 c62 c63 c64 c65 c66 c67 c68 c69 c70 c71 c72 c73 c74 c75 c76 c77 c78 c79 c80 c81 c82 c83 c84 c85 c86 c87 c88 c89 c90 c91 c92 c93 c94 c95 c96 c97 c98 c99 c100 c101 c102 c103 c104 c105 c106 c107 c108 c109 c110 c111 c112 c113 c114 c115 c116 c117 c118 c119 c120 c121 c122 c123 c124 c125 c126 c127 c128 c129 c130 c131 c132 c133 c134 c135 c136 c137 c138 c139 c140 c141 c142 c143 c144 c145 c146 c147 c148 c149 c150 c151 c152 c153 c154 c155 c156 c157 c158 c159 c160 : Value) (Q : Exit → Act → World → Prop)
    (hexit : ∀ (g0 g1 : Nat) (u0 u1 u2 u3 u4 u5 : Value) (w' : World), Below WB.heap.size WB w' → WB.heap.size ≤ g0 → w'.heap[g0]? = some (.cells #[.int .u64 (my : Int), .int .u64 (mz : Int)] 24 (0, 0)) → WB.heap.size ≤ g1 → w'.heap[g1]? = some (.cells #[.int .u64 (ny : Int), .int .u64 (nz : Int)] 24 (0, 0)) → Q .normal ⟨#[c0, c1, c2, c3, .pointer (some ⟨gA, 0, none⟩), .pointer (some ⟨gB, 0, none⟩), .pointer (some ⟨gW, 0, none⟩), c7, c8, c9, c10, c11, .pointer (some ⟨g0, 0, none⟩), .pointer (some ⟨g1, 0, none⟩), c14, c15, c16, c17, c18, c19, c20, c21, c22, c23, c24, c25, c26, c27, c28, c29, c30, c31, u0, u1, u2, u3, u4, u5, c38, c39, c40, c41, c42, c43, c44, c45, c46, c47, c48, c49, c50, c51, c52, c53, c54, c55, c56, c57, c58, c59, c60, c61, c62, c63, c64, c65, c66, c67, c68, c69, c70, c71, c72, c73, c74, c75, c76, c77, c78, c79, c80, c81, c82, c83, c84, c85, c86, c87, c88, c89, c90, c91, c92, c93, c94, c95, c96, c97, c98, c99, c100, c101, c102, c103, c104, c105, c106, c107, c108, c109, c110, c111, c112, c113, c114, c115, c116, c117, c118, c119, c120, c121, c122, c123, c124, c125, c126, c127, c128, c129, c130, c131, c132, c133, c134, c135, c136, c137, c138, c139, c140, c141, c142, c143, c144, c145, c146, c147, c148, c149, c150, c151, c152, c153, c154, c155, c156, c157, c158, c159, c160], []⟩ w') :
    Code.wp Try.prog ((Try.f3.body.bind (findRegion 6)).getD .skip) Q ⟨#[c0, c1, c2, c3, .pointer (some ⟨gA, 0, none⟩), .pointer (some ⟨gB, 0, none⟩), .pointer (some ⟨gW, 0, none⟩), c7, c8, c9, c10, c11, c12, c13, c14, c15, c16, c17, c18, c19, c20, c21, c22, c23, c24, c25, c26, c27, c28, c29, c30, c31, c32, c33, c34, c35, c36, c37, c38, c39, c40, c41, c42, c43, c44, c45, c46, c47, c48, c49, c50, c51, c52, c53, c54, c55, c56, c57, c58, c59, c60, c61, c62, c63, c64, c65, c66, c67, c68, c69, c70, c71, c72, c73, c74, c75, c76, c77, c78, c79, c80, c81, c82, c83, c84, c85, c86, c87, c88, c89, c90, c91, c92, c93, c94, c95, c96, c97, c98, c99, c100, c101, c102, c103, c104, c105, c106, c107, c108, c109, c110, c111, c112, c113, c114, c115, c116, c117, c118, c119, c120, c121, c122, c123, c124, c125, c126, c127, c128, c129, c130, c131, c132, c133, c134, c135, c136, c137, c138, c139, c140, c141, c142, c143, c144, c145, c146, c147, c148, c149, c150, c151, c152, c153, c154, c155, c156, c157, c158, c159, c160], []⟩ WB := by
  dsimp only at hexit ⊢
  conv => arg 2; whnf
  have HEX := Lib.hid hexit
  clear hexit
  refine wp_region_inv (by kernel_rfl) (fun L a' w' => ∃ u0 u1 u2 u3 u4 u5 u6 u7 : Value, a' = ⟨#[c0, c1, c2, c3, .pointer (some ⟨gA, 0, none⟩), .pointer (some ⟨gB, 0, none⟩), .pointer (some ⟨gW, 0, none⟩), c7, c8, c9, c10, c11, u6, u7, c14, c15, c16, c17, c18, c19, c20, c21, c22, c23, c24, c25, c26, c27, c28, c29, c30, c31, u0, u1, u2, u3, u4, u5, c38, c39, c40, c41, c42, c43, c44, c45, c46, c47, c48, c49, c50, c51, c52, c53, c54, c55, c56, c57, c58, c59, c60, c61, c62, c63, c64, c65, c66, c67, c68, c69, c70, c71, c72, c73, c74, c75, c76, c77, c78, c79, c80, c81, c82, c83, c84, c85, c86, c87, c88, c89, c90, c91, c92, c93, c94, c95, c96, c97, c98, c99, c100, c101, c102, c103, c104, c105, c106, c107, c108, c109, c110, c111, c112, c113, c114, c115, c116, c117, c118, c119, c120, c121, c122, c123, c124, c125, c126, c127, c128, c129, c130, c131, c132, c133, c134, c135, c136, c137, c138, c139, c140, c141, c142, c143, c144, c145, c146, c147, c148, c149, c150, c151, c152, c153, c154, c155, c156, c157, c158, c159, c160], []⟩ ∧ L.size = 10 ∧ RB (box6 ay az bY bZ my mz ny nz W) WB L [u0, u1, u2, u3, u4, u5, u6, u7, undef, undef] w') ?_ ?_ ?_ ?_
  · exact ⟨_, _, _, _, _, _, _, _, rfl, by simp, RB.init (fun i => did_none _ _) (below_drewN (Below.refl _ _) 1)⟩
  · rintro L a' w' i hL hi hnd hdep ⟨u0, u1, u2, u3, u4, u5, u6, u7, rfl, hLn, hI⟩
    dsimp only
    have hsz : ∀ i, (L.setIfInBounds i true).size = 10 := fun i => by simpa using hLn
    have hL10 : L.size = 10 := hL
    have HI := Lib.hid hI
    obtain ⟨y0, y1, y2, y3, y4⟩ := HC.out _ HI.out.below
    clear hI
    match i, hi with
    | 0, _ =>
      have HN := Lib.hid hnd
      clear hdep hnd
      refine wpOp_step rfl (fun K' hK => ?_)
      go_simp
      exact hK _ _ ⟨_, _, _, _, _, _, _, _, rfl, hsz _, HI.out.step 0 _ (by omega) (by show 0 < 10; omega) rfl rfl (Below.refl _ _)⟩
    | 1, _ =>
      have HN := Lib.hid hnd
      clear hdep hnd
      refine wpOp_step rfl (fun K' hK => ?_)
      go_simp
      exact hK _ _ ⟨_, _, _, _, _, _, _, _, rfl, hsz _, HI.out.step 1 _ (by omega) (by show 1 < 10; omega) rfl rfl (Below.refl _ _)⟩
    | 2, _ =>
      have HN := Lib.hid hnd
      have q0 := (HI.out.got 0 (hdep _ rfl ⟨0, .data⟩ (by simp) (by kernel_rfl)) rfl).symm
      subst q0
      have q1 := (HI.out.got 1 (hdep _ rfl ⟨1, .data⟩ (by simp) (by kernel_rfl)) rfl).symm
      subst q1
      clear hdep hnd
      refine wpOp_step rfl (fun K' hK => ?_)
      go_simp
      refine (HP.out _).mono ?_
      rintro e w1 ⟨rfl, hb1⟩
      exact hK _ _ ⟨_, _, _, _, _, _, _, _, rfl, hsz _, HI.out.step 2 _ (by omega) (by show 2 < 10; omega) rfl rfl hb1⟩
    | 3, _ =>
      have HN := Lib.hid hnd
      clear hdep hnd
      refine wpOp_step rfl (fun K' hK => ?_)
      go_simp
      exact hK _ _ ⟨_, _, _, _, _, _, _, _, rfl, hsz _, HI.out.step 3 _ (by omega) (by show 3 < 10; omega) rfl rfl (Below.refl _ _)⟩
    | 4, _ =>
      have HN := Lib.hid hnd
      clear hdep hnd
      refine wpOp_step rfl (fun K' hK => ?_)
      go_simp
      exact hK _ _ ⟨_, _, _, _, _, _, _, _, rfl, hsz _, HI.out.step 4 _ (by omega) (by show 4 < 10; omega) rfl rfl (Below.refl _ _)⟩
    | 5, _ =>
      have HN := Lib.hid hnd
      have q3 := (HI.out.got 3 (hdep _ rfl ⟨3, .data⟩ (by simp) (by kernel_rfl)) rfl).symm
      subst q3
      have q4 := (HI.out.got 4 (hdep _ rfl ⟨4, .data⟩ (by simp) (by kernel_rfl)) rfl).symm
      subst q4
      clear hdep hnd
      refine wpOp_step rfl (fun K' hK => ?_)
      go_simp
      refine (HK.out _).mono ?_
      rintro e w1 ⟨rfl, hb1⟩
      exact hK _ _ ⟨_, _, _, _, _, _, _, _, rfl, hsz _, HI.out.step 5 _ (by omega) (by show 5 < 10; omega) rfl rfl hb1⟩
    | 6, _ =>
      have HN := Lib.hid hnd
      clear hdep hnd
      refine wpOp_step rfl (fun K' hK => ?_)
      go_simp
      exact hK _ _ ⟨_, _, _, _, _, _, _, _, rfl, hsz _, HI.out.alloc 6 8 _ #[.int .u64 (my : Int), .int .u64 (mz : Int)] _ (by omega) (by show 6 < 10; omega) rfl (by simp [box6]) (by intro p hp he; simp only [box6, List.mem_cons, List.not_mem_nil, or_false] at hp; rcases hp with rfl | rfl <;> first | rfl | simp at he) rfl HN.out⟩
    | 7, _ =>
      have HN := Lib.hid hnd
      clear hdep hnd
      refine wpOp_step rfl (fun K' hK => ?_)
      go_simp
      exact hK _ _ ⟨_, _, _, _, _, _, _, _, rfl, hsz _, HI.out.alloc 7 9 _ #[.int .u64 (ny : Int), .int .u64 (nz : Int)] _ (by omega) (by show 7 < 10; omega) rfl (by simp [box6]) (by intro p hp he; simp only [box6, List.mem_cons, List.not_mem_nil, or_false] at hp; rcases hp with rfl | rfl <;> first | rfl | simp at he) rfl HN.out⟩
    | 8, _ =>
      have HN := Lib.hid hnd
      have q2 := (HI.out.got 2 (hdep _ rfl ⟨2, .data⟩ (by simp) (by kernel_rfl)) rfl).symm
      subst q2
      obtain ⟨gA, e1, e2, e3, hput⟩ := RB.at (i := 8) HI.out (show (6, 8, #[.int .u64 0, .int .u64 0], #[.int .u64 (my : Int), .int .u64 (mz : Int)], 24) ∈ ((box6 ay az bY bZ my mz ny nz W)).al by simp [box6]) (hdep _ rfl ⟨6, .data⟩ (by simp) (by kernel_rfl)) HN.out
      replace e1 := Eq.symm e1
      subst e1
      have HP := Lib.hid hput
      have HB := Lib.hid HI.out.below
      have HE3 := Lib.hid e3
      have HE2 := Lib.hid e2
      have z0 : ∃ x, w'.cell? ⟨gA, 0, none⟩ = some x := ⟨_, by simp [World.cell?, e3]; rfl⟩
      have y0 : w'.frozen? ⟨gA, 0, none⟩ = false := by simp [World.frozen?, e3]
      have z1 : ∃ x, w'.cell? ⟨gA, 1, none⟩ = some x := ⟨_, by simp [World.cell?, e3]; rfl⟩
      have y1 : w'.frozen? ⟨gA, 1, none⟩ = false := by simp [World.frozen?, e3]
      obtain ⟨x0, z0⟩ := z0
      obtain ⟨x1, z1⟩ := z1
      clear hput hdep hnd e3
      refine wpOp_step rfl (fun K' hK => ?_)
      go_simp
      refine hK _ _ ⟨_, _, _, _, _, _, _, _, rfl, hsz _, HP.out _ ?_ (by omega) rfl ?_ ?_ ?_⟩
      · exact ((HB.out.setCell HE2.out _).setCell HE2.out _)
      · intro p hp; simp only [box6, List.mem_cons, List.not_mem_nil, or_false] at hp; rcases hp with rfl | rfl <;> simp
      · intro k hk; rw [setCell_heap hk, setCell_heap hk]
      · exact set_lo _ (set_hi _ HE3.out)
    | 9, _ =>
      have HN := Lib.hid hnd
      have q5 := (HI.out.got 5 (hdep _ rfl ⟨5, .data⟩ (by simp) (by kernel_rfl)) rfl).symm
      subst q5
      obtain ⟨gA, e1, e2, e3, hput⟩ := RB.at (i := 9) HI.out (show (7, 9, #[.int .u64 0, .int .u64 0], #[.int .u64 (ny : Int), .int .u64 (nz : Int)], 24) ∈ ((box6 ay az bY bZ my mz ny nz W)).al by simp [box6]) (hdep _ rfl ⟨7, .data⟩ (by simp) (by kernel_rfl)) HN.out
      replace e1 := Eq.symm e1
      subst e1
      have HP := Lib.hid hput
      have HB := Lib.hid HI.out.below
      have HE3 := Lib.hid e3
      have HE2 := Lib.hid e2
      have z0 : ∃ x, w'.cell? ⟨gA, 0, none⟩ = some x := ⟨_, by simp [World.cell?, e3]; rfl⟩
      have y0 : w'.frozen? ⟨gA, 0, none⟩ = false := by simp [World.frozen?, e3]
      have z1 : ∃ x, w'.cell? ⟨gA, 1, none⟩ = some x := ⟨_, by simp [World.cell?, e3]; rfl⟩
      have y1 : w'.frozen? ⟨gA, 1, none⟩ = false := by simp [World.frozen?, e3]
      obtain ⟨x0, z0⟩ := z0
      obtain ⟨x1, z1⟩ := z1
      clear hput hdep hnd e3
      refine wpOp_step rfl (fun K' hK => ?_)
      go_simp
      refine hK _ _ ⟨_, _, _, _, _, _, _, _, rfl, hsz _, HP.out _ ?_ (by omega) rfl ?_ ?_ ?_⟩
      · exact ((HB.out.setCell HE2.out _).setCell HE2.out _)
      · intro p hp; simp only [box6, List.mem_cons, List.not_mem_nil, or_false] at hp; rcases hp with rfl | rfl <;> simp
      · intro k hk; rw [setCell_heap hk, setCell_heap hk]
      · exact set_lo _ (set_hi _ HE3.out)
    | i + 10, hi => exact absurd hi (by show ¬ (i + 10 < 10); omega)
  · intro i o ho e he
    match i, ho with
    | 0, ho => cases ho; simp at he
    | 1, ho => cases ho; simp at he
    | 2, ho => cases ho; simp at he; rcases he with rfl | rfl <;> simp
    | 3, ho => cases ho; simp at he
    | 4, ho => cases ho; simp at he
    | 5, ho => cases ho; simp at he; rcases he with rfl | rfl | rfl <;> simp
    | 6, ho => cases ho; simp at he
    | 7, ho => cases ho; simp at he
    | 8, ho => cases ho; simp at he; rcases he with rfl | rfl | rfl | rfl | rfl | rfl | rfl | rfl | rfl | rfl | rfl <;> simp
    | 9, ho => cases ho; simp at he; rcases he with rfl | rfl | rfl | rfl | rfl | rfl | rfl | rfl | rfl | rfl | rfl | rfl <;> simp
    | i + 10, ho => simp at ho
  · rintro L a' w' hall ⟨u0, u1, u2, u3, u4, u5, u6, u7, rfl, hLn, g, hI⟩
    obtain ⟨e0, f0, h0⟩ := hI.box 6 8 #[.int .u64 0, .int .u64 0] #[.int .u64 (my : Int), .int .u64 (mz : Int)] 24 (by simp [box6]) (hall 6 (by show 6 < 10; omega))
    rw [hall 8 (by show 8 < 10; omega)] at h0
    replace e0 := Eq.symm e0
    subst e0
    obtain ⟨e1, f1, h1⟩ := hI.box 7 9 #[.int .u64 0, .int .u64 0] #[.int .u64 (ny : Int), .int .u64 (nz : Int)] 24 (by simp [box6]) (hall 7 (by show 7 < 10; omega))
    rw [hall 9 (by show 9 < 10; omega)] at h1
    replace e1 := Eq.symm e1
    subst e1
    exact HEX.out (g 6) (g 7) u0 u1 u2 u3 u4 u5 w' hI.below f0 h0 f1 h1

end Go.Proofs.Ytnknpgfconfgjaa

/-
  The law ActionSums of layer 21: its great regions.
-/
namespace Go.Proofs.Ytnknpgfconfgjaa
open Go.RowKit Go.Maps

section
variable {w W : World} {p0 p1 p2 p3 p4 p5 p6 p7 p8 p9 p10 p11 p12 p13 p14 p15 : Addr} {v0 v1 v2 v3 v4 v5 v6 v7 v8 v9 v10 v11 v12 v13 v14 v15 : Value}
theorem s16_w (h : Below w.heap.size w W ∧ W.cell? p0 = some v0 ∧ W.cell? p1 = some v1 ∧ W.cell? p2 = some v2 ∧ W.cell? p3 = some v3 ∧ W.cell? p4 = some v4 ∧ W.cell? p5 = some v5 ∧ W.cell? p6 = some v6 ∧ W.cell? p7 = some v7 ∧ W.cell? p8 = some v8 ∧ W.cell? p9 = some v9 ∧ W.cell? p10 = some v10 ∧ W.cell? p11 = some v11 ∧ W.cell? p12 = some v12 ∧ W.cell? p13 = some v13 ∧ W.cell? p14 = some v14 ∧ W.cell? p15 = some v15) : W.cell? p4 = some v4 := h.2.2.2.2.2.1
theorem s16_p (h : Below w.heap.size w W ∧ W.cell? p0 = some v0 ∧ W.cell? p1 = some v1 ∧ W.cell? p2 = some v2 ∧ W.cell? p3 = some v3 ∧ W.cell? p4 = some v4 ∧ W.cell? p5 = some v5 ∧ W.cell? p6 = some v6 ∧ W.cell? p7 = some v7 ∧ W.cell? p8 = some v8 ∧ W.cell? p9 = some v9 ∧ W.cell? p10 = some v10 ∧ W.cell? p11 = some v11 ∧ W.cell? p12 = some v12 ∧ W.cell? p13 = some v13 ∧ W.cell? p14 = some v14 ∧ W.cell? p15 = some v15) : W.cell? p5 = some v5 := h.2.2.2.2.2.2.1
end

set_option maxRecDepth 100000 in
set_option maxHeartbeats 16000000 in
theorem sreg10 (gA gB gW gP gx gM gN gD ay az bY bZ my mz ny nz r1y r1z r2y r2z r5y r5z : Nat) (Wi : Int) (w WB : World) (HS : Hid (Below w.heap.size w WB ∧ WB.cell? ⟨gA, 0, none⟩ = some (.int .u64 (ay : Int)) ∧ WB.cell? ⟨gA, 1, none⟩ = some (.int .u64 (az : Int)) ∧ WB.cell? ⟨gB, 0, none⟩ = some (.int .u64 (bY : Int)) ∧ WB.cell? ⟨gB, 1, none⟩ = some (.int .u64 (bZ : Int)) ∧ WB.cell? ⟨gW, 0, none⟩ = some (.int .i64 Wi) ∧ WB.cell? ⟨gP, 0, none⟩ = some (.pointer (some ⟨gx, 0, none⟩)) ∧ WB.cell? ⟨gM, 0, none⟩ = some (.int .u64 (my : Int)) ∧ WB.cell? ⟨gM, 1, none⟩ = some (.int .u64 (mz : Int)) ∧ WB.cell? ⟨gN, 0, none⟩ = some (.int .u64 (ny : Int)) ∧ WB.cell? ⟨gN, 1, none⟩ = some (.int .u64 (nz : Int)) ∧ WB.cell? ⟨gD, 0, none⟩ = some (.int .u8 7) ∧ WB.cell? ⟨gD, 1, none⟩ = some (.int .i64 Wi) ∧ WB.cell? ⟨gD, 2, none⟩ = some (.int .i64 0) ∧ WB.cell? ⟨gD, 3, none⟩ = some (.int .i64 0) ∧ WB.cell? ⟨gD, 4, none⟩ = some (.int .u64 0) ∧ WB.cell? ⟨gD, 5, none⟩ = some (.int .u64 0)))
    (HCA : Hid (∀ W', W'.cell? ⟨gW, 0, none⟩ = some (.int .i64 Wi) → Calls Try.prog 6 #[.agg #[.int .u64 (ay : Int), .int .u64 (az : Int)], .pointer (some ⟨gW, 0, none⟩)] W' fun e w' => e = .returned (.agg #[.int .u8 1, .int .i64 Wi, .int .i64 0, .int .i64 0, .int .u64 (my : Int), .int .u64 (mz : Int)]) ∧ Below W'.heap.size W' w'))
    (HCB : Hid (∀ W', W'.cell? ⟨gW, 0, none⟩ = some (.int .i64 Wi) → Calls Try.prog 6 #[.agg #[.int .u64 (bY : Int), .int .u64 (bZ : Int)], .pointer (some ⟨gW, 0, none⟩)] W' fun e w' => e = .returned (.agg #[.int .u8 1, .int .i64 Wi, .int .i64 0, .int .i64 0, .int .u64 (ny : Int), .int .u64 (nz : Int)]) ∧ Below W'.heap.size W' w'))
    (HOF5 : Hid (∀ W' gc, W'.cell? ⟨gP, 0, none⟩ = some (.pointer (some ⟨gx, 0, none⟩)) → W'.heap[gc]? = some (.cells #[.int .u8 1, .int .i64 Wi, .int .i64 0, .int .i64 0, .int .u64 (my : Int), .int .u64 (mz : Int), .int .u8 1, .int .i64 Wi, .int .i64 0, .int .i64 0, .int .u64 (ny : Int), .int .u64 (nz : Int), .int .u8 19, .int .i64 1, .int .i64 0, .int .i64 0, .int .u64 0, .int .u64 0] 33 (0, 0)) → Calls Try.prog 8 #[.slice (some ⟨gc, 0, none⟩) 3 3, .pointer (some ⟨gP, 0, none⟩)] W' fun e w' => e = .returned (.agg #[.int .u64 (r5y : Int), .int .u64 (r5z : Int)]) ∧ Below W'.heap.size W' w'))
    (HOF6 : Hid (∀ W' gc, W'.cell? ⟨gP, 0, none⟩ = some (.pointer (some ⟨gx, 0, none⟩)) → W'.heap[gc]? = some (.cells #[.int .u8 1, .int .i64 Wi, .int .i64 0, .int .i64 0, .int .u64 (ny : Int), .int .u64 (nz : Int), .int .u8 1, .int .i64 Wi, .int .i64 0, .int .i64 0, .int .u64 (my : Int), .int .u64 (mz : Int), .int .u8 20, .int .i64 1, .int .i64 0, .int .i64 0, .int .u64 0, .int .u64 0, .int .u8 7, .int .i64 1, .int .i64 0, .int .i64 0, .int .u64 0, .int .u64 0] 33 (0, 0)) → Calls Try.prog 8 #[.slice (some ⟨gc, 0, none⟩) 4 4, .pointer (some ⟨gP, 0, none⟩)] W' fun e w' => e = .returned (.agg #[.int .u64 (r5y : Int), .int .u64 (r5z : Int)]) ∧ Below W'.heap.size W' w'))
    (s0 s1 s2 s3 s7 s8 s15 s16 s17 s18 s19 s20 s21 s22 s23 s24 s25 s26 s27 s28 s29 s30 s31 s32 s33 s34 s35 s36 s37 s38 s39 s40 s41 s42 s43 s44 s45 s46 s47 s48 s49 s50 s51 s52 s53 s54 s55 s56 s57 s58 s59 s60 s61 s62 s63 s64 s65 s66 s67 s68 s69 s70 s71 s72 s73 s74 s75 s76 s77 s78 s79 s80 s81 s82 s83 s84 s85 s86 s87 s88 s89 s90 s91 s92 s93 s94 s95 s96 s97 s98 s99 s100 s101 s102 s103 s104 s105 s106 s107 s108 s109 s110 s111 s112 s113 s114 s115 s116 s117 s118 s119 s120 s121 s122 s123 s124 s125 s126 s127 s128 s129 s130 s131 s132 s133 s134 s135 s136 s137 s138 s139 s140 s141 s142 s143 s144 s145 s146 s147 s148 s149 s150 s151 s152 s153 s154 s155 s156 s157 s158 s159 s160 : Value) (Q : Exit → Act → World → Prop)
    (hexit : ∀ (u103 u104 u105 u106 u107 u108 u109 u110 u111 u112 u113 u114 u115 u116 u117 u118 u119 u120 u121 u122 u123 : Value) (w' : World), (Below w.heap.size w w' ∧ w'.cell? ⟨gA, 0, none⟩ = some (.int .u64 (ay : Int)) ∧ w'.cell? ⟨gA, 1, none⟩ = some (.int .u64 (az : Int)) ∧ w'.cell? ⟨gB, 0, none⟩ = some (.int .u64 (bY : Int)) ∧ w'.cell? ⟨gB, 1, none⟩ = some (.int .u64 (bZ : Int)) ∧ w'.cell? ⟨gW, 0, none⟩ = some (.int .i64 Wi) ∧ w'.cell? ⟨gP, 0, none⟩ = some (.pointer (some ⟨gx, 0, none⟩)) ∧ w'.cell? ⟨gM, 0, none⟩ = some (.int .u64 (my : Int)) ∧ w'.cell? ⟨gM, 1, none⟩ = some (.int .u64 (mz : Int)) ∧ w'.cell? ⟨gN, 0, none⟩ = some (.int .u64 (ny : Int)) ∧ w'.cell? ⟨gN, 1, none⟩ = some (.int .u64 (nz : Int)) ∧ w'.cell? ⟨gD, 0, none⟩ = some (.int .u8 7) ∧ w'.cell? ⟨gD, 1, none⟩ = some (.int .i64 Wi) ∧ w'.cell? ⟨gD, 2, none⟩ = some (.int .i64 0) ∧ w'.cell? ⟨gD, 3, none⟩ = some (.int .i64 0) ∧ w'.cell? ⟨gD, 4, none⟩ = some (.int .u64 0) ∧ w'.cell? ⟨gD, 5, none⟩ = some (.int .u64 0)) → Q .normal ⟨#[s0, s1, s2, s3, .pointer (some ⟨gA, 0, none⟩), .pointer (some ⟨gB, 0, none⟩), .pointer (some ⟨gW, 0, none⟩), s7, s8, .pointer (some ⟨gP, 0, none⟩), .func (Fn.func 6) #[] #[.pointer (some ⟨gW, 0, none⟩)], .func (Fn.func 8) #[] #[.pointer (some ⟨gP, 0, none⟩)], .pointer (some ⟨gM, 0, none⟩), .pointer (some ⟨gN, 0, none⟩), .pointer (some ⟨gD, 0, none⟩), s15, s16, s17, s18, s19, s20, s21, s22, s23, s24, s25, s26, s27, s28, s29, s30, s31, s32, s33, s34, s35, s36, s37, s38, s39, s40, s41, s42, s43, s44, s45, s46, s47, s48, s49, s50, s51, s52, s53, s54, s55, s56, s57, s58, s59, s60, s61, s62, s63, s64, s65, s66, s67, s68, s69, s70, s71, s72, s73, s74, s75, s76, s77, s78, s79, s80, s81, s82, s83, s84, s85, s86, s87, s88, s89, s90, s91, s92, s93, s94, s95, s96, s97, s98, s99, s100, s101, s102, u103, u104, u105, u106, u107, u108, u109, u110, u111, u112, u113, u114, u115, u116, u117, u118, u119, u120, u121, u122, u123, .bool false, s125, s126, s127, s128, s129, s130, s131, s132, s133, s134, s135, s136, s137, s138, s139, s140, s141, s142, s143, s144, s145, s146, s147, s148, s149, s150, s151, s152, s153, s154, s155, s156, s157, s158, s159, s160], []⟩ w') :
    Code.wp Try.prog ((Try.f3.body.bind (findRegion 10)).getD .skip) Q ⟨#[s0, s1, s2, s3, .pointer (some ⟨gA, 0, none⟩), .pointer (some ⟨gB, 0, none⟩), .pointer (some ⟨gW, 0, none⟩), s7, s8, .pointer (some ⟨gP, 0, none⟩), .func (Fn.func 6) #[] #[.pointer (some ⟨gW, 0, none⟩)], .func (Fn.func 8) #[] #[.pointer (some ⟨gP, 0, none⟩)], .pointer (some ⟨gM, 0, none⟩), .pointer (some ⟨gN, 0, none⟩), .pointer (some ⟨gD, 0, none⟩), s15, s16, s17, s18, s19, s20, s21, s22, s23, s24, s25, s26, s27, s28, s29, s30, s31, s32, s33, s34, s35, s36, s37, s38, s39, s40, s41, s42, s43, s44, s45, s46, s47, s48, s49, s50, s51, s52, s53, s54, s55, s56, s57, s58, s59, s60, s61, s62, s63, s64, s65, s66, s67, s68, s69, s70, s71, s72, s73, s74, s75, s76, s77, s78, s79, s80, s81, s82, s83, s84, s85, s86, s87, s88, s89, s90, s91, s92, s93, s94, s95, s96, s97, s98, s99, s100, s101, s102, s103, s104, s105, s106, s107, s108, s109, s110, s111, s112, s113, s114, s115, s116, s117, s118, s119, s120, s121, s122, s123, s124, s125, s126, s127, s128, s129, s130, s131, s132, s133, s134, s135, s136, s137, s138, s139, s140, s141, s142, s143, s144, s145, s146, s147, s148, s149, s150, s151, s152, s153, s154, s155, s156, s157, s158, s159, s160], []⟩ WB := by
  dsimp only at hexit ⊢
  conv => arg 2; whnf
  refine Code.wp_mono (Q := fun e a w' => match e with | .normal => ∃ u103 u104 u105 u106 u107 u108 u109 u110 u111 u112 u113 u114 u115 u116 u117 u118 u119 u120 u121 u122 u123 : Value, a = ⟨#[s0, s1, s2, s3, .pointer (some ⟨gA, 0, none⟩), .pointer (some ⟨gB, 0, none⟩), .pointer (some ⟨gW, 0, none⟩), s7, s8, .pointer (some ⟨gP, 0, none⟩), .func (Fn.func 6) #[] #[.pointer (some ⟨gW, 0, none⟩)], .func (Fn.func 8) #[] #[.pointer (some ⟨gP, 0, none⟩)], .pointer (some ⟨gM, 0, none⟩), .pointer (some ⟨gN, 0, none⟩), .pointer (some ⟨gD, 0, none⟩), s15, s16, s17, s18, s19, s20, s21, s22, s23, s24, s25, s26, s27, s28, s29, s30, s31, s32, s33, s34, s35, s36, s37, s38, s39, s40, s41, s42, s43, s44, s45, s46, s47, s48, s49, s50, s51, s52, s53, s54, s55, s56, s57, s58, s59, s60, s61, s62, s63, s64, s65, s66, s67, s68, s69, s70, s71, s72, s73, s74, s75, s76, s77, s78, s79, s80, s81, s82, s83, s84, s85, s86, s87, s88, s89, s90, s91, s92, s93, s94, s95, s96, s97, s98, s99, s100, s101, s102, u103, u104, u105, u106, u107, u108, u109, u110, u111, u112, u113, u114, u115, u116, u117, u118, u119, u120, u121, u122, u123, .bool false, s125, s126, s127, s128, s129, s130, s131, s132, s133, s134, s135, s136, s137, s138, s139, s140, s141, s142, s143, s144, s145, s146, s147, s148, s149, s150, s151, s152, s153, s154, s155, s156, s157, s158, s159, s160], []⟩ ∧ (Below w.heap.size w w' ∧ w'.cell? ⟨gA, 0, none⟩ = some (.int .u64 (ay : Int)) ∧ w'.cell? ⟨gA, 1, none⟩ = some (.int .u64 (az : Int)) ∧ w'.cell? ⟨gB, 0, none⟩ = some (.int .u64 (bY : Int)) ∧ w'.cell? ⟨gB, 1, none⟩ = some (.int .u64 (bZ : Int)) ∧ w'.cell? ⟨gW, 0, none⟩ = some (.int .i64 Wi) ∧ w'.cell? ⟨gP, 0, none⟩ = some (.pointer (some ⟨gx, 0, none⟩)) ∧ w'.cell? ⟨gM, 0, none⟩ = some (.int .u64 (my : Int)) ∧ w'.cell? ⟨gM, 1, none⟩ = some (.int .u64 (mz : Int)) ∧ w'.cell? ⟨gN, 0, none⟩ = some (.int .u64 (ny : Int)) ∧ w'.cell? ⟨gN, 1, none⟩ = some (.int .u64 (nz : Int)) ∧ w'.cell? ⟨gD, 0, none⟩ = some (.int .u8 7) ∧ w'.cell? ⟨gD, 1, none⟩ = some (.int .i64 Wi) ∧ w'.cell? ⟨gD, 2, none⟩ = some (.int .i64 0) ∧ w'.cell? ⟨gD, 3, none⟩ = some (.int .i64 0) ∧ w'.cell? ⟨gD, 4, none⟩ = some (.int .u64 0) ∧ w'.cell? ⟨gD, 5, none⟩ = some (.int .u64 0)) | _ => False) ?_ ?_
  · intro e a w' h
    cases e with
    | normal =>
      obtain ⟨u103, u104, u105, u106, u107, u108, u109, u110, u111, u112, u113, u114, u115, u116, u117, u118, u119, u120, u121, u122, u123, rfl, h1⟩ := h
      exact hexit u103 u104 u105 u106 u107 u108 u109 u110 u111 u112 u113 u114 u115 u116 u117 u118 u119 u120 u121 u122 u123 w' h1
    | _ => exact h.elim
  clear hexit
  have HS0 : Hid (Below w.heap.size w WB.drew ∧ WB.drew.cell? ⟨gA, 0, none⟩ = some (.int .u64 (ay : Int)) ∧ WB.drew.cell? ⟨gA, 1, none⟩ = some (.int .u64 (az : Int)) ∧ WB.drew.cell? ⟨gB, 0, none⟩ = some (.int .u64 (bY : Int)) ∧ WB.drew.cell? ⟨gB, 1, none⟩ = some (.int .u64 (bZ : Int)) ∧ WB.drew.cell? ⟨gW, 0, none⟩ = some (.int .i64 Wi) ∧ WB.drew.cell? ⟨gP, 0, none⟩ = some (.pointer (some ⟨gx, 0, none⟩)) ∧ WB.drew.cell? ⟨gM, 0, none⟩ = some (.int .u64 (my : Int)) ∧ WB.drew.cell? ⟨gM, 1, none⟩ = some (.int .u64 (mz : Int)) ∧ WB.drew.cell? ⟨gN, 0, none⟩ = some (.int .u64 (ny : Int)) ∧ WB.drew.cell? ⟨gN, 1, none⟩ = some (.int .u64 (nz : Int)) ∧ WB.drew.cell? ⟨gD, 0, none⟩ = some (.int .u8 7) ∧ WB.drew.cell? ⟨gD, 1, none⟩ = some (.int .i64 Wi) ∧ WB.drew.cell? ⟨gD, 2, none⟩ = some (.int .i64 0) ∧ WB.drew.cell? ⟨gD, 3, none⟩ = some (.int .i64 0) ∧ WB.drew.cell? ⟨gD, 4, none⟩ = some (.int .u64 0) ∧ WB.drew.cell? ⟨gD, 5, none⟩ = some (.int .u64 0)) := held_16_0 (below_drewN (Below.refl _ _) 1) HS.out
  have hal : ∀ (W : World) (o : Obj), Below W.heap.size W (W.alloc o) := fun W o => (Below.refl _ _).alloc (Nat.le_refl _) _
  have HAL := Lib.hid hal
  clear hal
  have hneq := neq_same
  go_region_held3 (fun Wk => Below w.heap.size w Wk ∧ Wk.cell? ⟨gA, 0, none⟩ = some (.int .u64 (ay : Int)) ∧ Wk.cell? ⟨gA, 1, none⟩ = some (.int .u64 (az : Int)) ∧ Wk.cell? ⟨gB, 0, none⟩ = some (.int .u64 (bY : Int)) ∧ Wk.cell? ⟨gB, 1, none⟩ = some (.int .u64 (bZ : Int)) ∧ Wk.cell? ⟨gW, 0, none⟩ = some (.int .i64 Wi) ∧ Wk.cell? ⟨gP, 0, none⟩ = some (.pointer (some ⟨gx, 0, none⟩)) ∧ Wk.cell? ⟨gM, 0, none⟩ = some (.int .u64 (my : Int)) ∧ Wk.cell? ⟨gM, 1, none⟩ = some (.int .u64 (mz : Int)) ∧ Wk.cell? ⟨gN, 0, none⟩ = some (.int .u64 (ny : Int)) ∧ Wk.cell? ⟨gN, 1, none⟩ = some (.int .u64 (nz : Int)) ∧ Wk.cell? ⟨gD, 0, none⟩ = some (.int .u8 7) ∧ Wk.cell? ⟨gD, 1, none⟩ = some (.int .i64 Wi) ∧ Wk.cell? ⟨gD, 2, none⟩ = some (.int .i64 0) ∧ Wk.cell? ⟨gD, 3, none⟩ = some (.int .i64 0) ∧ Wk.cell? ⟨gD, 4, none⟩ = some (.int .u64 0) ∧ Wk.cell? ⟨gD, 5, none⟩ = some (.int .u64 0))
    (first | exact HS0.out | exact held_16_0 hb1 (by assumption) | exact held_16_0 (HAL.out _ _) (by assumption) | assumption)
    (first
    | (go_at_call 6; (with_reducible refine (HCA.out _ ?_).mono ?_); exact s16_w (by assumption); rintro e w1 ⟨rfl, hb1⟩)
    | (go_at_call 6; (with_reducible refine (HCB.out _ ?_).mono ?_); exact s16_w (by assumption); rintro e w1 ⟨rfl, hb1⟩)
    | (go_at_call 8; (with_reducible refine (HOF5.out _ _ ?_ ?_).mono ?_); exact s16_p (by assumption); exact heap_new _ _; rintro e w1 ⟨rfl, hb1⟩)
    | (go_at_call 8; (with_reducible refine (HOF6.out _ _ ?_ ?_).mono ?_); exact s16_p (by assumption); exact heap_new _ _; rintro e w1 ⟨rfl, hb1⟩))
  rename_i hS
  exact ⟨_, _, _, _, _, _, _, _, _, _, _, _, _, _, _, _, _, _, _, _, _, rfl, hS⟩

end Go.Proofs.Ytnknpgfconfgjaa

/-
  The operations of the region of the sums.
-/
namespace Go.Proofs.Ytnknpgfconfgjaa
open Go.RowKit Go.Maps

noncomputable def reg8 : { c : Array Oper // (Try.f3.body.bind (findRegion 8)) = some (.region 8 c true) } := ⟨_, rfl⟩

theorem ops8_size : reg8.1.size = 63 := rfl

end Go.Proofs.Ytnknpgfconfgjaa
