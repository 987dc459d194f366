/-
  Lemmas, joined: Law18S, Law17S, Law17T, Law18T.
-/
import Derived.Test.YtlnkflmnjkmhkaaJO20
import Derived.Test.YtlnkflmnjkmhkaaJO19
/-
  The law SymopMeans of layer 18: the region that asks the reference for eight numbers.
-/
namespace Go.Proofs.Ytlnkflmnjkmhkaa
open Go.RowKit Go.Maps

def oneN (b : Bool) : Nat := if b then 1 else 0

theorem held18 {g0 g1 g2 nb : Nat} {h1 l1 h2 l2 h3 l3 h4 l4 : Nat} {WC W w1 : World} (hb : Below W.heap.size W w1) (h : W.cell? ⟨g0, 0, none⟩ = some (.int .u64 (h2 : Int)) ∧ W.cell? ⟨g0, 1, none⟩ = some (.int .u64 (l2 : Int)) ∧ W.cell? ⟨g1, 0, none⟩ = some (.int .u64 (h3 : Int)) ∧ W.cell? ⟨g1, 1, none⟩ = some (.int .u64 (l3 : Int)) ∧ W.cell? ⟨g2, 0, none⟩ = some (.int .u64 (h4 : Int)) ∧ W.cell? ⟨g2, 1, none⟩ = some (.int .u64 (l4 : Int)) ∧ W.cell? ⟨nb, 0, none⟩ = some (.int .u64 (h1 : Int)) ∧ W.cell? ⟨nb, 1, none⟩ = some (.int .u64 (l1 : Int)) ∧ Below WC.heap.size WC W) :
    w1.cell? ⟨g0, 0, none⟩ = some (.int .u64 (h2 : Int)) ∧ w1.cell? ⟨g0, 1, none⟩ = some (.int .u64 (l2 : Int)) ∧ w1.cell? ⟨g1, 0, none⟩ = some (.int .u64 (h3 : Int)) ∧ w1.cell? ⟨g1, 1, none⟩ = some (.int .u64 (l3 : Int)) ∧ w1.cell? ⟨g2, 0, none⟩ = some (.int .u64 (h4 : Int)) ∧ w1.cell? ⟨g2, 1, none⟩ = some (.int .u64 (l4 : Int)) ∧ w1.cell? ⟨nb, 0, none⟩ = some (.int .u64 (h1 : Int)) ∧ w1.cell? ⟨nb, 1, none⟩ = some (.int .u64 (l1 : Int)) ∧ Below WC.heap.size WC w1 := by
  obtain ⟨e, -⟩ := bcell hb
  obtain ⟨q0, q1, q2, q3, q4, q5, q6, q7, q8⟩ := h
  exact ⟨(e _ _ (cell_there q0).1).trans q0, (e _ _ (cell_there q1).1).trans q1, (e _ _ (cell_there q2).1).trans q2, (e _ _ (cell_there q3).1).trans q3, (e _ _ (cell_there q4).1).trans q4, (e _ _ (cell_there q5).1).trans q5, (e _ _ (cell_there q6).1).trans q6, (e _ _ (cell_there q7).1).trans q7, q8.trans (hb.mono q8.size)⟩

set_option maxRecDepth 100000 in
set_option maxHeartbeats 1000000 in
theorem eq_num (a b c d : Int) (W : World) : (Go.binOp .eql 41 (.agg #[.int .u64 a, .int .u64 b]) (.agg #[.int .u64 c, .int .u64 d])).run Try.prog W = .ok (.bool (a == c && b == d)) W := by
  by_cases h1 : a = c
  · subst h1
    by_cases h2 : b = d
    · subst h2; simp [go_sem]
    · have e : (b == d) = false := by simpa using h2
      rw [e]
      simp [go_sem, e, h2]
  · have e : (a == c) = false := by simpa using h1
    rw [e]
    simp [go_sem, e, h1]

set_option maxRecDepth 100000 in
set_option maxHeartbeats 1000000 in
theorem neq_num (a b c d : Int) (W : World) : (Go.binOp .neq 41 (.agg #[.int .u64 a, .int .u64 b]) (.agg #[.int .u64 c, .int .u64 d])).run Try.prog W = .ok (.bool (!(a == c && b == d))) W := by
  by_cases h1 : a = c
  · subst h1
    by_cases h2 : b = d
    · subst h2; simp [go_sem]
    · have e : (b == d) = false := by simpa using h2
      rw [e]
      simp [go_sem, e, h2]
  · have e : (a == c) = false := by simpa using h1
    rw [e]
    simp [go_sem, e, h1]

set_option maxRecDepth 100000 in
set_option maxHeartbeats 3000000 in
theorem regs18 (W M g0 g1 g2 nb h1 l1 h2 l2 h3 l3 h4 l4 x0 y0 x1 y1 x2 y2 x3 y3 x4 y4 : Nat) (cm : Int)
    (HC0 : Hid (∀ W', Calls Try.prog 56 #[.agg #[.int .u64 (h2 : Int), .int .u64 (l2 : Int)], .agg #[.int .u64 (h3 : Int), .int .u64 (l3 : Int)], .int .i64 (M : Int)] W' fun e w' => e = .returned (.agg #[.int .u64 (x0 : Int), .int .u64 (y0 : Int)]) ∧ Below W'.heap.size W' w'))
    (HC1 : Hid (∀ W', Calls Try.prog 57 #[.agg #[.int .u64 (h2 : Int), .int .u64 (l2 : Int)], .agg #[.int .u64 (h3 : Int), .int .u64 (l3 : Int)], .int .i64 (M : Int)] W' fun e w' => e = .returned (.agg #[.int .u64 (x1 : Int), .int .u64 (y1 : Int)]) ∧ Below W'.heap.size W' w'))
    (HC2 : Hid (∀ W', Calls Try.prog 57 #[.agg #[.int .u64 0, .int .u64 0], .agg #[.int .u64 (h2 : Int), .int .u64 (l2 : Int)], .int .i64 (W : Int)] W' fun e w' => e = .returned (.agg #[.int .u64 (x2 : Int), .int .u64 (y2 : Int)]) ∧ Below W'.heap.size W' w'))
    (HOF : Hid (∀ W', Calls Try.prog 30 #[.int .u64 0] W' fun e w' => e = .returned (.agg #[.int .u64 0, .int .u64 0]) ∧ Below W'.heap.size W' w'))
    (HCM : Hid (∀ W', Calls Try.prog 59 #[.agg #[.int .u64 (h2 : Int), .int .u64 (l2 : Int)], .agg #[.int .u64 (h3 : Int), .int .u64 (l3 : Int)]] W' fun e w' => e = .returned (.int .i64 cm) ∧ Below W'.heap.size W' w'))
    (HA1 : Hid (∀ W', Calls Try.prog 32 #[.agg #[.int .u64 (h2 : Int), .int .u64 (l2 : Int)], .agg #[.int .u64 (h4 : Int), .int .u64 (l4 : Int)]] W' fun e w' => e = .returned (.agg #[.int .u64 (x3 : Int), .int .u64 (y3 : Int)]) ∧ Below W'.heap.size W' w'))
    (HA2 : Hid (∀ W', Calls Try.prog 32 #[.agg #[.int .u64 (h1 : Int), .int .u64 (l1 : Int)], .agg #[.int .u64 (h4 : Int), .int .u64 (l4 : Int)]] W' fun e w' => e = .returned (.agg #[.int .u64 (x4 : Int), .int .u64 (y4 : Int)]) ∧ Below W'.heap.size W' w'))
    (HON : Hid (∀ bb W', Calls Try.prog 58 #[.bool bb] W' fun e w' => e = .returned (.agg #[.int .u64 0, .int .u64 ((oneN bb : Nat) : Int)]) ∧ Below W'.heap.size W' w'))
    (WC : World) (hS : WC.cell? ⟨g0, 0, none⟩ = some (.int .u64 (h2 : Int)) ∧ WC.cell? ⟨g0, 1, none⟩ = some (.int .u64 (l2 : Int)) ∧ WC.cell? ⟨g1, 0, none⟩ = some (.int .u64 (h3 : Int)) ∧ WC.cell? ⟨g1, 1, none⟩ = some (.int .u64 (l3 : Int)) ∧ WC.cell? ⟨g2, 0, none⟩ = some (.int .u64 (h4 : Int)) ∧ WC.cell? ⟨g2, 1, none⟩ = some (.int .u64 (l4 : Int)) ∧ WC.cell? ⟨nb, 0, none⟩ = some (.int .u64 (h1 : Int)) ∧ WC.cell? ⟨nb, 1, none⟩ = some (.int .u64 (l1 : Int)) ∧ Below WC.heap.size WC WC)
    (c0 c1 c2 c3 c4 c6 c8 c9 c10 c11 c12 c14 c15 c16 c17 c21 c22 c23 c24 c25 c26 c27 c28 c29 c30 c31 c32 c33 c34 c35 c36 c37 c38 c39 c40 c41 c42 c43 c44 c45 c46 c47 c48 c49 c50 c51 c52 c53 c54 c55 c56 c57 c58 c59 c60 c61 c62 c63 c64 c65 c66 c67 c68 c69 c70 c71 c72 c73 c74 c75 c76 c77 c78 c79 c80 c81 c82 c83 c84 c85 c86 c87 c88 c89 c90 c91 c92 c93 c94 c95 c96 c97 c98 c99 c100 c101 c102 c103 c104 c105 c106 c107 c108 c109 c110 c111 c112 c113 c114 c115 c116 c117 c118 c119 c120 c121 c122 c123 c124 c125 c126 c127 c128 c129 c130 c131 c132 c133 c134 c135 c136 c137 c138 c139 c140 c141 c142 c143 c144 c145 c146 c147 c148 c149 c150 c151 c152 c153 c154 c155 c156 c157 c158 c159 c160 c161 c162 c163 c164 c165 c166 c167 c168 c169 c170 c171 c172 c173 c174 c175 c176 c177 c178 c179 c180 c181 c182 c183 c184 c185 c186 c187 c188 c189 c190 c191 : Value) (Q : Exit → Act → World → Prop)
    (hexit : ∀ (u132 u133 u134 u135 u136 u137 u138 u139 u140 u141 u142 u143 u144 u145 u146 u147 u148 u149 u150 u151 u152 u153 u154 u155 u156 u157 u158 u159 u160 u161 u162 u163 u164 u165 u166 u167 u168 u169 u170 u171 : Value) (w1 : World), Below WC.heap.size WC (w1.alloc (.cells #[.int .u64 (x0 : Int), .int .u64 (y0 : Int), .int .u64 (x1 : Int), .int .u64 (y1 : Int), .int .u64 (x2 : Int), .int .u64 (y2 : Int), .int .u64 0, .int .u64 ((oneN ((h2 : Int) == h3 && (l2 : Int) == l3) : Nat) : Int), .int .u64 0, .int .u64 ((oneN (decide (cm < 0)) : Nat) : Int), .int .u64 0, .int .u64 ((oneN (decide (cm ≤ 0)) : Nat) : Int), .int .u64 0, .int .u64 ((oneN (!((h2 : Int) == 0) || !((l2 : Int) == 0)) : Nat) : Int), .int .u64 0, .int .u64 ((oneN ((x3 : Int) == x4 && (y3 : Int) == y4) : Nat) : Int)] 41)) → Q .normal ⟨#[c0, c1, c2, c3, c4, .pointer (some ⟨nb, 0, none⟩), c6, .int .i64 (W : Int), c8, c9, c10, c11, c12, .int .i64 (M : Int), c14, c15, c16, c17, .pointer (some ⟨g0, 0, none⟩), .pointer (some ⟨g1, 0, none⟩), .pointer (some ⟨g2, 0, none⟩), .slice (some ⟨w1.heap.size, 0, none⟩) 8 8, c22, c23, c24, c25, c26, c27, c28, c29, c30, c31, c32, c33, c34, c35, c36, c37, c38, c39, c40, c41, c42, c43, c44, c45, c46, c47, c48, c49, c50, c51, c52, c53, c54, c55, c56, c57, c58, c59, c60, c61, c62, c63, c64, c65, c66, c67, c68, c69, c70, c71, c72, c73, c74, c75, c76, c77, c78, c79, c80, c81, c82, c83, c84, c85, c86, c87, c88, c89, c90, c91, c92, c93, c94, c95, c96, c97, c98, c99, c100, c101, c102, c103, c104, c105, c106, c107, c108, c109, c110, c111, c112, c113, c114, c115, c116, c117, c118, c119, c120, c121, c122, c123, c124, c125, c126, c127, c128, c129, c130, c131, u132, u133, u134, u135, u136, u137, u138, u139, u140, u141, u142, u143, u144, u145, u146, u147, u148, u149, u150, u151, u152, u153, u154, u155, u156, u157, u158, u159, u160, u161, u162, u163, u164, u165, u166, u167, u168, u169, u170, u171, c172, c173, c174, c175, c176, c177, c178, c179, c180, c181, c182, c183, c184, c185, c186, c187, c188, c189, c190, c191], []⟩ (w1.alloc (.cells #[.int .u64 (x0 : Int), .int .u64 (y0 : Int), .int .u64 (x1 : Int), .int .u64 (y1 : Int), .int .u64 (x2 : Int), .int .u64 (y2 : Int), .int .u64 0, .int .u64 ((oneN ((h2 : Int) == h3 && (l2 : Int) == l3) : Nat) : Int), .int .u64 0, .int .u64 ((oneN (decide (cm < 0)) : Nat) : Int), .int .u64 0, .int .u64 ((oneN (decide (cm ≤ 0)) : Nat) : Int), .int .u64 0, .int .u64 ((oneN (!((h2 : Int) == 0) || !((l2 : Int) == 0)) : Nat) : Int), .int .u64 0, .int .u64 ((oneN ((x3 : Int) == x4 && (y3 : Int) == y4) : Nat) : Int)] 41))) :
    Code.wp Try.prog (reg18 18) Q ⟨#[c0, c1, c2, c3, c4, .pointer (some ⟨nb, 0, none⟩), c6, .int .i64 (W : Int), c8, c9, c10, c11, c12, .int .i64 (M : Int), c14, c15, c16, c17, .pointer (some ⟨g0, 0, none⟩), .pointer (some ⟨g1, 0, none⟩), .pointer (some ⟨g2, 0, none⟩), c21, c22, c23, c24, c25, c26, c27, c28, c29, c30, c31, c32, c33, c34, c35, c36, c37, c38, c39, c40, c41, c42, c43, c44, c45, c46, c47, c48, c49, c50, c51, c52, c53, c54, c55, c56, c57, c58, c59, c60, c61, c62, c63, c64, c65, c66, c67, c68, c69, c70, c71, c72, c73, c74, c75, c76, c77, c78, c79, c80, c81, c82, c83, c84, c85, c86, c87, c88, c89, c90, c91, c92, c93, c94, c95, c96, c97, c98, c99, c100, c101, c102, c103, c104, c105, c106, c107, c108, c109, c110, c111, c112, c113, c114, c115, c116, c117, c118, c119, c120, c121, c122, c123, c124, c125, c126, c127, c128, c129, c130, c131, c132, c133, c134, c135, c136, c137, c138, c139, c140, c141, c142, c143, c144, c145, c146, c147, c148, c149, c150, c151, c152, c153, c154, c155, c156, c157, c158, c159, c160, c161, c162, c163, c164, c165, c166, c167, c168, c169, c170, c171, c172, c173, c174, c175, c176, c177, c178, c179, c180, c181, c182, c183, c184, c185, c186, c187, c188, c189, c190, c191], []⟩ WC := by
  dsimp only at hexit ⊢
  conv => arg 2; whnf
  have HEX := Lib.hid hexit
  clear hexit
  obtain ⟨k0, k1, k2, k3, k4, k5, k6, k7, -⟩ := hS
  have heq := eq_num
  have hneq := neq_num
  go_region_held3 (fun w' => w'.cell? ⟨g0, 0, none⟩ = some (.int .u64 (h2 : Int)) ∧ w'.cell? ⟨g0, 1, none⟩ = some (.int .u64 (l2 : Int)) ∧ w'.cell? ⟨g1, 0, none⟩ = some (.int .u64 (h3 : Int)) ∧ w'.cell? ⟨g1, 1, none⟩ = some (.int .u64 (l3 : Int)) ∧ w'.cell? ⟨g2, 0, none⟩ = some (.int .u64 (h4 : Int)) ∧ w'.cell? ⟨g2, 1, none⟩ = some (.int .u64 (l4 : Int)) ∧ w'.cell? ⟨nb, 0, none⟩ = some (.int .u64 (h1 : Int)) ∧ w'.cell? ⟨nb, 1, none⟩ = some (.int .u64 (l1 : Int)) ∧ Below WC.heap.size WC w')
    (first | exact ⟨k0, k1, k2, k3, k4, k5, k6, k7, below_drewN (Below.refl _ _) 1⟩ | exact held18 hb1 (by assumption) | exact held18 ((Below.refl _ _).alloc (Nat.le_refl _) _) (by assumption))
    (first
      | (go_at_call 56; (with_reducible refine (HC0.out _).mono ?_); rintro e w1 ⟨rfl, hb1⟩)
      | (go_at_call 57; (with_reducible refine (HC1.out _).mono ?_); rintro e w1 ⟨rfl, hb1⟩)
      | (go_at_call 57; (with_reducible refine (HC2.out _).mono ?_); rintro e w1 ⟨rfl, hb1⟩)
      | (go_at_call 30; (with_reducible refine (HOF.out _).mono ?_); rintro e w1 ⟨rfl, hb1⟩)
      | (go_at_call 59; (with_reducible refine (HCM.out _).mono ?_); rintro e w1 ⟨rfl, hb1⟩)
      | (go_at_call 32; (with_reducible refine (HA1.out _).mono ?_); rintro e w1 ⟨rfl, hb1⟩)
      | (go_at_call 32; (with_reducible refine (HA2.out _).mono ?_); rintro e w1 ⟨rfl, hb1⟩)
      | (go_at_call 58; (with_reducible refine (HON.out _ _).mono ?_); rintro e w1 ⟨rfl, hb1⟩))
  apply HEX.out
  rename_i hh
  exact hh.2.2.2.2.2.2.2.2

end Go.Proofs.Ytlnkflmnjkmhkaa

/-
  The law SymbvMeans of layer 17: the region that asks the reference for ten numbers.
-/
namespace Go.Proofs.Ytlnkflmnjkmhkaa
open Go.RowKit Go.Maps

theorem held23 {g0 g1 g2 g3 : Nat} {h2 l2 h3 l3 h4 l4 h5 l5 : Nat} {WC W w1 : World} (hb : Below W.heap.size W w1) (h : W.cell? ⟨g0, 0, none⟩ = some (.int .u64 (h2 : Int)) ∧ W.cell? ⟨g0, 1, none⟩ = some (.int .u64 (l2 : Int)) ∧ W.cell? ⟨g1, 0, none⟩ = some (.int .u64 (h3 : Int)) ∧ W.cell? ⟨g1, 1, none⟩ = some (.int .u64 (l3 : Int)) ∧ W.cell? ⟨g2, 0, none⟩ = some (.int .u64 (h4 : Int)) ∧ W.cell? ⟨g2, 1, none⟩ = some (.int .u64 (l4 : Int)) ∧ W.cell? ⟨g3, 0, none⟩ = some (.int .u64 (h5 : Int)) ∧ W.cell? ⟨g3, 1, none⟩ = some (.int .u64 (l5 : Int)) ∧ Below WC.heap.size WC W) :
    w1.cell? ⟨g0, 0, none⟩ = some (.int .u64 (h2 : Int)) ∧ w1.cell? ⟨g0, 1, none⟩ = some (.int .u64 (l2 : Int)) ∧ w1.cell? ⟨g1, 0, none⟩ = some (.int .u64 (h3 : Int)) ∧ w1.cell? ⟨g1, 1, none⟩ = some (.int .u64 (l3 : Int)) ∧ w1.cell? ⟨g2, 0, none⟩ = some (.int .u64 (h4 : Int)) ∧ w1.cell? ⟨g2, 1, none⟩ = some (.int .u64 (l4 : Int)) ∧ w1.cell? ⟨g3, 0, none⟩ = some (.int .u64 (h5 : Int)) ∧ w1.cell? ⟨g3, 1, none⟩ = some (.int .u64 (l5 : Int)) ∧ Below WC.heap.size WC w1 := by
  obtain ⟨e, -⟩ := bcell hb
  obtain ⟨q0, q1, q2, q3, q4, q5, q6, q7, q8⟩ := h
  exact ⟨(e _ _ (cell_there q0).1).trans q0, (e _ _ (cell_there q1).1).trans q1, (e _ _ (cell_there q2).1).trans q2, (e _ _ (cell_there q3).1).trans q3, (e _ _ (cell_there q4).1).trans q4, (e _ _ (cell_there q5).1).trans q5, (e _ _ (cell_there q6).1).trans q6, (e _ _ (cell_there q7).1).trans q7, q8.trans (hb.mono q8.size)⟩

set_option maxRecDepth 100000 in
set_option maxHeartbeats 3000000 in
theorem reg23 (W X K g0 g1 g2 g3 h2 l2 h3 l3 h4 l4 h5 l5 x0 y0 x1 y1 x2 y2 x3 y3 x5 y5 x6 y6 x7 y7 x8 y8 x9 y9 : Nat)
    (HC0 : Hid (∀ W', Calls Try.prog 32 #[.agg #[.int .u64 (h2 : Int), .int .u64 (l2 : Int)], .agg #[.int .u64 (h4 : Int), .int .u64 (l4 : Int)]] W' fun e w' => e = .returned (.agg #[.int .u64 (x0 : Int), .int .u64 (y0 : Int)]) ∧ Below W'.heap.size W' w'))
    (HC1 : Hid (∀ W', Calls Try.prog 33 #[.agg #[.int .u64 (h2 : Int), .int .u64 (l2 : Int)], .agg #[.int .u64 (h3 : Int), .int .u64 (l3 : Int)]] W' fun e w' => e = .returned (.agg #[.int .u64 (x1 : Int), .int .u64 (y1 : Int)]) ∧ Below W'.heap.size W' w'))
    (HC2 : Hid (∀ W', Calls Try.prog 34 #[.agg #[.int .u64 (h2 : Int), .int .u64 (l2 : Int)], .agg #[.int .u64 (h4 : Int), .int .u64 (l4 : Int)]] W' fun e w' => e = .returned (.agg #[.int .u64 (x2 : Int), .int .u64 (y2 : Int)]) ∧ Below W'.heap.size W' w'))
    (HC3 : Hid (∀ W', Calls Try.prog 35 #[.agg #[.int .u64 (h2 : Int), .int .u64 (l2 : Int)], .int .i64 (W : Int)] W' fun e w' => e = .returned (.agg #[.int .u64 (x3 : Int), .int .u64 (y3 : Int)]) ∧ Below W'.heap.size W' w'))
    (HC5 : Hid (∀ W', Calls Try.prog 36 #[.agg #[.int .u64 (h2 : Int), .int .u64 (l2 : Int)], .agg #[.int .u64 (h3 : Int), .int .u64 (l3 : Int)], .int .i64 (X : Int)] W' fun e w' => e = .returned (.agg #[.int .u64 (x5 : Int), .int .u64 (y5 : Int)]) ∧ Below W'.heap.size W' w'))
    (HC6 : Hid (∀ W', Calls Try.prog 37 #[.agg #[.int .u64 (h2 : Int), .int .u64 (l2 : Int)], .int .i64 (K : Int), .int .i64 (W : Int)] W' fun e w' => e = .returned (.agg #[.int .u64 (x6 : Int), .int .u64 (y6 : Int)]) ∧ Below W'.heap.size W' w'))
    (HC7 : Hid (∀ W', Calls Try.prog 38 #[.agg #[.int .u64 (h2 : Int), .int .u64 (l2 : Int)], .int .i64 (K : Int)] W' fun e w' => e = .returned (.agg #[.int .u64 (x7 : Int), .int .u64 (y7 : Int)]) ∧ Below W'.heap.size W' w'))
    (HC8 : Hid (∀ W', Calls Try.prog 39 #[.agg #[.int .u64 (h4 : Int), .int .u64 (l4 : Int)], .int .i64 5, .int .i64 (K : Int)] W' fun e w' => e = .returned (.agg #[.int .u64 (x8 : Int), .int .u64 (y8 : Int)]) ∧ Below W'.heap.size W' w'))
    (HC9 : Hid (∀ W', Calls Try.prog 31 #[.agg #[.int .u64 (h2 : Int), .int .u64 (l2 : Int)], .int .i64 (K : Int)] W' fun e w' => e = .returned (.agg #[.int .u64 (x9 : Int), .int .u64 (y9 : Int)]) ∧ Below W'.heap.size W' w'))
    (WC : World) (hS : WC.cell? ⟨g0, 0, none⟩ = some (.int .u64 (h2 : Int)) ∧ WC.cell? ⟨g0, 1, none⟩ = some (.int .u64 (l2 : Int)) ∧ WC.cell? ⟨g1, 0, none⟩ = some (.int .u64 (h3 : Int)) ∧ WC.cell? ⟨g1, 1, none⟩ = some (.int .u64 (l3 : Int)) ∧ WC.cell? ⟨g2, 0, none⟩ = some (.int .u64 (h4 : Int)) ∧ WC.cell? ⟨g2, 1, none⟩ = some (.int .u64 (l4 : Int)) ∧ WC.cell? ⟨g3, 0, none⟩ = some (.int .u64 (h5 : Int)) ∧ WC.cell? ⟨g3, 1, none⟩ = some (.int .u64 (l5 : Int)) ∧ Below WC.heap.size WC WC)
    (c0 c1 c2 c3 c4 c5 c6 c7 c8 c11 c12 c13 c14 c15 c17 c18 c19 c20 c25 c26 c27 c28 c29 c30 c31 c32 c33 c34 c35 c36 c37 c38 c39 c40 c41 c42 c43 c44 c45 c46 c47 c48 c49 c50 c51 c52 c53 c54 c55 c56 c57 c58 c59 c60 c61 c62 c63 c64 c65 c66 c67 c68 c69 c70 c71 c72 c73 c74 c75 c76 c77 c78 c79 c80 c81 c82 c83 c84 c85 c86 c87 c88 c89 c90 c91 c92 c93 c94 c95 c96 c97 c98 c99 c100 c101 c102 c103 c104 c105 c106 c107 c108 c109 c110 c111 c112 c113 c114 c115 c116 c117 c118 c119 c120 c121 c122 c123 c124 c125 c126 c127 c128 c129 c130 c131 c132 c133 c134 c135 c136 c137 c138 c139 c140 c141 c142 c143 c144 c145 c146 c147 c148 c149 c150 c151 c152 c153 c154 c155 c156 c157 c158 c159 c160 c161 c162 c163 c164 c165 c166 c167 c168 c169 c170 c171 c172 c173 c174 c175 c176 c177 c178 c179 c180 c181 c182 c183 c184 c185 c186 c187 c188 c189 c190 c191 c192 c193 c194 c195 c196 c197 c198 c199 c200 c201 c202 c203 c204 c205 c206 c207 c208 : Value) (Q : Exit → Act → World → Prop)
    (hexit : ∀ (u158 u159 u160 u161 u162 u163 u164 u165 u166 u167 u168 u169 u170 u171 u172 u173 u174 u175 u176 u177 u178 u179 u180 u181 u182 u183 u184 u185 u186 u187 u188 : Value) (w1 : World), Below WC.heap.size WC (w1.alloc (.cells #[.int .u64 (x0 : Int), .int .u64 (y0 : Int), .int .u64 (x1 : Int), .int .u64 (y1 : Int), .int .u64 (x2 : Int), .int .u64 (y2 : Int), .int .u64 (x3 : Int), .int .u64 (y3 : Int), .int .u64 (h5 : Int), .int .u64 (l5 : Int), .int .u64 (x5 : Int), .int .u64 (y5 : Int), .int .u64 (x6 : Int), .int .u64 (y6 : Int), .int .u64 (x7 : Int), .int .u64 (y7 : Int), .int .u64 (x8 : Int), .int .u64 (y8 : Int), .int .u64 (x9 : Int), .int .u64 (y9 : Int)] 41)) → Q .normal ⟨#[c0, c1, c2, c3, c4, c5, c6, c7, c8, .int .i64 (W : Int), .int .i64 (X : Int), c11, c12, c13, c14, c15, .int .i64 (K : Int), c17, c18, c19, c20, .pointer (some ⟨g0, 0, none⟩), .pointer (some ⟨g1, 0, none⟩), .pointer (some ⟨g2, 0, none⟩), .pointer (some ⟨g3, 0, none⟩), .slice (some ⟨w1.heap.size, 0, none⟩) 10 10, c26, c27, c28, c29, c30, c31, c32, c33, c34, c35, c36, c37, c38, c39, c40, c41, c42, c43, c44, c45, c46, c47, c48, c49, c50, c51, c52, c53, c54, c55, c56, c57, c58, c59, c60, c61, c62, c63, c64, c65, c66, c67, c68, c69, c70, c71, c72, c73, c74, c75, c76, c77, c78, c79, c80, c81, c82, c83, c84, c85, c86, c87, c88, c89, c90, c91, c92, c93, c94, c95, c96, c97, c98, c99, c100, c101, c102, c103, c104, c105, c106, c107, c108, c109, c110, c111, c112, c113, c114, c115, c116, c117, c118, c119, c120, c121, c122, c123, c124, c125, c126, c127, c128, c129, c130, c131, c132, c133, c134, c135, c136, c137, c138, c139, c140, c141, c142, c143, c144, c145, c146, c147, c148, c149, c150, c151, c152, c153, c154, c155, c156, c157, u158, u159, u160, u161, u162, u163, u164, u165, u166, u167, u168, u169, u170, u171, u172, u173, u174, u175, u176, u177, u178, u179, u180, u181, u182, u183, u184, u185, u186, u187, u188, c189, c190, c191, c192, c193, c194, c195, c196, c197, c198, c199, c200, c201, c202, c203, c204, c205, c206, c207, c208], []⟩ (w1.alloc (.cells #[.int .u64 (x0 : Int), .int .u64 (y0 : Int), .int .u64 (x1 : Int), .int .u64 (y1 : Int), .int .u64 (x2 : Int), .int .u64 (y2 : Int), .int .u64 (x3 : Int), .int .u64 (y3 : Int), .int .u64 (h5 : Int), .int .u64 (l5 : Int), .int .u64 (x5 : Int), .int .u64 (y5 : Int), .int .u64 (x6 : Int), .int .u64 (y6 : Int), .int .u64 (x7 : Int), .int .u64 (y7 : Int), .int .u64 (x8 : Int), .int .u64 (y8 : Int), .int .u64 (x9 : Int), .int .u64 (y9 : Int)] 41))) :
    Code.wp Try.prog (reg17 23) Q ⟨#[c0, c1, c2, c3, c4, c5, c6, c7, c8, .int .i64 (W : Int), .int .i64 (X : Int), c11, c12, c13, c14, c15, .int .i64 (K : Int), c17, c18, c19, c20, .pointer (some ⟨g0, 0, none⟩), .pointer (some ⟨g1, 0, none⟩), .pointer (some ⟨g2, 0, none⟩), .pointer (some ⟨g3, 0, none⟩), c25, c26, c27, c28, c29, c30, c31, c32, c33, c34, c35, c36, c37, c38, c39, c40, c41, c42, c43, c44, c45, c46, c47, c48, c49, c50, c51, c52, c53, c54, c55, c56, c57, c58, c59, c60, c61, c62, c63, c64, c65, c66, c67, c68, c69, c70, c71, c72, c73, c74, c75, c76, c77, c78, c79, c80, c81, c82, c83, c84, c85, c86, c87, c88, c89, c90, c91, c92, c93, c94, c95, c96, c97, c98, c99, c100, c101, c102, c103, c104, c105, c106, c107, c108, c109, c110, c111, c112, c113, c114, c115, c116, c117, c118, c119, c120, c121, c122, c123, c124, c125, c126, c127, c128, c129, c130, c131, c132, c133, c134, c135, c136, c137, c138, c139, c140, c141, c142, c143, c144, c145, c146, c147, c148, c149, c150, c151, c152, c153, c154, c155, c156, c157, c158, c159, c160, c161, c162, c163, c164, c165, c166, c167, c168, c169, c170, c171, c172, c173, c174, c175, c176, c177, c178, c179, c180, c181, c182, c183, c184, c185, c186, c187, c188, c189, c190, c191, c192, c193, c194, c195, c196, c197, c198, c199, c200, c201, c202, c203, c204, c205, c206, c207, c208], []⟩ WC := by
  dsimp only at hexit ⊢
  conv => arg 2; whnf
  have HEX := Lib.hid hexit
  clear hexit
  obtain ⟨k0, k1, k2, k3, k4, k5, k6, k7, -⟩ := hS
  go_region_held3 (fun w' => w'.cell? ⟨g0, 0, none⟩ = some (.int .u64 (h2 : Int)) ∧ w'.cell? ⟨g0, 1, none⟩ = some (.int .u64 (l2 : Int)) ∧ w'.cell? ⟨g1, 0, none⟩ = some (.int .u64 (h3 : Int)) ∧ w'.cell? ⟨g1, 1, none⟩ = some (.int .u64 (l3 : Int)) ∧ w'.cell? ⟨g2, 0, none⟩ = some (.int .u64 (h4 : Int)) ∧ w'.cell? ⟨g2, 1, none⟩ = some (.int .u64 (l4 : Int)) ∧ w'.cell? ⟨g3, 0, none⟩ = some (.int .u64 (h5 : Int)) ∧ w'.cell? ⟨g3, 1, none⟩ = some (.int .u64 (l5 : Int)) ∧ Below WC.heap.size WC w')
    (first | exact ⟨k0, k1, k2, k3, k4, k5, k6, k7, below_drewN (Below.refl _ _) 1⟩ | exact held23 hb1 (by assumption) | exact held23 ((Below.refl _ _).alloc (Nat.le_refl _) _) (by assumption))
    (first
      | (go_at_call 32; (with_reducible refine (HC0.out _).mono ?_); rintro e w1 ⟨rfl, hb1⟩)
      | (go_at_call 33; (with_reducible refine (HC1.out _).mono ?_); rintro e w1 ⟨rfl, hb1⟩)
      | (go_at_call 34; (with_reducible refine (HC2.out _).mono ?_); rintro e w1 ⟨rfl, hb1⟩)
      | (go_at_call 35; (with_reducible refine (HC3.out _).mono ?_); rintro e w1 ⟨rfl, hb1⟩)
      | (go_at_call 36; (with_reducible refine (HC5.out _).mono ?_); rintro e w1 ⟨rfl, hb1⟩)
      | (go_at_call 37; (with_reducible refine (HC6.out _).mono ?_); rintro e w1 ⟨rfl, hb1⟩)
      | (go_at_call 38; (with_reducible refine (HC7.out _).mono ?_); rintro e w1 ⟨rfl, hb1⟩)
      | (go_at_call 39; (with_reducible refine (HC8.out _).mono ?_); rintro e w1 ⟨rfl, hb1⟩)
      | (go_at_call 31; (with_reducible refine (HC9.out _).mono ?_); rintro e w1 ⟨rfl, hb1⟩))
  apply HEX.out
  rename_i hh
  exact hh.2.2.2.2.2.2.2.2

end Go.Proofs.Ytlnkflmnjkmhkaa

/-
  The law SymbvMeans of layer 17: the loop that compares.
-/
namespace Go.Proofs.Ytlnkflmnjkmhkaa
open Go.RowKit Go.Maps

noncomputable def loopBody (n : Nat) : Code → Option Code
  | .loop c => if (findRegion n c).isSome then (match loopBody n c with | some d => some d | none => some c) else none
  | .seq a b => match loopBody n a with
    | some c => some c
    | none => loopBody n b
  | .block _ c => loopBody n c
  | .scope c => loopBody n c
  | .cond _ a b => match loopBody n a with
    | some c => some c
    | none => loopBody n b
  | _ => none
noncomputable def body25 : Code := (Try.f4.body.bind (loopBody 25)).getD .skip

theorem heldL {WD W w1 : World} {mb d k : Nat} {v a c : Value} (hb : Below W.heap.size W w1) (h : W.cell? ⟨mb, k, none⟩ = some v ∧ W.cell? ⟨d, k * 2, none⟩ = some a ∧ W.cell? ⟨d, k * 2 + 1, none⟩ = some c ∧ Below WD.heap.size WD W) :
    w1.cell? ⟨mb, k, none⟩ = some v ∧ w1.cell? ⟨d, k * 2, none⟩ = some a ∧ w1.cell? ⟨d, k * 2 + 1, none⟩ = some c ∧ Below WD.heap.size WD w1 := by
  obtain ⟨q0, q1, q2, q3⟩ := h
  exact ⟨(hb.cell (cell_there q0).1).trans q0, (hb.cell (cell_there q1).1).trans q1, (hb.cell (cell_there q2).1).trans q2, q3.trans (hb.mono q3.size)⟩
theorem heldB {WD W : World} {mb d k : Nat} {v a c : Value} (h : W.cell? ⟨mb, k, none⟩ = some v ∧ W.cell? ⟨d, k * 2, none⟩ = some a ∧ W.cell? ⟨d, k * 2 + 1, none⟩ = some c ∧ Below WD.heap.size WD W) : Below WD.heap.size WD W := h.2.2.2

set_option maxRecDepth 100000 in
set_option maxHeartbeats 3000000 in
theorem loop3 (b mb g M d : Nat) (mk : Nat → Value) (x y : Nat → Nat) (WD : World)
    (HM : Hid (∀ i, i < 10 → WD.cell? ⟨mb, i, none⟩ = some (mk i)))
    (HE : Hid (∀ i, i < 10 → ∀ W', Below WD.heap.size WD W' → Calls Try.prog 40 #[.pointer (some ⟨b, 0, none⟩), mk i, .slice (some ⟨g, 0, none⟩) M M] W' fun e w' => e = .returned (.agg #[.int .u64 (x i : Int), .int .u64 (y i : Int)]) ∧ Below W'.heap.size W' w'))
    (HD : Hid (∀ i, i < 10 → WD.cell? ⟨d, i * 2, none⟩ = some (.int .u64 (x i : Int)) ∧ WD.cell? ⟨d, i * 2 + 1, none⟩ = some (.int .u64 (y i : Int))))
    (c0 c1 c2 c3 c4 c5 c6 c7 c9 c10 c12 c13 c14 c15 c16 c18 c20 c21 c22 c23 c24 c26 c27 c28 c29 c30 c31 c32 c33 c34 c35 c36 c37 c38 c39 c40 c41 c42 c43 c44 c45 c46 c47 c48 c49 c50 c51 c52 c53 c54 c55 c56 c57 c58 c59 c60 c61 c62 c63 c64 c65 c66 c67 c68 c69 c70 c71 c72 c73 c74 c75 c76 c77 c78 c79 c80 c81 c82 c83 c84 c85 c86 c87 c88 c89 c90 c91 c92 c93 c94 c95 c96 c97 c98 c99 c100 c101 c102 c103 c104 c105 c106 c107 c108 c109 c110 c111 c112 c113 c114 c115 c116 c117 c118 c119 c120 c121 c122 c123 c124 c125 c126 c127 c128 c129 c130 c131 c132 c133 c134 c135 c136 c137 c138 c139 c140 c141 c142 c143 c144 c145 c146 c147 c148 c149 c150 c151 c152 c153 c154 c155 c156 c157 c158 c159 c160 c161 c162 c163 c164 c165 c166 c167 c168 c169 c170 c171 c172 c173 c174 c175 c176 c177 c178 c179 c180 c181 c182 c183 c184 c185 c186 c187 c188 c189 c192 c193 c194 c195 c196 c197 c198 c199 c200 c201 c202 c203 c204 c205 c206 c207 c208 : Value) (Q : Exit → Act → World → Prop)
    (hexit : ∀ (u26 u191 u192 u193 u194 u195 u196 u197 u198 u199 u200 u201 u202 u203 u204 u205 u206 : Value) (w' : World), Below WD.heap.size WD w' → Q (.exit 4) ⟨#[c0, c1, c2, c3, c4, c5, c6, c7, .bool false, c9, c10, .pointer (some ⟨b, 0, none⟩), c12, c13, c14, c15, c16, .slice (some ⟨mb, 0, none⟩) 10 10, c18, .slice (some ⟨g, 0, none⟩) M M, c20, c21, c22, c23, c24, .slice (some ⟨d, 0, none⟩) 10 10, u26, c27, c28, c29, c30, c31, c32, c33, c34, c35, c36, c37, c38, c39, c40, c41, c42, c43, c44, c45, c46, c47, c48, c49, c50, c51, c52, c53, c54, c55, c56, c57, c58, c59, c60, c61, c62, c63, c64, c65, c66, c67, c68, c69, c70, c71, c72, c73, c74, c75, c76, c77, c78, c79, c80, c81, c82, c83, c84, c85, c86, c87, c88, c89, c90, c91, c92, c93, c94, c95, c96, c97, c98, c99, c100, c101, c102, c103, c104, c105, c106, c107, c108, c109, c110, c111, c112, c113, c114, c115, c116, c117, c118, c119, c120, c121, c122, c123, c124, c125, c126, c127, c128, c129, c130, c131, c132, c133, c134, c135, c136, c137, c138, c139, c140, c141, c142, c143, c144, c145, c146, c147, c148, c149, c150, c151, c152, c153, c154, c155, c156, c157, c158, c159, c160, c161, c162, c163, c164, c165, c166, c167, c168, c169, c170, c171, c172, c173, c174, c175, c176, c177, c178, c179, c180, c181, c182, c183, c184, c185, c186, c187, c188, c189, .int .i64 10, u191, u192, u193, u194, u195, u196, u197, u198, u199, u200, u201, u202, u203, u204, u205, u206, c207, c208], []⟩ w') :
    Code.wp Try.prog (Code.loop body25) Q ⟨#[c0, c1, c2, c3, c4, c5, c6, c7, .bool false, c9, c10, .pointer (some ⟨b, 0, none⟩), c12, c13, c14, c15, c16, .slice (some ⟨mb, 0, none⟩) 10 10, c18, .slice (some ⟨g, 0, none⟩) M M, c20, c21, c22, c23, c24, .slice (some ⟨d, 0, none⟩) 10 10, c26, c27, c28, c29, c30, c31, c32, c33, c34, c35, c36, c37, c38, c39, c40, c41, c42, c43, c44, c45, c46, c47, c48, c49, c50, c51, c52, c53, c54, c55, c56, c57, c58, c59, c60, c61, c62, c63, c64, c65, c66, c67, c68, c69, c70, c71, c72, c73, c74, c75, c76, c77, c78, c79, c80, c81, c82, c83, c84, c85, c86, c87, c88, c89, c90, c91, c92, c93, c94, c95, c96, c97, c98, c99, c100, c101, c102, c103, c104, c105, c106, c107, c108, c109, c110, c111, c112, c113, c114, c115, c116, c117, c118, c119, c120, c121, c122, c123, c124, c125, c126, c127, c128, c129, c130, c131, c132, c133, c134, c135, c136, c137, c138, c139, c140, c141, c142, c143, c144, c145, c146, c147, c148, c149, c150, c151, c152, c153, c154, c155, c156, c157, c158, c159, c160, c161, c162, c163, c164, c165, c166, c167, c168, c169, c170, c171, c172, c173, c174, c175, c176, c177, c178, c179, c180, c181, c182, c183, c184, c185, c186, c187, c188, c189, .int .i64 10, .int .i64 0, c192, c193, c194, c195, c196, c197, c198, c199, c200, c201, c202, c203, c204, c205, c206, c207, c208], []⟩ WD := by
  dsimp only at hexit ⊢
  conv => arg 2; arg 1; whnf
  have HEX := Lib.hid hexit
  clear hexit
  go_loopw [8, 191] (fun z i wr => ∃ k : Nat, k ≤ 10 ∧ z = .bool false ∧ i = .int .i64 k ∧ Hid (Below WD.heap.size WD wr)) (fun _ i _ => 10 - (intOf i).toNat)
  case atStart => exact ⟨0, Nat.zero_le _, rfl, rfl, Below.refl _ _⟩
  case round =>
    obtain ⟨k, hk, rfl, rfl, HB⟩ := hrel
    by_cases hlt : k < 10
    · have q0 := HM.out k hlt
      obtain ⟨q1, q2⟩ := HD.out k hlt
      have HC : Hid (∀ W', Below WD.heap.size WD W' → Calls Try.prog 40 #[.pointer (some ⟨b, 0, none⟩), mk k, .slice (some ⟨g, 0, none⟩) M M] W' fun e w' => e = .returned (.agg #[.int .u64 (x k : Int), .int .u64 (y k : Int)]) ∧ Below W'.heap.size W' w') := HE.out k hlt
      have r0 := (HB.out.cell (p := ⟨mb, k, none⟩) (cell_there q0).1).trans q0
      have r1 := (HB.out.cell (p := ⟨d, k * 2, none⟩) (cell_there q1).1).trans q1
      have r2 := (HB.out.cell (p := ⟨d, k * 2 + 1, none⟩) (cell_there q2).1).trans q2
      clear q0 q1 q2
      generalize mk k = v at *
      generalize x k = xx at *
      generalize y k = yy at *
      go_wp2_with fail
      go_region_held3 (fun w' => w'.cell? ⟨mb, k, none⟩ = some v ∧ w'.cell? ⟨d, k * 2, none⟩ = some (.int .u64 (xx : Int)) ∧ w'.cell? ⟨d, k * 2 + 1, none⟩ = some (.int .u64 (yy : Int)) ∧ Below WD.heap.size WD w')
        (first | exact ⟨r0, r1, r2, below_drewN HB.out 1⟩ | exact heldL hb1 (by assumption))
        (first
          | (go_at_call 40; (with_reducible refine (HC.out _ (heldB (by assumption))).mono ?_); rintro e w1 ⟨rfl, hb1⟩))
      rename_i hh
      have HF := Lib.hid hh.2.2.2
      clear hh
      go_wp2_with fail
      go_roundw
      case rel => exact ⟨k + 1, by omega, rfl, by go_num, HF⟩
      case measure => simp [intOf]; omega
    · obtain rfl : k = 10 := by omega
      go_wp2_with fail
      apply HEX.out
      exact HB.out

end Go.Proofs.Ytlnkflmnjkmhkaa

/-
  The law SymopMeans of layer 18: the loop that compares.
-/
namespace Go.Proofs.Ytlnkflmnjkmhkaa
open Go.RowKit Go.Maps

noncomputable def body18c : Code := (Try.f6.body.bind (loopBody 24)).getD .skip

set_option maxRecDepth 100000 in
set_option maxHeartbeats 3000000 in
theorem loop3s (b mb g M d : Nat) (mk : Nat → Value) (x y : Nat → Nat) (WD : World)
    (HM : Hid (∀ i, i < 8 → WD.cell? ⟨mb, i, none⟩ = some (mk i)))
    (HE : Hid (∀ i, i < 8 → ∀ W', Below WD.heap.size WD W' → Calls Try.prog 40 #[.pointer (some ⟨b, 0, none⟩), mk i, .slice (some ⟨g, 0, none⟩) M M] W' fun e w' => e = .returned (.agg #[.int .u64 (x i : Int), .int .u64 (y i : Int)]) ∧ Below W'.heap.size W' w'))
    (HD : Hid (∀ i, i < 8 → WD.cell? ⟨d, i * 2, none⟩ = some (.int .u64 (x i : Int)) ∧ WD.cell? ⟨d, i * 2 + 1, none⟩ = some (.int .u64 (y i : Int))))
    (c0 c1 c2 c3 c4 c5 c7 c8 c10 c11 c12 c13 c15 c17 c18 c19 c20 c22 c23 c24 c25 c26 c27 c28 c29 c30 c31 c32 c33 c34 c35 c36 c37 c38 c39 c40 c41 c42 c43 c44 c45 c46 c47 c48 c49 c50 c51 c52 c53 c54 c55 c56 c57 c58 c59 c60 c61 c62 c63 c64 c65 c66 c67 c68 c69 c70 c71 c72 c73 c74 c75 c76 c77 c78 c79 c80 c81 c82 c83 c84 c85 c86 c87 c88 c89 c90 c91 c92 c93 c94 c95 c96 c97 c98 c99 c100 c101 c102 c103 c104 c105 c106 c107 c108 c109 c110 c111 c112 c113 c114 c115 c116 c117 c118 c119 c120 c121 c122 c123 c124 c125 c126 c127 c128 c129 c130 c131 c132 c133 c134 c135 c136 c137 c138 c139 c140 c141 c142 c143 c144 c145 c146 c147 c148 c149 c150 c151 c152 c153 c154 c155 c156 c157 c158 c159 c160 c161 c162 c163 c164 c165 c166 c167 c168 c169 c170 c171 c172 c175 c176 c177 c178 c179 c180 c181 c182 c183 c184 c185 c186 c187 c188 c189 c190 c191 : Value) (Q : Exit → Act → World → Prop)
    (hexit : ∀ (u22 u174 u175 u176 u177 u178 u179 u180 u181 u182 u183 u184 u185 u186 u187 u188 u189 : Value) (w' : World), Below WD.heap.size WD w' → Q (.exit 4) ⟨#[c0, c1, c2, c3, c4, c5, .bool false, c7, c8, .pointer (some ⟨b, 0, none⟩), c10, c11, c12, c13, .slice (some ⟨mb, 0, none⟩) 8 8, c15, .slice (some ⟨g, 0, none⟩) M M, c17, c18, c19, c20, .slice (some ⟨d, 0, none⟩) 8 8, u22, c23, c24, c25, c26, c27, c28, c29, c30, c31, c32, c33, c34, c35, c36, c37, c38, c39, c40, c41, c42, c43, c44, c45, c46, c47, c48, c49, c50, c51, c52, c53, c54, c55, c56, c57, c58, c59, c60, c61, c62, c63, c64, c65, c66, c67, c68, c69, c70, c71, c72, c73, c74, c75, c76, c77, c78, c79, c80, c81, c82, c83, c84, c85, c86, c87, c88, c89, c90, c91, c92, c93, c94, c95, c96, c97, c98, c99, c100, c101, c102, c103, c104, c105, c106, c107, c108, c109, c110, c111, c112, c113, c114, c115, c116, c117, c118, c119, c120, c121, c122, c123, c124, c125, c126, c127, c128, c129, c130, c131, c132, c133, c134, c135, c136, c137, c138, c139, c140, c141, c142, c143, c144, c145, c146, c147, c148, c149, c150, c151, c152, c153, c154, c155, c156, c157, c158, c159, c160, c161, c162, c163, c164, c165, c166, c167, c168, c169, c170, c171, c172, .int .i64 8, u174, u175, u176, u177, u178, u179, u180, u181, u182, u183, u184, u185, u186, u187, u188, u189, c190, c191], []⟩ w') :
    Code.wp Try.prog (Code.loop body18c) Q ⟨#[c0, c1, c2, c3, c4, c5, .bool false, c7, c8, .pointer (some ⟨b, 0, none⟩), c10, c11, c12, c13, .slice (some ⟨mb, 0, none⟩) 8 8, c15, .slice (some ⟨g, 0, none⟩) M M, c17, c18, c19, c20, .slice (some ⟨d, 0, none⟩) 8 8, c22, c23, c24, c25, c26, c27, c28, c29, c30, c31, c32, c33, c34, c35, c36, c37, c38, c39, c40, c41, c42, c43, c44, c45, c46, c47, c48, c49, c50, c51, c52, c53, c54, c55, c56, c57, c58, c59, c60, c61, c62, c63, c64, c65, c66, c67, c68, c69, c70, c71, c72, c73, c74, c75, c76, c77, c78, c79, c80, c81, c82, c83, c84, c85, c86, c87, c88, c89, c90, c91, c92, c93, c94, c95, c96, c97, c98, c99, c100, c101, c102, c103, c104, c105, c106, c107, c108, c109, c110, c111, c112, c113, c114, c115, c116, c117, c118, c119, c120, c121, c122, c123, c124, c125, c126, c127, c128, c129, c130, c131, c132, c133, c134, c135, c136, c137, c138, c139, c140, c141, c142, c143, c144, c145, c146, c147, c148, c149, c150, c151, c152, c153, c154, c155, c156, c157, c158, c159, c160, c161, c162, c163, c164, c165, c166, c167, c168, c169, c170, c171, c172, .int .i64 8, .int .i64 0, c175, c176, c177, c178, c179, c180, c181, c182, c183, c184, c185, c186, c187, c188, c189, c190, c191], []⟩ WD := by
  dsimp only at hexit ⊢
  conv => arg 2; arg 1; whnf
  have HEX := Lib.hid hexit
  clear hexit
  go_loopw [6, 174] (fun z i wr => ∃ k : Nat, k ≤ 8 ∧ z = .bool false ∧ i = .int .i64 k ∧ Hid (Below WD.heap.size WD wr)) (fun _ i _ => 8 - (intOf i).toNat)
  case atStart => exact ⟨0, Nat.zero_le _, rfl, rfl, Below.refl _ _⟩
  case round =>
    obtain ⟨k, hk, rfl, rfl, HB⟩ := hrel
    by_cases hlt : k < 8
    · have q0 := HM.out k hlt
      obtain ⟨q1, q2⟩ := HD.out k hlt
      have HC : Hid (∀ W', Below WD.heap.size WD W' → Calls Try.prog 40 #[.pointer (some ⟨b, 0, none⟩), mk k, .slice (some ⟨g, 0, none⟩) M M] W' fun e w' => e = .returned (.agg #[.int .u64 (x k : Int), .int .u64 (y k : Int)]) ∧ Below W'.heap.size W' w') := HE.out k hlt
      have r0 := (HB.out.cell (p := ⟨mb, k, none⟩) (cell_there q0).1).trans q0
      have r1 := (HB.out.cell (p := ⟨d, k * 2, none⟩) (cell_there q1).1).trans q1
      have r2 := (HB.out.cell (p := ⟨d, k * 2 + 1, none⟩) (cell_there q2).1).trans q2
      clear q0 q1 q2
      generalize mk k = v at *
      generalize x k = xx at *
      generalize y k = yy at *
      go_wp2_with fail
      go_region_held3 (fun w' => w'.cell? ⟨mb, k, none⟩ = some v ∧ w'.cell? ⟨d, k * 2, none⟩ = some (.int .u64 (xx : Int)) ∧ w'.cell? ⟨d, k * 2 + 1, none⟩ = some (.int .u64 (yy : Int)) ∧ Below WD.heap.size WD w')
        (first | exact ⟨r0, r1, r2, below_drewN HB.out 1⟩ | exact heldL hb1 (by assumption))
        (first
          | (go_at_call 40; (with_reducible refine (HC.out _ (heldB (by assumption))).mono ?_); rintro e w1 ⟨rfl, hb1⟩))
      rename_i hh
      have HF := Lib.hid hh.2.2.2
      clear hh
      go_wp2_with fail
      go_roundw
      case rel => exact ⟨k + 1, by omega, rfl, by go_num, HF⟩
      case measure => simp [intOf]; omega
    · obtain rfl : k = 8 := by omega
      go_wp2_with fail
      apply HEX.out
      exact HB.out

end Go.Proofs.Ytlnkflmnjkmhkaa
