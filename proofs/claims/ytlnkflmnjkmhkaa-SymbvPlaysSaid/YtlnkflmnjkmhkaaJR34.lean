/-
  The law SymbvMeans of layer 17: the loop over the bits, joined.
-/
import Derived.Test.YtlnkflmnjkmhkaaJR32
import Derived.Test.YtlnkflmnjkmhkaaJR23
import Derived.Test.YtlnkflmnjkmhkaaJR33

namespace Go.Proofs.Ytlnkflmnjkmhkaa
open Go.RowKit Go.Maps

def mten (W X K n : Nat) : Nat → (Int → Bool) → Nat
  | 0 => m1 W n
  | 1 => m2 W X
  | 2 => m3 W n
  | 3 => m4 W
  | 4 => m5 W X n
  | 5 => m6 W X
  | 6 => m7 W K
  | 7 => m8 W K
  | 8 => m9 n K
  | _ => m10 W K
def mref (W X K R P Q : Nat) (odd : Bool) : Nat → Nat
  | 0 => P &&& R
  | 1 => P ||| Q
  | 2 => P ^^^ R
  | 3 => (P % 2 ^ sh (W : Int)) ^^^ (2 ^ sh (W : Int) - 1)
  | 4 => if odd then P else R
  | 5 => catN P Q (X : Int)
  | 6 => P * 2 ^ sh (K : Int) % (B * B) % 2 ^ sh (W : Int)
  | 7 => P / 2 ^ sh (K : Int)
  | 8 => sliceN R 5 (K : Int)
  | _ => P % 2 ^ sh (K : Int)
theorem mten_bits (W X K n k i : Nat) (hX : 1 ≤ X) (hk : k < 2 ^ (W + X)) : mten W X K n i (qOf (bitsOf (W + X) k)) = mref W X K (n % 2 ^ sh 6) (k / 2 ^ X) (k % 2 ^ X) (k % 2 == 1) i := by
  match i with
  | 0 => show m1 W n _ = _; unfold m1; rw [pN_bits W X k hk]; rfl
  | 1 => show m2 W X _ = _; unfold m2; rw [pN_bits W X k hk, kN_bits]; rfl
  | 2 => show m3 W n _ = _; unfold m3; rw [pN_bits W X k hk]; rfl
  | 3 => show m4 W _ = _; unfold m4; rw [pN_bits W X k hk]; rfl
  | 4 => show m5 W X n _ = _; unfold m5; rw [pN_bits W X k hk, sel5_bits W X k hX]; rfl
  | 5 => show m6 W X _ = _; unfold m6; rw [pN_bits W X k hk, kN_bits]; rfl
  | 6 => show m7 W K _ = _; unfold m7; rw [pN_bits W X k hk]; rfl
  | 7 => show m8 W K _ = _; unfold m8; rw [pN_bits W X k hk]; rfl
  | 8 => rfl
  | i + 9 => show m10 W K _ = _; unfold m10; rw [pN_bits W X k hk]; rfl

def seq10 (x0 x1 x2 x3 x4 x5 x6 x7 x8 x9 : Nat) : Nat → Nat
  | 0 => x0 | 1 => x1 | 2 => x2 | 3 => x3 | 4 => x4 | 5 => x5 | 6 => x6 | 7 => x7 | 8 => x8 | _ => x9

set_option maxRecDepth 100000 in
set_option maxHeartbeats 3000000 in
theorem loop17 (W X K nb b mb T n h1 l1 : Nat) (hW1 : 1 ≤ W) (hW4 : W ≤ 4) (hX1 : 1 ≤ X) (hX4 : X ≤ 4) (hK8 : K ≤ 8) (hT8 : T ≤ 256) (HT : Hid (T = 2 ^ (W + X))) (hn : n < B * B) (HNV : Hid (numV n = .agg #[.int .u64 (h1 : Int), .int .u64 (l1 : Int)]))
    (WB : World) (k0 : WB.cell? ⟨nb, 0, none⟩ = some (.int .u64 (h1 : Int))) (k1 : WB.cell? ⟨nb, 1, none⟩ = some (.int .u64 (l1 : Int)))
    (O : Nat → Prop) (s : BS) (HS : Hid (Sto WB b O s)) (mk : Nat → Value) (rs : Nat → List Int) (HM : Hid (∀ i, i < 10 → WB.cell? ⟨mb, i, none⟩ = some (mk i) ∧ IVec WB (mk i) (rs i) ∧ (rs i).length ≤ 128 ∧ ∀ q, evalV s.nodes q (rs i) = mten W X K n i q))
    (c0 c1 c2 c3 c4 c5 c7 c12 c13 c14 c15 c18 c19 c20 c21 c22 c23 c24 c25 c26 c27 c28 c29 c30 c31 c32 c33 c34 c35 c36 c37 c38 c39 c40 c41 c42 c43 c44 c45 c46 c47 c48 c49 c50 c51 c52 c53 c54 c55 c56 c57 c58 c59 c60 c61 c62 c63 c64 c65 c66 c67 c68 c69 c70 c71 c72 c73 c74 c75 c76 c77 c78 c79 c80 c81 c82 c83 c84 c85 c86 c87 c88 c89 c90 c91 c92 c93 c94 c95 c96 c97 c98 c99 c100 c101 c102 c103 c104 c105 c106 c107 c108 c109 c110 c111 c112 c115 c116 c117 c118 c119 c120 c121 c122 c123 c124 c125 c126 c127 c128 c129 c130 c131 c132 c133 c134 c135 c136 c137 c138 c139 c140 c141 c142 c143 c144 c145 c146 c147 c148 c149 c150 c151 c152 c153 c154 c155 c156 c157 c158 c159 c160 c161 c162 c163 c164 c165 c166 c167 c168 c169 c170 c171 c172 c173 c174 c175 c176 c177 c178 c179 c180 c181 c182 c183 c184 c185 c186 c187 c188 c189 c190 c191 c192 c193 c194 c195 c196 c197 c198 c199 c200 c201 c202 c203 c204 c205 c206 c207 c208 : Value) (Q : Exit → Act → World → Prop)
    (hexit : ∀ (u18 u19 u20 u21 u22 u23 u24 u25 u26 u114 u115 u116 u117 u118 u119 u120 u121 u122 u123 u124 u125 u126 u127 u128 u129 u130 u131 u132 u133 u134 u135 u136 u137 u138 u139 u140 u141 u142 u143 u144 u145 u146 u147 u148 u149 u150 u151 u152 u153 u154 u155 u156 u157 u158 u159 u160 u161 u162 u163 u164 u165 u166 u167 u168 u169 u170 u171 u172 u173 u174 u175 u176 u177 u178 u179 u180 u181 u182 u183 u184 u185 u186 u187 u188 u189 u190 u191 u192 u193 u194 u195 u196 u197 u198 u199 u200 u201 u202 u203 u204 u205 u206 u207 : Value) (w' : World), Below WB.heap.size WB w' → Q (.exit 0) ⟨#[c0, c1, c2, c3, c4, c5, .pointer (some ⟨nb, 0, none⟩), c7, .bool false, .int .i64 (W : Int), .int .i64 (X : Int), .pointer (some ⟨b, 0, none⟩), c12, c13, c14, c15, .int .i64 (K : Int), .slice (some ⟨mb, 0, none⟩) 10 10, u18, u19, u20, u21, u22, u23, u24, u25, u26, c27, c28, c29, c30, c31, c32, c33, c34, c35, c36, c37, c38, c39, c40, c41, c42, c43, c44, c45, c46, c47, c48, c49, c50, c51, c52, c53, c54, c55, c56, c57, c58, c59, c60, c61, c62, c63, c64, c65, c66, c67, c68, c69, c70, c71, c72, c73, c74, c75, c76, c77, c78, c79, c80, c81, c82, c83, c84, c85, c86, c87, c88, c89, c90, c91, c92, c93, c94, c95, c96, c97, c98, c99, c100, c101, c102, c103, c104, c105, c106, c107, c108, c109, c110, c111, c112, .int .i64 (T : Int), u114, u115, u116, u117, u118, u119, u120, u121, u122, u123, u124, u125, u126, u127, u128, u129, u130, u131, u132, u133, u134, u135, u136, u137, u138, u139, u140, u141, u142, u143, u144, u145, u146, u147, u148, u149, u150, u151, u152, u153, u154, u155, u156, u157, u158, u159, u160, u161, u162, u163, u164, u165, u166, u167, u168, u169, u170, u171, u172, u173, u174, u175, u176, u177, u178, u179, u180, u181, u182, u183, u184, u185, u186, u187, u188, u189, u190, u191, u192, u193, u194, u195, u196, u197, u198, u199, u200, u201, u202, u203, u204, u205, u206, u207, c208], []⟩ w') :
    Code.wp Try.prog (Code.loop body17) Q ⟨#[c0, c1, c2, c3, c4, c5, .pointer (some ⟨nb, 0, none⟩), c7, .bool false, .int .i64 (W : Int), .int .i64 (X : Int), .pointer (some ⟨b, 0, none⟩), c12, c13, c14, c15, .int .i64 (K : Int), .slice (some ⟨mb, 0, none⟩) 10 10, c18, c19, c20, c21, c22, c23, c24, c25, c26, c27, c28, c29, c30, c31, c32, c33, c34, c35, c36, c37, c38, c39, c40, c41, c42, c43, c44, c45, c46, c47, c48, c49, c50, c51, c52, c53, c54, c55, c56, c57, c58, c59, c60, c61, c62, c63, c64, c65, c66, c67, c68, c69, c70, c71, c72, c73, c74, c75, c76, c77, c78, c79, c80, c81, c82, c83, c84, c85, c86, c87, c88, c89, c90, c91, c92, c93, c94, c95, c96, c97, c98, c99, c100, c101, c102, c103, c104, c105, c106, c107, c108, c109, c110, c111, c112, .int .i64 (T : Int), .int .i64 0, c115, c116, c117, c118, c119, c120, c121, c122, c123, c124, c125, c126, c127, c128, c129, c130, c131, c132, c133, c134, c135, c136, c137, c138, c139, c140, c141, c142, c143, c144, c145, c146, c147, c148, c149, c150, c151, c152, c153, c154, c155, c156, c157, c158, c159, c160, c161, c162, c163, c164, c165, c166, c167, c168, c169, c170, c171, c172, c173, c174, c175, c176, c177, c178, c179, c180, c181, c182, c183, c184, c185, c186, c187, c188, c189, c190, c191, c192, c193, c194, c195, c196, c197, c198, c199, c200, c201, c202, c203, c204, c205, c206, c207, c208], []⟩ WB := by
  dsimp only at hexit ⊢
  conv => arg 2; arg 1; whnf
  have HEX := Lib.hid hexit
  clear hexit
  obtain ⟨N, hNe, hN⟩ : ∃ N : Nat, N = W + X ∧ (W : Int) + (X : Int) = (N : Int) := ⟨W + X, rfl, by omega⟩
  have HN := Lib.hid hN
  have HNE := Lib.hid hNe
  have hN8 : N ≤ 8 := by omega
  clear hN hNe
  go_loopw [8, 114] (fun z i wr => ∃ k : Nat, k ≤ T ∧ z = .bool false ∧ i = .int .i64 k ∧ Hid (Below WB.heap.size WB wr)) (fun _ i _ => T - (intOf i).toNat)
  case atStart => exact ⟨0, Nat.zero_le _, rfl, rfl, Below.refl _ _⟩
  case round =>
    obtain ⟨k, hk, rfl, rfl, HB⟩ := hrel
    by_cases hlt : k < T
    · obtain ⟨i0, hi, hz0, hz1, hz2⟩ := info_parts infoBool17
      go_wp2_with (first
        | (at_make; go_loud((refine wpList_make_row _ rfl _ _ 58 rfl 4 i0 (.bool false) Try.underlying58 hi hz0 hz1 rfl .i64 .i64 N (by show Value.int .i64 ((W : Int) + (X : Int)) = _; rw [HN.out]) (by show Value.int .i64 ((W : Int) + (X : Int)) = _; rw [HN.out]) (by rw [hz2]; omega) (by omega) ?_))))
      have HF : Hid (FillAt WB wr.heap.size N k 0 (wr.alloc (.cells (madeCells #[.bool false] N) 4))) := FillAt.start HB.out
      generalize wr.heap.size = g at *
      generalize wr.alloc (.cells (madeCells #[.bool false] N) 4) = w1 at *
      go_loopw [123] (fun i w2 => ∃ j : Nat, j ≤ N ∧ i = .int .i64 j ∧ Hid (FillAt WB g N k j w2)) (fun i _ => N - (intOf i).toNat)
      case atStart => exact ⟨0, Nat.zero_le _, rfl, HF⟩
      case round =>
        obtain ⟨j, hj, rfl, HFJ⟩ := hrel
        by_cases hlj : j < N
        · obtain ⟨q1, q2⟩ := HFJ.out.2.2.2 j hlj
          have hlj' : j < W + X := by rw [← HNE.out]; exact hlj
          go_wp2_with fail
          go_roundw
          case rel => exact ⟨j + 1, by omega, by go_num, HFJ.out.step hlj _ (by rw [bit_i64 _ _ (by omega), HNE.out])⟩
          case measure => simp [intOf]; omega
        · obtain rfl : j = N := by omega
          have HBV : Hid (BVec wr (.slice (some ⟨g, 0, none⟩) j j) (bitsOf j k)) := HFJ.out.bvec hN8
          have HBF : Hid (Below WB.heap.size WB wr) := HFJ.out.1
          have z0 := (HBF.out.cell (p := ⟨nb, 0, none⟩) (cell_there k0).1).trans k0
          have z1 := (HBF.out.cell (p := ⟨nb, 1, none⟩) (cell_there k1).1).trans k1
          have hkT : Hid (k < 2 ^ (W + X)) := by rw [← HT.out]; exact hlt
          obtain ⟨a, haE⟩ : ∃ a, a = k / 2 ^ X := ⟨_, rfl⟩
          obtain ⟨m, hmE⟩ : ∃ m, m = 2 ^ X := ⟨_, rfl⟩
          obtain ⟨c, hcE⟩ : ∃ c, c = k % 2 ^ X := ⟨_, rfl⟩
          obtain ⟨r, hrE⟩ : ∃ r, r = n % 2 ^ sh 6 := ⟨_, rfl⟩
          have ha : a ≤ 256 := by rw [haE]; have := Nat.div_le_self k (2 ^ X); omega
          have hc : c ≤ 256 := by rw [hcE]; have := Nat.mod_le k (2 ^ X); omega
          have hmX : m ≤ 16 ∧ 1 ≤ m := by rw [hmE]; rcases (by omega : X = 1 ∨ X = 2 ∨ X = 3 ∨ X = 4) with rfl | rfl | rfl | rfl <;> decide
          have HA : Hid ((k : Int) / 2 ^ X = (a : Int)) := by show _ = _; rw [haE, Int.natCast_ediv, Int.natCast_pow]; rfl
          have HMM : Hid (IntKind.i64.wrap (2 ^ X) = (m : Int)) := by show _ = _; rw [hmE]; rcases (by omega : X = 1 ∨ X = 2 ∨ X = 3 ∨ X = 4) with rfl | rfl | rfl | rfl <;> decide
          have HCC : Hid ((k : Int).tmod (m : Int) = (c : Int)) := by show _ = _; rw [hcE, hmE]; rfl
          have hPB : a < B * B := by unfold B; omega
          have hQB : c < B * B := by unfold B; omega
          have hRB : r < B * B := by rw [hrE]; exact Nat.lt_of_le_of_lt (Nat.mod_le _ _) hn
          have hmten : ∀ i, mten W X K n i (qOf (bitsOf j k)) = mref W X K r a c (k % 2 == 1) i := fun i => by rw [HNE.out, haE, hcE, hrE]; exact mten_bits W X K n k i hX1 hkT.out
          obtain ⟨h2, l2, e2, -, -⟩ := numV_parts a
          obtain ⟨h3, l3, e3, -, -⟩ := numV_parts c
          obtain ⟨h4, l4, e4, -, -⟩ := numV_parts r
          have HP : Hid (∀ W', Calls Try.prog 30 #[.int .u64 (a : Int)] W' fun e w' => e = .returned (.agg #[.int .u64 (h2 : Int), .int .u64 (l2 : Int)]) ∧ Below W'.heap.size W' w') := fun W' => by rw [← e2]; exact refOf_any a (by unfold B; omega) W'
          have HQ : Hid (∀ W', Calls Try.prog 30 #[.int .u64 (c : Int)] W' fun e w' => e = .returned (.agg #[.int .u64 (h3 : Int), .int .u64 (l3 : Int)]) ∧ Below W'.heap.size W' w') := fun W' => by rw [← e3]; exact refOf_any c (by unfold B; omega) W'
          have HR : Hid (∀ W', Calls Try.prog 31 #[.agg #[.int .u64 (h1 : Int), .int .u64 (l1 : Int)], .int .i64 6] W' fun e w' => e = .returned (.agg #[.int .u64 (h4 : Int), .int .u64 (l4 : Int)]) ∧ Below W'.heap.size W' w') := fun W' => by rw [← e4, ← HNV.out, hrE]; exact refCut_any n 6 hn W'
          obtain ⟨x0, y0, f0, -, -⟩ := numV_parts (mref W X K r a c (k % 2 == 1) 0)
          have HC0 : Hid (∀ W', Calls Try.prog 32 #[.agg #[.int .u64 (h2 : Int), .int .u64 (l2 : Int)], .agg #[.int .u64 (h4 : Int), .int .u64 (l4 : Int)]] W' fun e w' => e = .returned (.agg #[.int .u64 (x0 : Int), .int .u64 (y0 : Int)]) ∧ Below W'.heap.size W' w') := fun W' => by rw [← f0, ← e2, ← e4]; exact refAnd_any _ _ hPB hRB W'
          obtain ⟨x1, y1, f1, -, -⟩ := numV_parts (mref W X K r a c (k % 2 == 1) 1)
          have HC1 : Hid (∀ W', Calls Try.prog 33 #[.agg #[.int .u64 (h2 : Int), .int .u64 (l2 : Int)], .agg #[.int .u64 (h3 : Int), .int .u64 (l3 : Int)]] W' fun e w' => e = .returned (.agg #[.int .u64 (x1 : Int), .int .u64 (y1 : Int)]) ∧ Below W'.heap.size W' w') := fun W' => by rw [← f1, ← e2, ← e3]; exact refOr_any _ _ hPB hQB W'
          obtain ⟨x2, y2, f2, -, -⟩ := numV_parts (mref W X K r a c (k % 2 == 1) 2)
          have HC2 : Hid (∀ W', Calls Try.prog 34 #[.agg #[.int .u64 (h2 : Int), .int .u64 (l2 : Int)], .agg #[.int .u64 (h4 : Int), .int .u64 (l4 : Int)]] W' fun e w' => e = .returned (.agg #[.int .u64 (x2 : Int), .int .u64 (y2 : Int)]) ∧ Below W'.heap.size W' w') := fun W' => by rw [← f2, ← e2, ← e4]; exact refXor_any _ _ hPB hRB W'
          obtain ⟨x3, y3, f3, -, -⟩ := numV_parts (mref W X K r a c (k % 2 == 1) 3)
          have HC3 : Hid (∀ W', Calls Try.prog 35 #[.agg #[.int .u64 (h2 : Int), .int .u64 (l2 : Int)], .int .i64 (W : Int)] W' fun e w' => e = .returned (.agg #[.int .u64 (x3 : Int), .int .u64 (y3 : Int)]) ∧ Below W'.heap.size W' w') := fun W' => by rw [← f3, ← e2]; exact refNot_any _ _ hPB W'
          obtain ⟨x5, y5, f5, -, -⟩ := numV_parts (mref W X K r a c (k % 2 == 1) 5)
          have HC5 : Hid (∀ W', Calls Try.prog 36 #[.agg #[.int .u64 (h2 : Int), .int .u64 (l2 : Int)], .agg #[.int .u64 (h3 : Int), .int .u64 (l3 : Int)], .int .i64 (X : Int)] W' fun e w' => e = .returned (.agg #[.int .u64 (x5 : Int), .int .u64 (y5 : Int)]) ∧ Below W'.heap.size W' w') := fun W' => by rw [← f5, ← e2, ← e3]; exact refCat_any _ _ _ hPB hQB W'
          obtain ⟨x6, y6, f6, -, -⟩ := numV_parts (mref W X K r a c (k % 2 == 1) 6)
          have HC6 : Hid (∀ W', Calls Try.prog 37 #[.agg #[.int .u64 (h2 : Int), .int .u64 (l2 : Int)], .int .i64 (K : Int), .int .i64 (W : Int)] W' fun e w' => e = .returned (.agg #[.int .u64 (x6 : Int), .int .u64 (y6 : Int)]) ∧ Below W'.heap.size W' w') := fun W' => by rw [← f6, ← e2]; exact refShl_any _ _ _ hPB W'
          obtain ⟨x7, y7, f7, -, -⟩ := numV_parts (mref W X K r a c (k % 2 == 1) 7)
          have HC7 : Hid (∀ W', Calls Try.prog 38 #[.agg #[.int .u64 (h2 : Int), .int .u64 (l2 : Int)], .int .i64 (K : Int)] W' fun e w' => e = .returned (.agg #[.int .u64 (x7 : Int), .int .u64 (y7 : Int)]) ∧ Below W'.heap.size W' w') := fun W' => by rw [← f7, ← e2]; exact refShr_any _ _ hPB W'
          obtain ⟨x8, y8, f8, -, -⟩ := numV_parts (mref W X K r a c (k % 2 == 1) 8)
          have HC8 : Hid (∀ W', Calls Try.prog 39 #[.agg #[.int .u64 (h4 : Int), .int .u64 (l4 : Int)], .int .i64 5, .int .i64 (K : Int)] W' fun e w' => e = .returned (.agg #[.int .u64 (x8 : Int), .int .u64 (y8 : Int)]) ∧ Below W'.heap.size W' w') := fun W' => by rw [← f8, ← e4]; exact refSlice_any _ _ _ hRB W'
          obtain ⟨x9, y9, f9, -, -⟩ := numV_parts (mref W X K r a c (k % 2 == 1) 9)
          have HC9 : Hid (∀ W', Calls Try.prog 31 #[.agg #[.int .u64 (h2 : Int), .int .u64 (l2 : Int)], .int .i64 (K : Int)] W' fun e w' => e = .returned (.agg #[.int .u64 (x9 : Int), .int .u64 (y9 : Int)]) ∧ Below W'.heap.size W' w') := fun W' => by rw [← f9, ← e2]; exact refCut_any _ _ hPB W'
          have HFX := Lib.hid (And.intro f0 (And.intro f1 (And.intro f2 (And.intro f3 (And.intro f5 (And.intro f6 (And.intro f7 (And.intro f8 f9))))))))
          have HME := Lib.hid hmten
          have HE24 := Lib.hid (And.intro e2 e4)
          clear f0 f1 f2 f3 f5 f6 f7 f8 f9 hmten e2 e3 e4 haE hmE hcE hrE hPB hQB hRB HF HFJ
          go_wp2_with fail
          refine reg19 k X nb a m c h1 l1 h2 l2 h3 l3 h4 l4 (by omega) hX1 hX4 ha hmX.1 hmX.2 hc HA HMM HCC HP HQ HR _ (cell_there z0).1 z0 z1 _ _ _ _ _ _ _ _ _ _ _ _ _ _ _ _ _ _ _ _ _ _ _ _ _ _ _ _ _ _ _ _ _ _ _ _ _ _ _ _ _ _ _ _ _ _ _ _ _ _ _ _ _ _ _ _ _ _ _ _ _ _ _ _ _ _ _ _ _ _ _ _ _ _ _ _ _ _ _ _ _ _ _ _ _ _ _ _ _ _ _ _ _ _ _ _ _ _ _ _ _ _ _ _ _ _ _ _ _ _ _ _ _ _ _ _ _ _ _ _ _ _ _ _ _ _ _ _ _ _ _ _ _ _ _ _ _ _ _ _ _ _ _ _ _ _ _ _ _ _ _ _ _ _ _ _ _ _ _ _ _ _ _ _ _ _ _ _ _ _ _ _ _ _ _ _ _ _ _ _ _ _ _ _ _ _ _ _ _ _ _ _ _ _ _ _ _ _ _ _ _ _ _ _ _ _ _ ?_
          intro g0 g1 g2 w3 hG
          dsimp only
          obtain ⟨hB3, b0, b1, b2⟩ := hG.ends
          have HB3 : Hid (Below WB.heap.size WB w3) := HBF.out.trans (hB3.mono HBF.out.size)
          have HBV3 : Hid (BVec w3 (.slice (some ⟨g, 0, none⟩) j j) (bitsOf j k)) := HBV.out.below hB3
          have s0 := lt_of_block b0
          have s1 := lt_of_block b1
          have s2 := lt_of_block b2
          have c00 : w3.cell? ⟨g0, 0, none⟩ = some (.int .u64 (h2 : Int)) := by simp [World.cell?, b0]
          have c01 : w3.cell? ⟨g0, 1, none⟩ = some (.int .u64 (l2 : Int)) := by simp [World.cell?, b0]
          have c10 : w3.cell? ⟨g1, 0, none⟩ = some (.int .u64 (h3 : Int)) := by simp [World.cell?, b1]
          have c11 : w3.cell? ⟨g1, 1, none⟩ = some (.int .u64 (l3 : Int)) := by simp [World.cell?, b1]
          have c20 : w3.cell? ⟨g2, 0, none⟩ = some (.int .u64 (h4 : Int)) := by simp [World.cell?, b2]
          have c21 : w3.cell? ⟨g2, 1, none⟩ = some (.int .u64 (l4 : Int)) := by simp [World.cell?, b2]
          have hbit : (bits .and .i64 (k : Int) 1 == 1) = (k % 2 == 1) := bit_i64_small ⟨k, by omega⟩
          clear hG hB3 b0 b1 b2 HBV HBF z0 z1 HP HQ HR HA HMM HCC hmX ha hc
          cases hodd : (k % 2 == 1)
          · rw [hodd] at hbit
            have HODD := Lib.hid hodd
            clear hodd
            go_wp2_with fail
            have HCL : Hid (Below w3.heap.size w3 (w3.alloc (.cells #[.int .u64 (h4 : Int), .int .u64 (l4 : Int)] 41))) := by show Below _ _ _; exact (by repeat (first | exact Below.refl _ _ | assumption | refine Below.drew ?_ | refine Below.alloc ?_ (by first | omega | (simp <;> omega)) _ | refine Below.setCell ?_ (by first | omega | (simp <;> omega)) _ | refine Below.trans ?_ (Below.mono (by assumption) (by first | omega | (simp <;> omega)))))
            have HCG : Hid (BVec (w3.alloc (.cells #[.int .u64 (h4 : Int), .int .u64 (l4 : Int)] 41)) (.slice (some ⟨g, 0, none⟩) j j) (bitsOf j k)) := HBV3.out.below HCL.out
            have HCW : Hid (Below WB.heap.size WB (w3.alloc (.cells #[.int .u64 (h4 : Int), .int .u64 (l4 : Int)] 41))) := HB3.out.trans (HCL.out.mono HB3.out.size)
            have e50 : (w3.alloc (.cells #[.int .u64 (h4 : Int), .int .u64 (l4 : Int)] 41)).cell? ⟨w3.heap.size, 0, none⟩ = some (.int .u64 (h4 : Int)) := by simp [go_sem]
            have e51 : (w3.alloc (.cells #[.int .u64 (h4 : Int), .int .u64 (l4 : Int)] 41)).cell? ⟨w3.heap.size, 1, none⟩ = some (.int .u64 (l4 : Int)) := by simp [go_sem]
            have hS : (w3.alloc (.cells #[.int .u64 (h4 : Int), .int .u64 (l4 : Int)] 41)).cell? ⟨g0, 0, none⟩ = some (.int .u64 (h2 : Int)) ∧ (w3.alloc (.cells #[.int .u64 (h4 : Int), .int .u64 (l4 : Int)] 41)).cell? ⟨g0, 1, none⟩ = some (.int .u64 (l2 : Int)) ∧ (w3.alloc (.cells #[.int .u64 (h4 : Int), .int .u64 (l4 : Int)] 41)).cell? ⟨g1, 0, none⟩ = some (.int .u64 (h3 : Int)) ∧ (w3.alloc (.cells #[.int .u64 (h4 : Int), .int .u64 (l4 : Int)] 41)).cell? ⟨g1, 1, none⟩ = some (.int .u64 (l3 : Int)) ∧ (w3.alloc (.cells #[.int .u64 (h4 : Int), .int .u64 (l4 : Int)] 41)).cell? ⟨g2, 0, none⟩ = some (.int .u64 (h4 : Int)) ∧ (w3.alloc (.cells #[.int .u64 (h4 : Int), .int .u64 (l4 : Int)] 41)).cell? ⟨g2, 1, none⟩ = some (.int .u64 (l4 : Int)) ∧ (w3.alloc (.cells #[.int .u64 (h4 : Int), .int .u64 (l4 : Int)] 41)).cell? ⟨w3.heap.size, 0, none⟩ = some (.int .u64 (h4 : Int)) ∧ (w3.alloc (.cells #[.int .u64 (h4 : Int), .int .u64 (l4 : Int)] 41)).cell? ⟨w3.heap.size, 1, none⟩ = some (.int .u64 (l4 : Int)) ∧ Below (w3.alloc (.cells #[.int .u64 (h4 : Int), .int .u64 (l4 : Int)] 41)).heap.size (w3.alloc (.cells #[.int .u64 (h4 : Int), .int .u64 (l4 : Int)] 41)) (w3.alloc (.cells #[.int .u64 (h4 : Int), .int .u64 (l4 : Int)] 41)) := ⟨(HCL.out.cell (p := ⟨g0, 0, none⟩) s0).trans c00, (HCL.out.cell (p := ⟨g0, 1, none⟩) s0).trans c01, (HCL.out.cell (p := ⟨g1, 0, none⟩) s1).trans c10, (HCL.out.cell (p := ⟨g1, 1, none⟩) s1).trans c11, (HCL.out.cell (p := ⟨g2, 0, none⟩) s2).trans c20, (HCL.out.cell (p := ⟨g2, 1, none⟩) s2).trans c21, e50, e51, Below.refl _ _⟩
            generalize (w3.alloc (.cells #[.int .u64 (h4 : Int), .int .u64 (l4 : Int)] 41)) = WC at *
            clear c00 c01 c10 c11 c20 c21 e50 e51 s0 s1 s2 HCL
            refine reg23 W X K g0 g1 g2 w3.heap.size h2 l2 h3 l3 h4 l4 h4 l4 x0 y0 x1 y1 x2 y2 x3 y3 x5 y5 x6 y6 x7 y7 x8 y8 x9 y9 HC0 HC1 HC2 HC3 HC5 HC6 HC7 HC8 HC9 WC hS _ _ _ _ _ _ _ _ _ _ _ _ _ _ _ _ _ _ _ _ _ _ _ _ _ _ _ _ _ _ _ _ _ _ _ _ _ _ _ _ _ _ _ _ _ _ _ _ _ _ _ _ _ _ _ _ _ _ _ _ _ _ _ _ _ _ _ _ _ _ _ _ _ _ _ _ _ _ _ _ _ _ _ _ _ _ _ _ _ _ _ _ _ _ _ _ _ _ _ _ _ _ _ _ _ _ _ _ _ _ _ _ _ _ _ _ _ _ _ _ _ _ _ _ _ _ _ _ _ _ _ _ _ _ _ _ _ _ _ _ _ _ _ _ _ _ _ _ _ _ _ _ _ _ _ _ _ _ _ _ _ _ _ _ _ _ _ _ _ _ _ _ _ _ _ _ _ _ _ _ _ _ _ _ _ _ _ _ _ _ _ _ _ _ _ _ _ _ _ _ _ _ _ ?_
            intro _ _ _ _ _ _ _ _ _ _ _ _ _ _ _ _ _ _ _ _ _ _ _ _ _ _ _ _ _ _ _ w5 hb5
            dsimp only
            have HBD : Hid (Below WB.heap.size WB (w5.alloc (.cells #[.int .u64 (x0 : Int), .int .u64 (y0 : Int), .int .u64 (x1 : Int), .int .u64 (y1 : Int), .int .u64 (x2 : Int), .int .u64 (y2 : Int), .int .u64 (x3 : Int), .int .u64 (y3 : Int), .int .u64 (h4 : Int), .int .u64 (l4 : Int), .int .u64 (x5 : Int), .int .u64 (y5 : Int), .int .u64 (x6 : Int), .int .u64 (y6 : Int), .int .u64 (x7 : Int), .int .u64 (y7 : Int), .int .u64 (x8 : Int), .int .u64 (y8 : Int), .int .u64 (x9 : Int), .int .u64 (y9 : Int)] 41))) := HCW.out.trans (hb5.mono HCW.out.size)
            have HBG : Hid (BVec (w5.alloc (.cells #[.int .u64 (x0 : Int), .int .u64 (y0 : Int), .int .u64 (x1 : Int), .int .u64 (y1 : Int), .int .u64 (x2 : Int), .int .u64 (y2 : Int), .int .u64 (x3 : Int), .int .u64 (y3 : Int), .int .u64 (h4 : Int), .int .u64 (l4 : Int), .int .u64 (x5 : Int), .int .u64 (y5 : Int), .int .u64 (x6 : Int), .int .u64 (y6 : Int), .int .u64 (x7 : Int), .int .u64 (y7 : Int), .int .u64 (x8 : Int), .int .u64 (y8 : Int), .int .u64 (x9 : Int), .int .u64 (y9 : Int)] 41)) (.slice (some ⟨g, 0, none⟩) j j) (bitsOf j k)) := HCG.out.below hb5
            have HDD : Hid (∀ i, i < 10 → (w5.alloc (.cells #[.int .u64 (x0 : Int), .int .u64 (y0 : Int), .int .u64 (x1 : Int), .int .u64 (y1 : Int), .int .u64 (x2 : Int), .int .u64 (y2 : Int), .int .u64 (x3 : Int), .int .u64 (y3 : Int), .int .u64 (h4 : Int), .int .u64 (l4 : Int), .int .u64 (x5 : Int), .int .u64 (y5 : Int), .int .u64 (x6 : Int), .int .u64 (y6 : Int), .int .u64 (x7 : Int), .int .u64 (y7 : Int), .int .u64 (x8 : Int), .int .u64 (y8 : Int), .int .u64 (x9 : Int), .int .u64 (y9 : Int)] 41)).cell? ⟨w5.heap.size, i * 2, none⟩ = some (.int .u64 ((seq10 x0 x1 x2 x3 h4 x5 x6 x7 x8 x9) i : Int)) ∧ (w5.alloc (.cells #[.int .u64 (x0 : Int), .int .u64 (y0 : Int), .int .u64 (x1 : Int), .int .u64 (y1 : Int), .int .u64 (x2 : Int), .int .u64 (y2 : Int), .int .u64 (x3 : Int), .int .u64 (y3 : Int), .int .u64 (h4 : Int), .int .u64 (l4 : Int), .int .u64 (x5 : Int), .int .u64 (y5 : Int), .int .u64 (x6 : Int), .int .u64 (y6 : Int), .int .u64 (x7 : Int), .int .u64 (y7 : Int), .int .u64 (x8 : Int), .int .u64 (y8 : Int), .int .u64 (x9 : Int), .int .u64 (y9 : Int)] 41)).cell? ⟨w5.heap.size, i * 2 + 1, none⟩ = some (.int .u64 ((seq10 y0 y1 y2 y3 l4 y5 y6 y7 y8 y9) i : Int))) := by
              intro i hi
              match i, hi with
              | 0, _ => exact ⟨by simp [go_sem, seq10], by simp [go_sem, seq10]⟩
              | 1, _ => exact ⟨by simp [go_sem, seq10], by simp [go_sem, seq10]⟩
              | 2, _ => exact ⟨by simp [go_sem, seq10], by simp [go_sem, seq10]⟩
              | 3, _ => exact ⟨by simp [go_sem, seq10], by simp [go_sem, seq10]⟩
              | 4, _ => exact ⟨by simp [go_sem, seq10], by simp [go_sem, seq10]⟩
              | 5, _ => exact ⟨by simp [go_sem, seq10], by simp [go_sem, seq10]⟩
              | 6, _ => exact ⟨by simp [go_sem, seq10], by simp [go_sem, seq10]⟩
              | 7, _ => exact ⟨by simp [go_sem, seq10], by simp [go_sem, seq10]⟩
              | 8, _ => exact ⟨by simp [go_sem, seq10], by simp [go_sem, seq10]⟩
              | 9, _ => exact ⟨by simp [go_sem, seq10], by simp [go_sem, seq10]⟩
              | i + 10, hi => exact absurd hi (by omega)
            have hnum : ∀ i, i < 10 → numV (evalV s.nodes (qOf (bitsOf j k)) (rs i)) = .agg #[.int .u64 ((seq10 x0 x1 x2 x3 h4 x5 x6 x7 x8 x9) i : Int), .int .u64 ((seq10 y0 y1 y2 y3 l4 y5 y6 y7 y8 y9) i : Int)] := by
              intro i hi
              rw [(HM.out i hi).2.2.2, HME.out i]
              obtain ⟨f0, f1, f2, f3, f5, f6, f7, f8, f9⟩ := HFX.out
              match i, hi with
              | 0, _ => exact f0
              | 1, _ => exact f1
              | 2, _ => exact f2
              | 3, _ => exact f3
              | 4, _ => rw [HODD.out]; exact HE24.out.2
              | 5, _ => exact f5
              | 6, _ => exact f6
              | 7, _ => exact f7
              | 8, _ => exact f8
              | 9, _ => exact f9
              | i + 10, hi => exact absurd hi (by omega)
            generalize (w5.alloc (.cells #[.int .u64 (x0 : Int), .int .u64 (y0 : Int), .int .u64 (x1 : Int), .int .u64 (y1 : Int), .int .u64 (x2 : Int), .int .u64 (y2 : Int), .int .u64 (x3 : Int), .int .u64 (y3 : Int), .int .u64 (h4 : Int), .int .u64 (l4 : Int), .int .u64 (x5 : Int), .int .u64 (y5 : Int), .int .u64 (x6 : Int), .int .u64 (y6 : Int), .int .u64 (x7 : Int), .int .u64 (y7 : Int), .int .u64 (x8 : Int), .int .u64 (y8 : Int), .int .u64 (x9 : Int), .int .u64 (y9 : Int)] 41)) = WD at *
            generalize w5.heap.size = d at *
            have HEE : Hid (∀ i, i < 10 → ∀ W', Below WD.heap.size WD W' → Calls Try.prog 40 #[.pointer (some ⟨b, 0, none⟩), mk i, .slice (some ⟨g, 0, none⟩) j j] W' fun e w' => e = .returned (.agg #[.int .u64 ((seq10 x0 x1 x2 x3 h4 x5 x6 x7 x8 x9) i : Int), .int .u64 ((seq10 y0 y1 y2 y3 l4 y5 y6 y7 y8 y9) i : Int)]) ∧ Below W'.heap.size W' w') := fun i hi W' hW => by
              rw [← hnum i hi]
              have hq := HBD.out.trans (hW.mono HBD.out.size)
              exact eval_sto b O s (mk i) _ (rs i) (bitsOf j k) W' (HS.out.below hq) ((HM.out i hi).2.1.below hq) (by have := (HM.out i hi).2.2.1; omega) (HBG.out.below hW) (by rw [bitsOf_len]; omega)
            have HMD : Hid (∀ i, i < 10 → WD.cell? ⟨mb, i, none⟩ = some (mk i)) := fun i hi => (HBD.out.cell (p := ⟨mb, i, none⟩) (cell_there (HM.out i hi).1).1).trans (HM.out i hi).1
            clear hnum hS hb5
            go_wp2_with fail
            refine loop3 b mb g j d mk (seq10 x0 x1 x2 x3 h4 x5 x6 x7 x8 x9) (seq10 y0 y1 y2 y3 l4 y5 y6 y7 y8 y9) WD HMD HEE HDD _ _ _ _ _ _ _ _ _ _ _ _ _ _ _ _ _ _ _ _ _ _ _ _ _ _ _ _ _ _ _ _ _ _ _ _ _ _ _ _ _ _ _ _ _ _ _ _ _ _ _ _ _ _ _ _ _ _ _ _ _ _ _ _ _ _ _ _ _ _ _ _ _ _ _ _ _ _ _ _ _ _ _ _ _ _ _ _ _ _ _ _ _ _ _ _ _ _ _ _ _ _ _ _ _ _ _ _ _ _ _ _ _ _ _ _ _ _ _ _ _ _ _ _ _ _ _ _ _ _ _ _ _ _ _ _ _ _ _ _ _ _ _ _ _ _ _ _ _ _ _ _ _ _ _ _ _ _ _ _ _ _ _ _ _ _ _ _ _ _ _ _ _ _ _ _ _ _ _ _ _ _ _ _ _ _ _ _ _ _ _ _ _ _ _ _ _ _ _ _ _ _ _ ?_
            intro _ _ _ _ _ _ _ _ _ _ _ _ _ _ _ _ _ w6 hb6
            dsimp only
            have HB6 : Hid (Below WB.heap.size WB w6) := HBD.out.trans (hb6.mono HBD.out.size)
            go_wp2_with fail
            go_roundw
            case rel => exact ⟨k + 1, by omega, rfl, by go_num, HB6⟩
            case measure => simp [intOf]; omega
          · rw [hodd] at hbit
            have HODD := Lib.hid hodd
            clear hodd
            go_wp2_with fail
            have HCL : Hid (Below w3.heap.size w3 (w3.alloc (.cells #[.int .u64 (h2 : Int), .int .u64 (l2 : Int)] 41))) := by show Below _ _ _; exact (by repeat (first | exact Below.refl _ _ | assumption | refine Below.drew ?_ | refine Below.alloc ?_ (by first | omega | (simp <;> omega)) _ | refine Below.setCell ?_ (by first | omega | (simp <;> omega)) _ | refine Below.trans ?_ (Below.mono (by assumption) (by first | omega | (simp <;> omega)))))
            have HCG : Hid (BVec (w3.alloc (.cells #[.int .u64 (h2 : Int), .int .u64 (l2 : Int)] 41)) (.slice (some ⟨g, 0, none⟩) j j) (bitsOf j k)) := HBV3.out.below HCL.out
            have HCW : Hid (Below WB.heap.size WB (w3.alloc (.cells #[.int .u64 (h2 : Int), .int .u64 (l2 : Int)] 41))) := HB3.out.trans (HCL.out.mono HB3.out.size)
            have e50 : (w3.alloc (.cells #[.int .u64 (h2 : Int), .int .u64 (l2 : Int)] 41)).cell? ⟨w3.heap.size, 0, none⟩ = some (.int .u64 (h2 : Int)) := by simp [go_sem]
            have e51 : (w3.alloc (.cells #[.int .u64 (h2 : Int), .int .u64 (l2 : Int)] 41)).cell? ⟨w3.heap.size, 1, none⟩ = some (.int .u64 (l2 : Int)) := by simp [go_sem]
            have hS : (w3.alloc (.cells #[.int .u64 (h2 : Int), .int .u64 (l2 : Int)] 41)).cell? ⟨g0, 0, none⟩ = some (.int .u64 (h2 : Int)) ∧ (w3.alloc (.cells #[.int .u64 (h2 : Int), .int .u64 (l2 : Int)] 41)).cell? ⟨g0, 1, none⟩ = some (.int .u64 (l2 : Int)) ∧ (w3.alloc (.cells #[.int .u64 (h2 : Int), .int .u64 (l2 : Int)] 41)).cell? ⟨g1, 0, none⟩ = some (.int .u64 (h3 : Int)) ∧ (w3.alloc (.cells #[.int .u64 (h2 : Int), .int .u64 (l2 : Int)] 41)).cell? ⟨g1, 1, none⟩ = some (.int .u64 (l3 : Int)) ∧ (w3.alloc (.cells #[.int .u64 (h2 : Int), .int .u64 (l2 : Int)] 41)).cell? ⟨g2, 0, none⟩ = some (.int .u64 (h4 : Int)) ∧ (w3.alloc (.cells #[.int .u64 (h2 : Int), .int .u64 (l2 : Int)] 41)).cell? ⟨g2, 1, none⟩ = some (.int .u64 (l4 : Int)) ∧ (w3.alloc (.cells #[.int .u64 (h2 : Int), .int .u64 (l2 : Int)] 41)).cell? ⟨w3.heap.size, 0, none⟩ = some (.int .u64 (h2 : Int)) ∧ (w3.alloc (.cells #[.int .u64 (h2 : Int), .int .u64 (l2 : Int)] 41)).cell? ⟨w3.heap.size, 1, none⟩ = some (.int .u64 (l2 : Int)) ∧ Below (w3.alloc (.cells #[.int .u64 (h2 : Int), .int .u64 (l2 : Int)] 41)).heap.size (w3.alloc (.cells #[.int .u64 (h2 : Int), .int .u64 (l2 : Int)] 41)) (w3.alloc (.cells #[.int .u64 (h2 : Int), .int .u64 (l2 : Int)] 41)) := ⟨(HCL.out.cell (p := ⟨g0, 0, none⟩) s0).trans c00, (HCL.out.cell (p := ⟨g0, 1, none⟩) s0).trans c01, (HCL.out.cell (p := ⟨g1, 0, none⟩) s1).trans c10, (HCL.out.cell (p := ⟨g1, 1, none⟩) s1).trans c11, (HCL.out.cell (p := ⟨g2, 0, none⟩) s2).trans c20, (HCL.out.cell (p := ⟨g2, 1, none⟩) s2).trans c21, e50, e51, Below.refl _ _⟩
            generalize (w3.alloc (.cells #[.int .u64 (h2 : Int), .int .u64 (l2 : Int)] 41)) = WC at *
            clear c00 c01 c10 c11 c20 c21 e50 e51 s0 s1 s2 HCL
            refine reg23 W X K g0 g1 g2 w3.heap.size h2 l2 h3 l3 h4 l4 h2 l2 x0 y0 x1 y1 x2 y2 x3 y3 x5 y5 x6 y6 x7 y7 x8 y8 x9 y9 HC0 HC1 HC2 HC3 HC5 HC6 HC7 HC8 HC9 WC hS _ _ _ _ _ _ _ _ _ _ _ _ _ _ _ _ _ _ _ _ _ _ _ _ _ _ _ _ _ _ _ _ _ _ _ _ _ _ _ _ _ _ _ _ _ _ _ _ _ _ _ _ _ _ _ _ _ _ _ _ _ _ _ _ _ _ _ _ _ _ _ _ _ _ _ _ _ _ _ _ _ _ _ _ _ _ _ _ _ _ _ _ _ _ _ _ _ _ _ _ _ _ _ _ _ _ _ _ _ _ _ _ _ _ _ _ _ _ _ _ _ _ _ _ _ _ _ _ _ _ _ _ _ _ _ _ _ _ _ _ _ _ _ _ _ _ _ _ _ _ _ _ _ _ _ _ _ _ _ _ _ _ _ _ _ _ _ _ _ _ _ _ _ _ _ _ _ _ _ _ _ _ _ _ _ _ _ _ _ _ _ _ _ _ _ _ _ _ _ _ _ _ _ ?_
            intro _ _ _ _ _ _ _ _ _ _ _ _ _ _ _ _ _ _ _ _ _ _ _ _ _ _ _ _ _ _ _ w5 hb5
            dsimp only
            have HBD : Hid (Below WB.heap.size WB (w5.alloc (.cells #[.int .u64 (x0 : Int), .int .u64 (y0 : Int), .int .u64 (x1 : Int), .int .u64 (y1 : Int), .int .u64 (x2 : Int), .int .u64 (y2 : Int), .int .u64 (x3 : Int), .int .u64 (y3 : Int), .int .u64 (h2 : Int), .int .u64 (l2 : Int), .int .u64 (x5 : Int), .int .u64 (y5 : Int), .int .u64 (x6 : Int), .int .u64 (y6 : Int), .int .u64 (x7 : Int), .int .u64 (y7 : Int), .int .u64 (x8 : Int), .int .u64 (y8 : Int), .int .u64 (x9 : Int), .int .u64 (y9 : Int)] 41))) := HCW.out.trans (hb5.mono HCW.out.size)
            have HBG : Hid (BVec (w5.alloc (.cells #[.int .u64 (x0 : Int), .int .u64 (y0 : Int), .int .u64 (x1 : Int), .int .u64 (y1 : Int), .int .u64 (x2 : Int), .int .u64 (y2 : Int), .int .u64 (x3 : Int), .int .u64 (y3 : Int), .int .u64 (h2 : Int), .int .u64 (l2 : Int), .int .u64 (x5 : Int), .int .u64 (y5 : Int), .int .u64 (x6 : Int), .int .u64 (y6 : Int), .int .u64 (x7 : Int), .int .u64 (y7 : Int), .int .u64 (x8 : Int), .int .u64 (y8 : Int), .int .u64 (x9 : Int), .int .u64 (y9 : Int)] 41)) (.slice (some ⟨g, 0, none⟩) j j) (bitsOf j k)) := HCG.out.below hb5
            have HDD : Hid (∀ i, i < 10 → (w5.alloc (.cells #[.int .u64 (x0 : Int), .int .u64 (y0 : Int), .int .u64 (x1 : Int), .int .u64 (y1 : Int), .int .u64 (x2 : Int), .int .u64 (y2 : Int), .int .u64 (x3 : Int), .int .u64 (y3 : Int), .int .u64 (h2 : Int), .int .u64 (l2 : Int), .int .u64 (x5 : Int), .int .u64 (y5 : Int), .int .u64 (x6 : Int), .int .u64 (y6 : Int), .int .u64 (x7 : Int), .int .u64 (y7 : Int), .int .u64 (x8 : Int), .int .u64 (y8 : Int), .int .u64 (x9 : Int), .int .u64 (y9 : Int)] 41)).cell? ⟨w5.heap.size, i * 2, none⟩ = some (.int .u64 ((seq10 x0 x1 x2 x3 h2 x5 x6 x7 x8 x9) i : Int)) ∧ (w5.alloc (.cells #[.int .u64 (x0 : Int), .int .u64 (y0 : Int), .int .u64 (x1 : Int), .int .u64 (y1 : Int), .int .u64 (x2 : Int), .int .u64 (y2 : Int), .int .u64 (x3 : Int), .int .u64 (y3 : Int), .int .u64 (h2 : Int), .int .u64 (l2 : Int), .int .u64 (x5 : Int), .int .u64 (y5 : Int), .int .u64 (x6 : Int), .int .u64 (y6 : Int), .int .u64 (x7 : Int), .int .u64 (y7 : Int), .int .u64 (x8 : Int), .int .u64 (y8 : Int), .int .u64 (x9 : Int), .int .u64 (y9 : Int)] 41)).cell? ⟨w5.heap.size, i * 2 + 1, none⟩ = some (.int .u64 ((seq10 y0 y1 y2 y3 l2 y5 y6 y7 y8 y9) i : Int))) := by
              intro i hi
              match i, hi with
              | 0, _ => exact ⟨by simp [go_sem, seq10], by simp [go_sem, seq10]⟩
              | 1, _ => exact ⟨by simp [go_sem, seq10], by simp [go_sem, seq10]⟩
              | 2, _ => exact ⟨by simp [go_sem, seq10], by simp [go_sem, seq10]⟩
              | 3, _ => exact ⟨by simp [go_sem, seq10], by simp [go_sem, seq10]⟩
              | 4, _ => exact ⟨by simp [go_sem, seq10], by simp [go_sem, seq10]⟩
              | 5, _ => exact ⟨by simp [go_sem, seq10], by simp [go_sem, seq10]⟩
              | 6, _ => exact ⟨by simp [go_sem, seq10], by simp [go_sem, seq10]⟩
              | 7, _ => exact ⟨by simp [go_sem, seq10], by simp [go_sem, seq10]⟩
              | 8, _ => exact ⟨by simp [go_sem, seq10], by simp [go_sem, seq10]⟩
              | 9, _ => exact ⟨by simp [go_sem, seq10], by simp [go_sem, seq10]⟩
              | i + 10, hi => exact absurd hi (by omega)
            have hnum : ∀ i, i < 10 → numV (evalV s.nodes (qOf (bitsOf j k)) (rs i)) = .agg #[.int .u64 ((seq10 x0 x1 x2 x3 h2 x5 x6 x7 x8 x9) i : Int), .int .u64 ((seq10 y0 y1 y2 y3 l2 y5 y6 y7 y8 y9) i : Int)] := by
              intro i hi
              rw [(HM.out i hi).2.2.2, HME.out i]
              obtain ⟨f0, f1, f2, f3, f5, f6, f7, f8, f9⟩ := HFX.out
              match i, hi with
              | 0, _ => exact f0
              | 1, _ => exact f1
              | 2, _ => exact f2
              | 3, _ => exact f3
              | 4, _ => rw [HODD.out]; exact HE24.out.1
              | 5, _ => exact f5
              | 6, _ => exact f6
              | 7, _ => exact f7
              | 8, _ => exact f8
              | 9, _ => exact f9
              | i + 10, hi => exact absurd hi (by omega)
            generalize (w5.alloc (.cells #[.int .u64 (x0 : Int), .int .u64 (y0 : Int), .int .u64 (x1 : Int), .int .u64 (y1 : Int), .int .u64 (x2 : Int), .int .u64 (y2 : Int), .int .u64 (x3 : Int), .int .u64 (y3 : Int), .int .u64 (h2 : Int), .int .u64 (l2 : Int), .int .u64 (x5 : Int), .int .u64 (y5 : Int), .int .u64 (x6 : Int), .int .u64 (y6 : Int), .int .u64 (x7 : Int), .int .u64 (y7 : Int), .int .u64 (x8 : Int), .int .u64 (y8 : Int), .int .u64 (x9 : Int), .int .u64 (y9 : Int)] 41)) = WD at *
            generalize w5.heap.size = d at *
            have HEE : Hid (∀ i, i < 10 → ∀ W', Below WD.heap.size WD W' → Calls Try.prog 40 #[.pointer (some ⟨b, 0, none⟩), mk i, .slice (some ⟨g, 0, none⟩) j j] W' fun e w' => e = .returned (.agg #[.int .u64 ((seq10 x0 x1 x2 x3 h2 x5 x6 x7 x8 x9) i : Int), .int .u64 ((seq10 y0 y1 y2 y3 l2 y5 y6 y7 y8 y9) i : Int)]) ∧ Below W'.heap.size W' w') := fun i hi W' hW => by
              rw [← hnum i hi]
              have hq := HBD.out.trans (hW.mono HBD.out.size)
              exact eval_sto b O s (mk i) _ (rs i) (bitsOf j k) W' (HS.out.below hq) ((HM.out i hi).2.1.below hq) (by have := (HM.out i hi).2.2.1; omega) (HBG.out.below hW) (by rw [bitsOf_len]; omega)
            have HMD : Hid (∀ i, i < 10 → WD.cell? ⟨mb, i, none⟩ = some (mk i)) := fun i hi => (HBD.out.cell (p := ⟨mb, i, none⟩) (cell_there (HM.out i hi).1).1).trans (HM.out i hi).1
            clear hnum hS hb5
            go_wp2_with fail
            refine loop3 b mb g j d mk (seq10 x0 x1 x2 x3 h2 x5 x6 x7 x8 x9) (seq10 y0 y1 y2 y3 l2 y5 y6 y7 y8 y9) WD HMD HEE HDD _ _ _ _ _ _ _ _ _ _ _ _ _ _ _ _ _ _ _ _ _ _ _ _ _ _ _ _ _ _ _ _ _ _ _ _ _ _ _ _ _ _ _ _ _ _ _ _ _ _ _ _ _ _ _ _ _ _ _ _ _ _ _ _ _ _ _ _ _ _ _ _ _ _ _ _ _ _ _ _ _ _ _ _ _ _ _ _ _ _ _ _ _ _ _ _ _ _ _ _ _ _ _ _ _ _ _ _ _ _ _ _ _ _ _ _ _ _ _ _ _ _ _ _ _ _ _ _ _ _ _ _ _ _ _ _ _ _ _ _ _ _ _ _ _ _ _ _ _ _ _ _ _ _ _ _ _ _ _ _ _ _ _ _ _ _ _ _ _ _ _ _ _ _ _ _ _ _ _ _ _ _ _ _ _ _ _ _ _ _ _ _ _ _ _ _ _ _ _ _ _ _ _ ?_
            intro _ _ _ _ _ _ _ _ _ _ _ _ _ _ _ _ _ w6 hb6
            dsimp only
            have HB6 : Hid (Below WB.heap.size WB w6) := HBD.out.trans (hb6.mono HBD.out.size)
            go_wp2_with fail
            go_roundw
            case rel => exact ⟨k + 1, by omega, rfl, by go_num, HB6⟩
            case measure => simp [intOf]; omega
    · obtain rfl : k = T := by omega
      go_wp2_with fail
      apply HEX.out
      exact HB.out

end Go.Proofs.Ytlnkflmnjkmhkaa
