/-
  Lemmas, joined: Law18U, RefOr.
-/
import Derived.Test.YtlnkflmnjkmhkaaJO21
import Derived.Test.YtlnkflmnjkmhkaaJO22
import Derived.Test.YtlnkflmnjkmhkaaJO25
import Derived.Test.YtlnkflmnjkmhkaaJO14
import Derived.Test.YtlnkflmnjkmhkaaJO17
import Derived.Test.YtlnkflmnjkmhkaaJO02
import Derived.BigQuiet
import Derived.Deep.QuietTactic
import Derived.Outline
/-
  The law SymopMeans of layer 18: the loop over the bits, joined.
-/
namespace Go.Proofs.Ytlnkflmnjkmhkaa
open Go.RowKit Go.Maps

noncomputable def body18 : Code := (Try.f6.body.bind firstLoop).getD .skip
def mo (W X pv pm : Nat) : Nat → (Int → Bool) → Nat
  | 0 => o1 W X (max W X)
  | 1 => o2 W X (max W X)
  | 2 => o3 W
  | 3 => o4 W X
  | 4 => o5 W X
  | 5 => o6 W X
  | 6 => o7 W
  | _ => o8 W pv pm
def moref (W MX pv R P Q : Nat) : Nat → Nat
  | 0 => (P + Q) % 2 ^ 128 % 2 ^ sh (MX : Int)
  | 1 => subN P Q (MX : Int)
  | 2 => subN 0 P (W : Int)
  | 3 => oneN (decide (P = Q))
  | 4 => oneN (decide (P < Q))
  | 5 => oneN (decide (P ≤ Q))
  | 6 => oneN (decide (P ≠ 0))
  | _ => oneN (decide (P &&& R = pv &&& R))
theorem mo_bits (W X pv pm k i : Nat) (hk : k < 2 ^ (W + X)) : mo W X pv pm i (qOf (bitsOf (W + X) k)) = moref W (max W X) pv (pm % 2 ^ sh (W : Int)) (k / 2 ^ X) (k % 2 ^ X) i := by
  match i with
  | 0 => show o1 W X _ _ = _; unfold o1; rw [pN_bits W X k hk, kN_bits]; rfl
  | 1 => show o2 W X _ _ = _; unfold o2; rw [pN_bits W X k hk, kN_bits]; rfl
  | 2 => show o3 W _ = _; unfold o3; rw [pN_bits W X k hk]; rfl
  | 3 => show o4 W X _ = _; unfold o4; rw [pN_bits W X k hk, kN_bits]; rfl
  | 4 => show o5 W X _ = _; unfold o5; rw [pN_bits W X k hk, kN_bits]; rfl
  | 5 => show o6 W X _ = _; unfold o6; rw [pN_bits W X k hk, kN_bits]; rfl
  | 6 => show o7 W _ = _; unfold o7; rw [pN_bits W X k hk]; rfl
  | i + 7 => show o8 W pv pm _ = _; unfold o8; rw [pN_bits W X k hk]; rfl

theorem oneN_num (b : Bool) : numV (oneN b) = .agg #[.int .u64 0, .int .u64 ((oneN b : Nat) : Int)] := by
  cases b
  · simp [numV, oneN]
  · simp [numV, oneN, B]
theorem numV_zero : numV 0 = .agg #[.int .u64 0, .int .u64 0] := by simp [numV]
theorem eq_parts {a c h2 l2 h3 l3 : Nat} (e2 : numV a = .agg #[.int .u64 (h2 : Int), .int .u64 (l2 : Int)]) (e3 : numV c = .agg #[.int .u64 (h3 : Int), .int .u64 (l3 : Int)]) : (((h2 : Int) == (h3 : Int)) && ((l2 : Int) == (l3 : Int))) = decide (a = c) := by
  rw [Bool.eq_iff_iff]
  simp only [Bool.and_eq_true, beq_iff_eq, decide_eq_true_eq]
  constructor
  · rintro ⟨h, l⟩
    apply numV_inj
    rw [e2, e3, h, l]
  · rintro rfl
    rw [e2] at e3
    simp only [Value.agg.injEq] at e3
    have := congrArg Array.toList e3
    simp at this
    omega
theorem zero_parts {a h2 l2 : Nat} (e2 : numV a = .agg #[.int .u64 (h2 : Int), .int .u64 (l2 : Int)]) : (!((h2 : Int) == 0) || !((l2 : Int) == 0)) = decide (a ≠ 0) := by
  have h := eq_parts (a := a) (c := 0) (h3 := 0) (l3 := 0) e2 numV_zero
  rw [show (decide (a ≠ 0)) = !decide (a = 0) by simp, ← h]
  cases ((h2 : Int) == ((0 : Nat) : Int)) <;> cases ((l2 : Int) == ((0 : Nat) : Int)) <;> simp_all
theorem cmp_lt (a c : Nat) : decide (cmpN a c < 0) = decide (a < c) := by unfold cmpN; rw [decide_eq_decide]; split <;> (try split) <;> omega
theorem cmp_le (a c : Nat) : decide (cmpN a c ≤ 0) = decide (a ≤ c) := by unfold cmpN; rw [decide_eq_decide]; split <;> (try split) <;> omega

set_option maxRecDepth 100000 in
set_option maxHeartbeats 400000 in
theorem one_any (bb : Bool) (w : World) : Calls Try.prog 58 #[.bool bb] w fun e w' => e = .returned (.agg #[.int .u64 0, .int .u64 ((oneN bb : Nat) : Int)]) ∧ Below w.heap.size w w' := by
  have HO : Hid (∀ W, Calls Try.prog 30 #[.int .u64 1] W fun e w' => e = .returned (.agg #[.int .u64 0, .int .u64 1]) ∧ Below W.heap.size W w') := fun W => by
    have h := refOf_any 1 (by unfold B; omega) W
    have e : numV 1 = .agg #[.int .u64 0, .int .u64 1] := by simp [numV, B]
    have h' : Calls Try.prog 30 #[.int .u64 1] W (RetNum W 1) := h
    unfold RetNum at h'
    rw [e] at h'
    exact h'
  cases bb
  · go_enter Try.func58, Try.ntmps58
    go_wp2_with fail
    exact bodyPost_ret (v := .agg #[.int .u64 0, .int .u64 0]) (by simp [results, Try.results58, go_sem]) rfl ⟨rfl, (by repeat (first | exact Below.refl _ _ | assumption | refine Below.drew ?_ | refine Below.alloc ?_ (by first | omega | (simp <;> omega)) _ | refine Below.setCell ?_ (by first | omega | (simp <;> omega)) _ | refine Below.trans ?_ (Below.mono (by assumption) (by first | omega | (simp <;> omega)))))⟩
  · go_enter Try.func58, Try.ntmps58
    go_wp2_with fail
    refine (HO.out _).mono ?_
    rintro e w1 ⟨rfl, hb1⟩
    have x0 : w1.cell? ⟨w.heap.size, 0, none⟩ = some (.int .u64 0) := by rw [hb1.cell (p := ⟨w.heap.size, 0, none⟩) (by simp)]; simp [go_sem]
    have x1 : w1.cell? ⟨w.heap.size, 1, none⟩ = some (.int .u64 0) := by rw [hb1.cell (p := ⟨w.heap.size, 1, none⟩) (by simp)]; simp [go_sem]
    have f0 : w1.frozen? ⟨w.heap.size, 0, none⟩ = false := by rw [hb1.frozen (p := ⟨w.heap.size, 0, none⟩) (by simp)]; simp [go_sem]
    have f1 : w1.frozen? ⟨w.heap.size, 1, none⟩ = false := by rw [hb1.frozen (p := ⟨w.heap.size, 1, none⟩) (by simp)]; simp [go_sem]
    have hB : Below w.heap.size w w1 := (by repeat (first | exact Below.refl _ _ | assumption | refine Below.drew ?_ | refine Below.alloc ?_ (by first | omega | (simp <;> omega)) _ | refine Below.setCell ?_ (by first | omega | (simp <;> omega)) _ | refine Below.trans ?_ (Below.mono (by assumption) (by first | omega | (simp <;> omega)))))
    have HB := Lib.hid hB
    clear hb1 hB
    go_wp2_with fail
    refine bodyPost_ret (v := .agg #[.int .u64 0, .int .u64 1]) (by simp [results, Try.results58, go_sem, x0, x1]) rfl ⟨rfl, ?_⟩
    exact (HB.out.setCell (Nat.le_refl _) _).setCell (Nat.le_refl _) _

def seq8 (x0 x1 x2 x3 x4 x5 x6 x7 : Nat) : Nat → Nat
  | 0 => x0 | 1 => x1 | 2 => x2 | 3 => x3 | 4 => x4 | 5 => x5 | 6 => x6 | _ => x7

set_option maxRecDepth 100000 in
set_option maxHeartbeats 3000000 in
theorem loop18 (W X MX nb b mb T pv pm h0 l0 h1 l1 : Nat) (hW1 : 1 ≤ W) (hW4 : W ≤ 4) (hX1 : 1 ≤ X) (hX4 : X ≤ 4) (HMX : Hid (MX = max W X)) (hT8 : T ≤ 256) (HT : Hid (T = 2 ^ (W + X))) (hpv : pv < B * B) (hpm : pm < B * B) (HPV : Hid (numV pv = .agg #[.int .u64 (h0 : Int), .int .u64 (l0 : Int)])) (HPM : Hid (numV pm = .agg #[.int .u64 (h1 : Int), .int .u64 (l1 : Int)]))
    (WB : World) (k0 : PatAt WB nb (h0 : Int) (l0 : Int) (h1 : Int) (l1 : Int))
    (O : Nat → Prop) (s : BS) (HS : Hid (Sto WB b O s)) (mk : Nat → Value) (rs : Nat → List Int) (HM : Hid (∀ i, i < 8 → WB.cell? ⟨mb, i, none⟩ = some (mk i) ∧ IVec WB (mk i) (rs i) ∧ (rs i).length ≤ 128 ∧ ∀ q, evalV s.nodes q (rs i) = mo W X pv pm i q))
    (c0 c1 c2 c3 c4 c10 c11 c12 c15 c16 c17 c18 c19 c20 c21 c22 c23 c24 c25 c26 c27 c28 c29 c30 c31 c32 c33 c34 c35 c36 c37 c38 c39 c40 c41 c42 c43 c44 c45 c46 c47 c48 c49 c50 c51 c52 c53 c54 c55 c56 c57 c58 c59 c60 c61 c62 c63 c64 c65 c66 c67 c68 c69 c70 c71 c72 c73 c74 c75 c76 c77 c78 c79 c80 c81 c82 c83 c84 c85 c86 c87 c88 c89 c92 c93 c94 c95 c96 c97 c98 c99 c100 c101 c102 c103 c104 c105 c106 c107 c108 c109 c110 c111 c112 c113 c114 c115 c116 c117 c118 c119 c120 c121 c122 c123 c124 c125 c126 c127 c128 c129 c130 c131 c132 c133 c134 c135 c136 c137 c138 c139 c140 c141 c142 c143 c144 c145 c146 c147 c148 c149 c150 c151 c152 c153 c154 c155 c156 c157 c158 c159 c160 c161 c162 c163 c164 c165 c166 c167 c168 c169 c170 c171 c172 c173 c174 c175 c176 c177 c178 c179 c180 c181 c182 c183 c184 c185 c186 c187 c188 c189 c190 c191 : Value) (Q : Exit → Act → World → Prop)
    (hexit : ∀ (u15 u16 u17 u18 u19 u20 u21 u22 u91 u92 u93 u94 u95 u96 u97 u98 u99 u100 u101 u102 u103 u104 u105 u106 u107 u108 u109 u110 u111 u112 u113 u114 u115 u116 u117 u118 u119 u120 u121 u122 u123 u124 u125 u126 u127 u128 u129 u130 u131 u132 u133 u134 u135 u136 u137 u138 u139 u140 u141 u142 u143 u144 u145 u146 u147 u148 u149 u150 u151 u152 u153 u154 u155 u156 u157 u158 u159 u160 u161 u162 u163 u164 u165 u166 u167 u168 u169 u170 u171 u172 u173 u174 u175 u176 u177 u178 u179 u180 u181 u182 u183 u184 u185 u186 u187 u188 u189 u190 : Value) (w' : World), Below WB.heap.size WB w' → Q (.exit 0) ⟨#[c0, c1, c2, c3, c4, .pointer (some ⟨nb, 0, none⟩), .bool false, .int .i64 (W : Int), .int .i64 (X : Int), .pointer (some ⟨b, 0, none⟩), c10, c11, c12, .int .i64 (MX : Int), .slice (some ⟨mb, 0, none⟩) 8 8, u15, u16, u17, u18, u19, u20, u21, u22, c23, c24, c25, c26, c27, c28, c29, c30, c31, c32, c33, c34, c35, c36, c37, c38, c39, c40, c41, c42, c43, c44, c45, c46, c47, c48, c49, c50, c51, c52, c53, c54, c55, c56, c57, c58, c59, c60, c61, c62, c63, c64, c65, c66, c67, c68, c69, c70, c71, c72, c73, c74, c75, c76, c77, c78, c79, c80, c81, c82, c83, c84, c85, c86, c87, c88, c89, .int .i64 (T : Int), u91, u92, u93, u94, u95, u96, u97, u98, u99, u100, u101, u102, u103, u104, u105, u106, u107, u108, u109, u110, u111, u112, u113, u114, u115, u116, u117, u118, u119, u120, u121, u122, u123, u124, u125, u126, u127, u128, u129, u130, u131, u132, u133, u134, u135, u136, u137, u138, u139, u140, u141, u142, u143, u144, u145, u146, u147, u148, u149, u150, u151, u152, u153, u154, u155, u156, u157, u158, u159, u160, u161, u162, u163, u164, u165, u166, u167, u168, u169, u170, u171, u172, u173, u174, u175, u176, u177, u178, u179, u180, u181, u182, u183, u184, u185, u186, u187, u188, u189, u190, c191], []⟩ w') :
    Code.wp Try.prog (Code.loop body18) Q ⟨#[c0, c1, c2, c3, c4, .pointer (some ⟨nb, 0, none⟩), .bool false, .int .i64 (W : Int), .int .i64 (X : Int), .pointer (some ⟨b, 0, none⟩), c10, c11, c12, .int .i64 (MX : Int), .slice (some ⟨mb, 0, none⟩) 8 8, c15, c16, c17, c18, c19, c20, c21, c22, c23, c24, c25, c26, c27, c28, c29, c30, c31, c32, c33, c34, c35, c36, c37, c38, c39, c40, c41, c42, c43, c44, c45, c46, c47, c48, c49, c50, c51, c52, c53, c54, c55, c56, c57, c58, c59, c60, c61, c62, c63, c64, c65, c66, c67, c68, c69, c70, c71, c72, c73, c74, c75, c76, c77, c78, c79, c80, c81, c82, c83, c84, c85, c86, c87, c88, c89, .int .i64 (T : Int), .int .i64 0, c92, c93, c94, c95, c96, c97, c98, c99, c100, c101, c102, c103, c104, c105, c106, c107, c108, c109, c110, c111, c112, c113, c114, c115, c116, c117, c118, c119, c120, c121, c122, c123, c124, c125, c126, c127, c128, c129, c130, c131, c132, c133, c134, c135, c136, c137, c138, c139, c140, c141, c142, c143, c144, c145, c146, c147, c148, c149, c150, c151, c152, c153, c154, c155, c156, c157, c158, c159, c160, c161, c162, c163, c164, c165, c166, c167, c168, c169, c170, c171, c172, c173, c174, c175, c176, c177, c178, c179, c180, c181, c182, c183, c184, c185, c186, c187, c188, c189, c190, c191], []⟩ WB := by
  dsimp only at hexit ⊢
  conv => arg 2; arg 1; whnf
  have HEX := Lib.hid hexit
  clear hexit
  obtain ⟨N, hNe, hN⟩ : ∃ N : Nat, N = W + X ∧ (W : Int) + (X : Int) = (N : Int) := ⟨W + X, rfl, by omega⟩
  have HN := Lib.hid hN
  have HNE := Lib.hid hNe
  have hN8 : N ≤ 8 := by omega
  have HK0 := Lib.hid k0
  clear hN hNe k0
  go_loopw [6, 91] (fun z i wr => ∃ k : Nat, k ≤ T ∧ z = .bool false ∧ i = .int .i64 k ∧ Hid (Below WB.heap.size WB wr)) (fun _ i _ => T - (intOf i).toNat)
  case atStart => exact ⟨0, Nat.zero_le _, rfl, rfl, Below.refl _ _⟩
  case round =>
    obtain ⟨k, hk, rfl, rfl, HB⟩ := hrel
    by_cases hlt : k < T
    · obtain ⟨i0, hi, hz0, hz1, hz2⟩ := info_parts infoBool17
      go_wp2_with (first
        | (at_make; go_loud((refine wpList_make_row _ rfl _ _ 58 rfl 4 i0 (.bool false) Try.underlying58 hi hz0 hz1 rfl .i64 .i64 N (by show Value.int .i64 ((W : Int) + (X : Int)) = _; rw [HN.out]) (by show Value.int .i64 ((W : Int) + (X : Int)) = _; rw [HN.out]) (by rw [hz2]; omega) (by omega) ?_))))
      have HF : Hid (FillAt WB wr.heap.size N k 0 (wr.alloc (.cells (madeCells #[.bool false] N) 4))) := FillAt.start HB.out
      generalize wr.heap.size = g at *
      generalize wr.alloc (.cells (madeCells #[.bool false] N) 4) = w1 at *
      go_loopw [100] (fun i w2 => ∃ j : Nat, j ≤ N ∧ i = .int .i64 j ∧ Hid (FillAt WB g N k j w2)) (fun i _ => N - (intOf i).toNat)
      case atStart => exact ⟨0, Nat.zero_le _, rfl, HF⟩
      case round =>
        obtain ⟨j, hj, rfl, HFJ⟩ := hrel
        by_cases hlj : j < N
        · obtain ⟨q1, q2⟩ := HFJ.out.2.2.2 j hlj
          have hlj' : j < W + X := by rw [← HNE.out]; exact hlj
          go_wp2_with fail
          go_roundw
          case rel => exact ⟨j + 1, by omega, by go_num, HFJ.out.step hlj _ (by rw [bit_i64 _ _ (by omega), HNE.out])⟩
          case measure => simp [intOf]; omega
        · obtain rfl : j = N := by omega
          have HBV : Hid (BVec wr (.slice (some ⟨g, 0, none⟩) j j) (bitsOf j k)) := HFJ.out.bvec hN8
          have HBF : Hid (Below WB.heap.size WB wr) := HFJ.out.1
          have hkT : Hid (k < 2 ^ (W + X)) := by rw [← HT.out]; exact hlt
          obtain ⟨a, haE⟩ : ∃ a, a = k / 2 ^ X := ⟨_, rfl⟩
          obtain ⟨m, hmE⟩ : ∃ m, m = 2 ^ X := ⟨_, rfl⟩
          obtain ⟨c, hcE⟩ : ∃ c, c = k % 2 ^ X := ⟨_, rfl⟩
          obtain ⟨r, hrE⟩ : ∃ r, r = pm % 2 ^ sh (W : Int) := ⟨_, rfl⟩
          have ha : a ≤ 256 := by rw [haE]; have := Nat.div_le_self k (2 ^ X); omega
          have hc : c ≤ 256 := by rw [hcE]; have := Nat.mod_le k (2 ^ X); omega
          have hmX : m ≤ 16 ∧ 1 ≤ m := by rw [hmE]; rcases (by omega : X = 1 ∨ X = 2 ∨ X = 3 ∨ X = 4) with rfl | rfl | rfl | rfl <;> decide
          have HA : Hid ((k : Int) / 2 ^ X = (a : Int)) := by show _ = _; rw [haE, Int.natCast_ediv, Int.natCast_pow]; rfl
          have HMM : Hid (IntKind.i64.wrap (2 ^ X) = (m : Int)) := by show _ = _; rw [hmE]; rcases (by omega : X = 1 ∨ X = 2 ∨ X = 3 ∨ X = 4) with rfl | rfl | rfl | rfl <;> decide
          have HCC : Hid ((k : Int).tmod (m : Int) = (c : Int)) := by show _ = _; rw [hcE, hmE]; rfl
          have hPB : a < B * B := by unfold B; omega
          have hQB : c < B * B := by unfold B; omega
          have hRB : r < B * B := by rw [hrE]; exact Nat.lt_of_le_of_lt (Nat.mod_le _ _) hpm
          have hmo : ∀ i, mo W X pv pm i (qOf (bitsOf j k)) = moref W MX pv r a c i := fun i => by rw [HNE.out, haE, hcE, hrE, HMX.out]; exact mo_bits W X pv pm k i hkT.out
          obtain ⟨h2, l2, e2, -, -⟩ := numV_parts a
          obtain ⟨h3, l3, e3, -, -⟩ := numV_parts c
          obtain ⟨h4, l4, e4, -, -⟩ := numV_parts r
          have HP : Hid (∀ W', Calls Try.prog 30 #[.int .u64 (a : Int)] W' fun e w' => e = .returned (.agg #[.int .u64 (h2 : Int), .int .u64 (l2 : Int)]) ∧ Below W'.heap.size W' w') := fun W' => by rw [← e2]; exact refOf_any a (by unfold B; omega) W'
          have HQ : Hid (∀ W', Calls Try.prog 30 #[.int .u64 (c : Int)] W' fun e w' => e = .returned (.agg #[.int .u64 (h3 : Int), .int .u64 (l3 : Int)]) ∧ Below W'.heap.size W' w') := fun W' => by rw [← e3]; exact refOf_any c (by unfold B; omega) W'
          have HR : Hid (∀ W', Calls Try.prog 31 #[.agg #[.int .u64 (h1 : Int), .int .u64 (l1 : Int)], .int .i64 (W : Int)] W' fun e w' => e = .returned (.agg #[.int .u64 (h4 : Int), .int .u64 (l4 : Int)]) ∧ Below W'.heap.size W' w') := fun W' => by rw [← e4, ← HPM.out, hrE]; exact refCut_any pm (W : Int) hpm W'
          obtain ⟨x0, y0, f0, -, -⟩ := numV_parts (moref W MX pv r a c 0)
          have HC0 : Hid (∀ W', Calls Try.prog 56 #[.agg #[.int .u64 (h2 : Int), .int .u64 (l2 : Int)], .agg #[.int .u64 (h3 : Int), .int .u64 (l3 : Int)], .int .i64 (MX : Int)] W' fun e w' => e = .returned (.agg #[.int .u64 (x0 : Int), .int .u64 (y0 : Int)]) ∧ Below W'.heap.size W' w') := fun W' => by rw [← f0, ← e2, ← e3]; exact refAdd_any _ _ _ hPB hQB W'
          obtain ⟨x1, y1, f1, -, -⟩ := numV_parts (moref W MX pv r a c 1)
          have HC1 : Hid (∀ W', Calls Try.prog 57 #[.agg #[.int .u64 (h2 : Int), .int .u64 (l2 : Int)], .agg #[.int .u64 (h3 : Int), .int .u64 (l3 : Int)], .int .i64 (MX : Int)] W' fun e w' => e = .returned (.agg #[.int .u64 (x1 : Int), .int .u64 (y1 : Int)]) ∧ Below W'.heap.size W' w') := fun W' => by rw [← f1, ← e2, ← e3]; exact refSub_any _ _ _ hPB hQB W'
          obtain ⟨x2, y2, f2, -, -⟩ := numV_parts (moref W MX pv r a c 2)
          have HC2 : Hid (∀ W', Calls Try.prog 57 #[.agg #[.int .u64 0, .int .u64 0], .agg #[.int .u64 (h2 : Int), .int .u64 (l2 : Int)], .int .i64 (W : Int)] W' fun e w' => e = .returned (.agg #[.int .u64 (x2 : Int), .int .u64 (y2 : Int)]) ∧ Below W'.heap.size W' w') := fun W' => by rw [← f2, ← e2, ← numV_zero]; exact refSub_any 0 _ _ (by unfold B; omega) hPB W'
          have HOF : Hid (∀ W', Calls Try.prog 30 #[.int .u64 0] W' fun e w' => e = .returned (.agg #[.int .u64 0, .int .u64 0]) ∧ Below W'.heap.size W' w') := fun W' => by rw [← numV_zero]; exact refOf_any 0 (by unfold B; omega) W'
          obtain ⟨cm, hcm⟩ : ∃ cm, cm = cmpN a c := ⟨_, rfl⟩
          have HCM : Hid (∀ W', Calls Try.prog 59 #[.agg #[.int .u64 (h2 : Int), .int .u64 (l2 : Int)], .agg #[.int .u64 (h3 : Int), .int .u64 (l3 : Int)]] W' fun e w' => e = .returned (.int .i64 cm) ∧ Below W'.heap.size W' w') := fun W' => by rw [hcm, ← e2, ← e3]; exact refCmp_any _ _ hPB hQB W'
          obtain ⟨x3, y3, f3, -, -⟩ := numV_parts (a &&& r)
          have HA1 : Hid (∀ W', Calls Try.prog 32 #[.agg #[.int .u64 (h2 : Int), .int .u64 (l2 : Int)], .agg #[.int .u64 (h4 : Int), .int .u64 (l4 : Int)]] W' fun e w' => e = .returned (.agg #[.int .u64 (x3 : Int), .int .u64 (y3 : Int)]) ∧ Below W'.heap.size W' w') := fun W' => by rw [← f3, ← e2, ← e4]; exact refAnd_any _ _ hPB hRB W'
          obtain ⟨x4, y4, f4, -, -⟩ := numV_parts (pv &&& r)
          have HA2 : Hid (∀ W', Calls Try.prog 32 #[.agg #[.int .u64 (h0 : Int), .int .u64 (l0 : Int)], .agg #[.int .u64 (h4 : Int), .int .u64 (l4 : Int)]] W' fun e w' => e = .returned (.agg #[.int .u64 (x4 : Int), .int .u64 (y4 : Int)]) ∧ Below W'.heap.size W' w') := fun W' => by rw [← f4, ← HPV.out, ← e4]; exact refAnd_any _ _ hpv hRB W'
          have HON : Hid (∀ bb W', Calls Try.prog 58 #[.bool bb] W' fun e w' => e = .returned (.agg #[.int .u64 0, .int .u64 ((oneN bb : Nat) : Int)]) ∧ Below W'.heap.size W' w') := fun bb W' => one_any bb W'
          have HNUM : Hid (∀ i, i < 8 → numV (moref W MX pv r a c i) = .agg #[.int .u64 ((seq8 x0 x1 x2 0 0 0 0 0) i : Int), .int .u64 ((seq8 y0 y1 y2 (oneN ((h2 : Int) == h3 && (l2 : Int) == l3)) (oneN (decide (cm < 0))) (oneN (decide (cm ≤ 0))) (oneN (!((h2 : Int) == 0) || !((l2 : Int) == 0))) (oneN ((x3 : Int) == x4 && (y3 : Int) == y4))) i : Int)]) := by
            intro i hi
            match i, hi with
            | 0, _ => exact f0
            | 1, _ => exact f1
            | 2, _ => exact f2
            | 3, _ => show numV (oneN (decide (a = c))) = _; rw [← eq_parts e2 e3]; exact oneN_num _
            | 4, _ => show numV (oneN (decide (a < c))) = _; rw [← cmp_lt, ← hcm]; exact oneN_num _
            | 5, _ => show numV (oneN (decide (a ≤ c))) = _; rw [← cmp_le, ← hcm]; exact oneN_num _
            | 6, _ => show numV (oneN (decide (a ≠ 0))) = _; rw [← zero_parts e2]; exact oneN_num _
            | 7, _ => show numV (oneN (decide (a &&& r = pv &&& r))) = _; rw [← eq_parts f3 f4]; exact oneN_num _
            | i + 8, hi => exact absurd hi (by omega)
          have HME := Lib.hid hmo
          clear f0 f1 f2 f3 f4 hmo e2 e3 e4 haE hmE hcE hrE hPB hQB hRB HF HFJ hcm
          have hp2 := HBF.out.cell (p := ⟨nb, 2, none⟩) (cell_there HK0.out.1).1
          have hp3 := HBF.out.cell (p := ⟨nb, 3, none⟩) (cell_there HK0.out.1).1
          have z2 : wr.cell? ⟨nb, 2, none⟩ = some (.int .u64 (h1 : Int)) := hp2.trans HK0.out.2.2.1
          have z3 : wr.cell? ⟨nb, 3, none⟩ = some (.int .u64 (l1 : Int)) := hp3.trans HK0.out.2.2.2
          clear hp2 hp3
          go_wp2_with fail
          refine regb16 k X a m c h2 l2 h3 l3 (by omega) hX1 hX4 ha hmX.1 hmX.2 hc HA HMM HCC HP HQ _ _ _ _ _ _ _ _ _ _ _ _ _ _ _ _ _ _ _ _ _ _ _ _ _ _ _ _ _ _ _ _ _ _ _ _ _ _ _ _ _ _ _ _ _ _ _ _ _ _ _ _ _ _ _ _ _ _ _ _ _ _ _ _ _ _ _ _ _ _ _ _ _ _ _ _ _ _ _ _ _ _ _ _ _ _ _ _ _ _ _ _ _ _ _ _ _ _ _ _ _ _ _ _ _ _ _ _ _ _ _ _ _ _ _ _ _ _ _ _ _ _ _ _ _ _ _ _ _ _ _ _ _ _ _ _ _ _ _ _ _ _ _ _ _ _ _ _ _ _ _ _ _ _ _ _ _ _ _ _ _ _ _ _ _ _ _ _ _ _ _ _ _ _ _ _ _ _ _ _ _ _ _ _ _ _ _ _ _ _ _ _ ?_
          intro g0 g1 _ _ _ _ _ _ _ _ _ _ _ w3 hB3 f0 b0 f1 b1
          dsimp only
          have HB3 : Hid (Below WB.heap.size WB w3) := HBF.out.trans (hB3.mono HBF.out.size)
          have HBV3 : Hid (BVec w3 (.slice (some ⟨g, 0, none⟩) j j) (bitsOf j k)) := HBV.out.below hB3
          have y2' : w3.cell? ⟨nb, 2, none⟩ = some (.int .u64 (h1 : Int)) := (hB3.cell (p := ⟨nb, 2, none⟩) (cell_there z2).1).trans z2
          have y3' : w3.cell? ⟨nb, 3, none⟩ = some (.int .u64 (l1 : Int)) := (hB3.cell (p := ⟨nb, 3, none⟩) (cell_there z3).1).trans z3
          have c00 : w3.cell? ⟨g0, 0, none⟩ = some (.int .u64 (h2 : Int)) := by simp [World.cell?, b0]
          have c01 : w3.cell? ⟨g0, 1, none⟩ = some (.int .u64 (l2 : Int)) := by simp [World.cell?, b0]
          have c10 : w3.cell? ⟨g1, 0, none⟩ = some (.int .u64 (h3 : Int)) := by simp [World.cell?, b1]
          have c11 : w3.cell? ⟨g1, 1, none⟩ = some (.int .u64 (l3 : Int)) := by simp [World.cell?, b1]
          clear hB3 b0 b1 f0 f1 HBV HBF z2 z3 HP HQ HA HMM HCC hmX ha hc
          go_wp2_with fail
          refine (HR.out _).mono ?_
          rintro e w4 ⟨rfl, hb4⟩
          have HB4 : Hid (Below WB.heap.size WB w4) := HB3.out.trans (hb4.mono HB3.out.size)
          have HBV4 : Hid (BVec w4 (.slice (some ⟨g, 0, none⟩) j j) (bitsOf j k)) := HBV3.out.below hb4
          have d00 := (hb4.cell (p := ⟨g0, 0, none⟩) (cell_there c00).1).trans c00
          have d01 := (hb4.cell (p := ⟨g0, 1, none⟩) (cell_there c01).1).trans c01
          have d10 := (hb4.cell (p := ⟨g1, 0, none⟩) (cell_there c10).1).trans c10
          have d11 := (hb4.cell (p := ⟨g1, 1, none⟩) (cell_there c11).1).trans c11
          clear hb4 c00 c01 c10 c11 y2' y3' HR
          go_wp2_with fail
          have HCL : Hid (Below w4.heap.size w4 (w4.alloc (.cells #[.int .u64 (h4 : Int), .int .u64 (l4 : Int)] 41))) := by show Below _ _ _; exact (by repeat (first | exact Below.refl _ _ | assumption | refine Below.drew ?_ | refine Below.alloc ?_ (by first | omega | (simp <;> omega)) _ | refine Below.setCell ?_ (by first | omega | (simp <;> omega)) _ | refine Below.trans ?_ (Below.mono (by assumption) (by first | omega | (simp <;> omega)))))
          have HCG : Hid (BVec (w4.alloc (.cells #[.int .u64 (h4 : Int), .int .u64 (l4 : Int)] 41)) (.slice (some ⟨g, 0, none⟩) j j) (bitsOf j k)) := HBV4.out.below HCL.out
          have HCW : Hid (Below WB.heap.size WB (w4.alloc (.cells #[.int .u64 (h4 : Int), .int .u64 (l4 : Int)] 41))) := HB4.out.trans (HCL.out.mono HB4.out.size)
          have hS : (w4.alloc (.cells #[.int .u64 (h4 : Int), .int .u64 (l4 : Int)] 41)).cell? ⟨g0, 0, none⟩ = some (.int .u64 (h2 : Int)) ∧ (w4.alloc (.cells #[.int .u64 (h4 : Int), .int .u64 (l4 : Int)] 41)).cell? ⟨g0, 1, none⟩ = some (.int .u64 (l2 : Int)) ∧ (w4.alloc (.cells #[.int .u64 (h4 : Int), .int .u64 (l4 : Int)] 41)).cell? ⟨g1, 0, none⟩ = some (.int .u64 (h3 : Int)) ∧ (w4.alloc (.cells #[.int .u64 (h4 : Int), .int .u64 (l4 : Int)] 41)).cell? ⟨g1, 1, none⟩ = some (.int .u64 (l3 : Int)) ∧ (w4.alloc (.cells #[.int .u64 (h4 : Int), .int .u64 (l4 : Int)] 41)).cell? ⟨w4.heap.size, 0, none⟩ = some (.int .u64 (h4 : Int)) ∧ (w4.alloc (.cells #[.int .u64 (h4 : Int), .int .u64 (l4 : Int)] 41)).cell? ⟨w4.heap.size, 1, none⟩ = some (.int .u64 (l4 : Int)) ∧ (w4.alloc (.cells #[.int .u64 (h4 : Int), .int .u64 (l4 : Int)] 41)).cell? ⟨nb, 0, none⟩ = some (.int .u64 (h0 : Int)) ∧ (w4.alloc (.cells #[.int .u64 (h4 : Int), .int .u64 (l4 : Int)] 41)).cell? ⟨nb, 1, none⟩ = some (.int .u64 (l0 : Int)) ∧ Below (w4.alloc (.cells #[.int .u64 (h4 : Int), .int .u64 (l4 : Int)] 41)).heap.size (w4.alloc (.cells #[.int .u64 (h4 : Int), .int .u64 (l4 : Int)] 41)) (w4.alloc (.cells #[.int .u64 (h4 : Int), .int .u64 (l4 : Int)] 41)) :=
            ⟨(HCL.out.cell (p := ⟨g0, 0, none⟩) (cell_there d00).1).trans d00, (HCL.out.cell (p := ⟨g0, 1, none⟩) (cell_there d01).1).trans d01, (HCL.out.cell (p := ⟨g1, 0, none⟩) (cell_there d10).1).trans d10, (HCL.out.cell (p := ⟨g1, 1, none⟩) (cell_there d11).1).trans d11, by simp [go_sem], by simp [go_sem],
              (HCW.out.cell (p := ⟨nb, 0, none⟩) (cell_there HK0.out.1).1).trans HK0.out.1, (HCW.out.cell (p := ⟨nb, 1, none⟩) (cell_there HK0.out.1).1).trans HK0.out.2.1, Below.refl _ _⟩
          generalize (w4.alloc (.cells #[.int .u64 (h4 : Int), .int .u64 (l4 : Int)] 41)) = WC at *
          clear d00 d01 d10 d11 HCL
          refine regs18 W MX g0 g1 w4.heap.size nb h0 l0 h2 l2 h3 l3 h4 l4 x0 y0 x1 y1 x2 y2 x3 y3 x4 y4 cm HC0 HC1 HC2 HOF HCM HA1 HA2 HON WC hS _ _ _ _ _ _ _ _ _ _ _ _ _ _ _ _ _ _ _ _ _ _ _ _ _ _ _ _ _ _ _ _ _ _ _ _ _ _ _ _ _ _ _ _ _ _ _ _ _ _ _ _ _ _ _ _ _ _ _ _ _ _ _ _ _ _ _ _ _ _ _ _ _ _ _ _ _ _ _ _ _ _ _ _ _ _ _ _ _ _ _ _ _ _ _ _ _ _ _ _ _ _ _ _ _ _ _ _ _ _ _ _ _ _ _ _ _ _ _ _ _ _ _ _ _ _ _ _ _ _ _ _ _ _ _ _ _ _ _ _ _ _ _ _ _ _ _ _ _ _ _ _ _ _ _ _ _ _ _ _ _ _ _ _ _ _ _ _ _ _ _ _ _ _ _ _ _ _ _ _ _ _ _ _ _ _ _ ?_
          intro _ _ _ _ _ _ _ _ _ _ _ _ _ _ _ _ _ _ _ _ _ _ _ _ _ _ _ _ _ _ _ _ _ _ _ _ _ _ _ _ w5 hb5
          dsimp only
          have HBD : Hid (Below WB.heap.size WB (w5.alloc (.cells #[.int .u64 (x0 : Int), .int .u64 (y0 : Int), .int .u64 (x1 : Int), .int .u64 (y1 : Int), .int .u64 (x2 : Int), .int .u64 (y2 : Int), .int .u64 0, .int .u64 ((oneN ((h2 : Int) == h3 && (l2 : Int) == l3) : Nat) : Int), .int .u64 0, .int .u64 ((oneN (decide (cm < 0)) : Nat) : Int), .int .u64 0, .int .u64 ((oneN (decide (cm ≤ 0)) : Nat) : Int), .int .u64 0, .int .u64 ((oneN (!((h2 : Int) == 0) || !((l2 : Int) == 0)) : Nat) : Int), .int .u64 0, .int .u64 ((oneN ((x3 : Int) == x4 && (y3 : Int) == y4) : Nat) : Int)] 41))) := HCW.out.trans (hb5.mono HCW.out.size)
          have HBG : Hid (BVec (w5.alloc (.cells #[.int .u64 (x0 : Int), .int .u64 (y0 : Int), .int .u64 (x1 : Int), .int .u64 (y1 : Int), .int .u64 (x2 : Int), .int .u64 (y2 : Int), .int .u64 0, .int .u64 ((oneN ((h2 : Int) == h3 && (l2 : Int) == l3) : Nat) : Int), .int .u64 0, .int .u64 ((oneN (decide (cm < 0)) : Nat) : Int), .int .u64 0, .int .u64 ((oneN (decide (cm ≤ 0)) : Nat) : Int), .int .u64 0, .int .u64 ((oneN (!((h2 : Int) == 0) || !((l2 : Int) == 0)) : Nat) : Int), .int .u64 0, .int .u64 ((oneN ((x3 : Int) == x4 && (y3 : Int) == y4) : Nat) : Int)] 41)) (.slice (some ⟨g, 0, none⟩) j j) (bitsOf j k)) := HCG.out.below hb5
          obtain ⟨q3, hq3⟩ : ∃ q, q = oneN ((h2 : Int) == h3 && (l2 : Int) == l3) := ⟨_, rfl⟩
          obtain ⟨q4, hq4⟩ : ∃ q, q = oneN (decide (cm < 0)) := ⟨_, rfl⟩
          obtain ⟨q5, hq5⟩ : ∃ q, q = oneN (decide (cm ≤ 0)) := ⟨_, rfl⟩
          obtain ⟨q6, hq6⟩ : ∃ q, q = oneN (!((h2 : Int) == 0) || !((l2 : Int) == 0)) := ⟨_, rfl⟩
          obtain ⟨q7, hq7⟩ : ∃ q, q = oneN ((x3 : Int) == x4 && (y3 : Int) == y4) := ⟨_, rfl⟩
          rw [← hq3, ← hq4, ← hq5, ← hq6, ← hq7] at hb5 HBD HBG HNUM ⊢
          clear hq3 hq4 hq5 hq6 hq7
          have HDD : Hid (∀ i, i < 8 → (w5.alloc (.cells #[.int .u64 (x0 : Int), .int .u64 (y0 : Int), .int .u64 (x1 : Int), .int .u64 (y1 : Int), .int .u64 (x2 : Int), .int .u64 (y2 : Int), .int .u64 0, .int .u64 (q3 : Int), .int .u64 0, .int .u64 (q4 : Int), .int .u64 0, .int .u64 (q5 : Int), .int .u64 0, .int .u64 (q6 : Int), .int .u64 0, .int .u64 (q7 : Int)] 41)).cell? ⟨w5.heap.size, i * 2, none⟩ = some (.int .u64 ((seq8 x0 x1 x2 0 0 0 0 0) i : Int)) ∧ (w5.alloc (.cells #[.int .u64 (x0 : Int), .int .u64 (y0 : Int), .int .u64 (x1 : Int), .int .u64 (y1 : Int), .int .u64 (x2 : Int), .int .u64 (y2 : Int), .int .u64 0, .int .u64 (q3 : Int), .int .u64 0, .int .u64 (q4 : Int), .int .u64 0, .int .u64 (q5 : Int), .int .u64 0, .int .u64 (q6 : Int), .int .u64 0, .int .u64 (q7 : Int)] 41)).cell? ⟨w5.heap.size, i * 2 + 1, none⟩ = some (.int .u64 ((seq8 y0 y1 y2 q3 q4 q5 q6 q7) i : Int))) := by
            intro i hi
            match i, hi with
            | 0, _ => exact ⟨by simp [go_sem, seq8], by simp [go_sem, seq8]⟩
            | 1, _ => exact ⟨by simp [go_sem, seq8], by simp [go_sem, seq8]⟩
            | 2, _ => exact ⟨by simp [go_sem, seq8], by simp [go_sem, seq8]⟩
            | 3, _ => exact ⟨by simp [go_sem, seq8], by simp [go_sem, seq8]⟩
            | 4, _ => exact ⟨by simp [go_sem, seq8], by simp [go_sem, seq8]⟩
            | 5, _ => exact ⟨by simp [go_sem, seq8], by simp [go_sem, seq8]⟩
            | 6, _ => exact ⟨by simp [go_sem, seq8], by simp [go_sem, seq8]⟩
            | 7, _ => exact ⟨by simp [go_sem, seq8], by simp [go_sem, seq8]⟩
            | i + 8, hi => exact absurd hi (by omega)
          have hnum : ∀ i, i < 8 → numV (evalV s.nodes (qOf (bitsOf j k)) (rs i)) = .agg #[.int .u64 ((seq8 x0 x1 x2 0 0 0 0 0) i : Int), .int .u64 ((seq8 y0 y1 y2 q3 q4 q5 q6 q7) i : Int)] := fun i hi => by
            rw [(HM.out i hi).2.2.2, HME.out i]
            exact HNUM.out i hi
          generalize (w5.alloc (.cells #[.int .u64 (x0 : Int), .int .u64 (y0 : Int), .int .u64 (x1 : Int), .int .u64 (y1 : Int), .int .u64 (x2 : Int), .int .u64 (y2 : Int), .int .u64 0, .int .u64 (q3 : Int), .int .u64 0, .int .u64 (q4 : Int), .int .u64 0, .int .u64 (q5 : Int), .int .u64 0, .int .u64 (q6 : Int), .int .u64 0, .int .u64 (q7 : Int)] 41)) = WD at *
          generalize w5.heap.size = d at *
          have HEE : Hid (∀ i, i < 8 → ∀ W', Below WD.heap.size WD W' → Calls Try.prog 40 #[.pointer (some ⟨b, 0, none⟩), mk i, .slice (some ⟨g, 0, none⟩) j j] W' fun e w' => e = .returned (.agg #[.int .u64 ((seq8 x0 x1 x2 0 0 0 0 0) i : Int), .int .u64 ((seq8 y0 y1 y2 q3 q4 q5 q6 q7) i : Int)]) ∧ Below W'.heap.size W' w') := fun i hi W' hW => by
            rw [← hnum i hi]
            have hq := HBD.out.trans (hW.mono HBD.out.size)
            exact eval_sto b O s (mk i) _ (rs i) (bitsOf j k) W' (HS.out.below hq) ((HM.out i hi).2.1.below hq) (by have := (HM.out i hi).2.2.1; omega) (HBG.out.below hW) (by rw [bitsOf_len]; omega)
          have HMD : Hid (∀ i, i < 8 → WD.cell? ⟨mb, i, none⟩ = some (mk i)) := fun i hi => (HBD.out.cell (p := ⟨mb, i, none⟩) (cell_there (HM.out i hi).1).1).trans (HM.out i hi).1
          clear hnum hS hb5
          go_wp2_with fail
          refine loop3s b mb g j d mk (seq8 x0 x1 x2 0 0 0 0 0) (seq8 y0 y1 y2 q3 q4 q5 q6 q7) WD HMD HEE HDD _ _ _ _ _ _ _ _ _ _ _ _ _ _ _ _ _ _ _ _ _ _ _ _ _ _ _ _ _ _ _ _ _ _ _ _ _ _ _ _ _ _ _ _ _ _ _ _ _ _ _ _ _ _ _ _ _ _ _ _ _ _ _ _ _ _ _ _ _ _ _ _ _ _ _ _ _ _ _ _ _ _ _ _ _ _ _ _ _ _ _ _ _ _ _ _ _ _ _ _ _ _ _ _ _ _ _ _ _ _ _ _ _ _ _ _ _ _ _ _ _ _ _ _ _ _ _ _ _ _ _ _ _ _ _ _ _ _ _ _ _ _ _ _ _ _ _ _ _ _ _ _ _ _ _ _ _ _ _ _ _ _ _ _ _ _ _ _ _ _ _ _ _ _ _ _ _ _ _ _ _ _ _ _ _ _ ?_
          intro _ _ _ _ _ _ _ _ _ _ _ _ _ _ _ _ _ w6 hb6
          dsimp only
          have HB6 : Hid (Below WB.heap.size WB w6) := HBD.out.trans (hb6.mono HBD.out.size)
          go_wp2_with fail
          go_roundw
          case rel => exact ⟨k + 1, by omega, rfl, by go_num, HB6⟩
          case measure => simp [intOf]; omega
    · obtain rfl : k = T := by omega
      go_wp2_with fail
      apply HEX.out
      exact HB.out

end Go.Proofs.Ytlnkflmnjkmhkaa

/-
  Contract of quillonref01.Or: bit by bit.
-/
namespace Go.Proofs.Ytlnkflmnjkmhkaa
open Go.RowKit

set_option maxRecDepth 100000 in
set_option maxHeartbeats 4000000 in
theorem refOr_any (a b : Nat) (ha : a < B * B) (hb : b < B * B) (w : World) :
    Calls Try.prog 33 #[numV a, numV b] w (RetNum w (a ||| b)) := by
  obtain ⟨fa, hfa⟩ : ∃ fa, fa = a.testBit := ⟨_, rfl⟩
  obtain ⟨fb, hfb⟩ : ∃ fb, fb = b.testBit := ⟨_, rfl⟩
  have HA : Hid (∀ W, Calls Try.prog 88 #[numV a] W fun e w' => e = .returned (.agg (rowA fa)) ∧ Below W.heap.size W w') := fun W => by rw [hfa]; exact refBits_any a ha W
  have HB : Hid (∀ W, Calls Try.prog 88 #[numV b] W fun e w' => e = .returned (.agg (rowA fb)) ∧ Below W.heap.size W w') := fun W => by rw [hfb]; exact refBits_any b hb W
  have HFA := Lib.hid hfa
  have HFB := Lib.hid hfb
  obtain ⟨h1, l1, e1, -, -⟩ := numV_parts a
  obtain ⟨h2, l2, e2, -, -⟩ := numV_parts b
  rw [e1] at HA ⊢
  rw [e2] at HB ⊢
  clear e1 e2 hfa hfb
  go_enter Try.func33, Try.ntmps33
  go_wp2_with fail
  obtain ⟨W0, hW0⟩ : ∃ W0, W0 = ((w.alloc (.cells #[.int .u64 (h1 : Int), .int .u64 (l1 : Int)] 41)).alloc (.cells #[.int .u64 (h2 : Int), .int .u64 (l2 : Int)] 41)).alloc (.cells #[.int .u64 0, .int .u64 0] 41) := ⟨_, rfl⟩
  have hbW : Below w.heap.size w W0 := by rw [hW0]; exact (by repeat (first | exact Below.refl _ _ | assumption | refine Below.drew ?_ | refine Below.alloc ?_ (by first | omega | (simp <;> omega)) _ | refine Below.setCell ?_ (by first | omega | (simp <;> omega)) _ | refine Below.trans ?_ (Below.mono (by assumption) (by first | omega | (simp <;> omega)))))
  have z0 : w.heap.size < W0.heap.size := by rw [hW0]; simp <;> omega
  have z1 : w.heap.size + 1 < W0.heap.size := by rw [hW0]; simp
  have c0 : W0.cell? ⟨w.heap.size, 0, none⟩ = some (.int .u64 (h1 : Int)) := by rw [hW0]; simp [go_sem]
  have c1 : W0.cell? ⟨w.heap.size, 1, none⟩ = some (.int .u64 (l1 : Int)) := by rw [hW0]; simp [go_sem]
  have c2 : W0.cell? ⟨w.heap.size + 1, 0, none⟩ = some (.int .u64 (h2 : Int)) := by rw [hW0]; simp [go_sem]
  have c3 : W0.cell? ⟨w.heap.size + 1, 1, none⟩ = some (.int .u64 (l2 : Int)) := by rw [hW0]; simp [go_sem]
  have z2 : w.heap.size + 1 + 1 < W0.heap.size := by rw [hW0]; simp
  have cr : W0.heap[w.heap.size + 1 + 1]? = some (.cells #[.int .u64 0, .int .u64 0] 41 (0, 0)) := by
    rw [hW0]
    have := heap_new ((w.alloc (.cells #[.int .u64 (h1 : Int), .int .u64 (l1 : Int)] 41)).alloc (.cells #[.int .u64 (h2 : Int), .int .u64 (l2 : Int)] 41)) (.cells #[.int .u64 0, .int .u64 0] 41)
    simp only [World.size_alloc] at this
    exact this
  rw [← hW0]
  have HBW0 := Lib.hid hbW
  clear hW0 hbW
  refine wp_region_inv (by kernel_rfl) (fun L a' w' => ∃ v5 v6 v8 v9 v10 v11 : Value, a' = ⟨#[.agg #[.int .u64 (h1 : Int), .int .u64 (l1 : Int)], .agg #[.int .u64 (h2 : Int), .int .u64 (l2 : Int)], .pointer (some ⟨w.heap.size, 0, none⟩), .pointer (some ⟨w.heap.size + 1, 0, none⟩), .pointer (some ⟨w.heap.size + 1 + 1, 0, none⟩), v5, v6, undef, v8, v9, v10, v11, undef, undef, undef, undef, undef, undef, undef, undef, undef, undef, undef, undef, undef, undef, undef, undef], []⟩ ∧ TwoI (.agg #[.int .u64 (h1 : Int), .int .u64 (l1 : Int)]) (.agg #[.int .u64 (h2 : Int), .int .u64 (l2 : Int)]) fa fb W0 L v5 v6 v8 v9 v10 v11 w') ?_ ?_ ?_ ?_
  · exact ⟨_, _, _, _, _, _, rfl, TwoI.init (by funext i; unfold did; match i with | 0 => rfl | 1 => rfl | 2 => rfl | 3 => rfl | 4 => rfl | 5 => rfl | 6 => rfl | 7 => rfl | i + 8 => rfl) (below_drewN (Below.refl _ _) 1)⟩
  · rintro L a' w' i hL hi hnd hdep ⟨v5, v6, v8, v9, v10, v11, rfl, hI⟩
    have hL8 : L.size = 8 := hL
    have HI := Lib.hid hI
    have d0 : w'.cell? ⟨w.heap.size, 0, none⟩ = some (.int .u64 (h1 : Int)) := (hI.below.cell (p := ⟨w.heap.size, 0, none⟩) z0).trans c0
    have d1 : w'.cell? ⟨w.heap.size, 1, none⟩ = some (.int .u64 (l1 : Int)) := (hI.below.cell (p := ⟨w.heap.size, 1, none⟩) z0).trans c1
    have d2 : w'.cell? ⟨w.heap.size + 1, 0, none⟩ = some (.int .u64 (h2 : Int)) := (hI.below.cell (p := ⟨w.heap.size + 1, 0, none⟩) z1).trans c2
    have d3 : w'.cell? ⟨w.heap.size + 1, 1, none⟩ = some (.int .u64 (l2 : Int)) := (hI.below.cell (p := ⟨w.heap.size + 1, 1, none⟩) z1).trans c3
    have hZ : Try.zeroCells120 = rowA fun _ => false := by kernel_rfl
    have HZ := Lib.hid hZ
    clear hZ hI
    match i, hi with
    | 0, _ =>
      clear hdep hnd
      refine wpOp_step rfl (fun K' hK => ?_)
      go_simp
      exact hK _ _ ⟨_, _, _, _, _, _, rfl, HI.out.s0 hL8⟩
    | 1, _ =>
      have q := HI.out.h0 (hdep _ rfl ⟨0, .data⟩ (by simp) (by kernel_rfl))
      subst q
      clear hdep hnd
      refine wpOp_step rfl (fun K' hK => ?_)
      go_simp
      refine (HA.out _).mono ?_
      rintro e w1 ⟨rfl, hb1⟩
      exact hK _ _ ⟨_, _, _, _, _, _, rfl, (HI.out.below' hb1).s1 hL8⟩
    | 2, _ =>
      clear hdep hnd
      refine wpOp_step rfl (fun K' hK => ?_)
      go_simp
      exact hK _ _ ⟨_, _, _, _, _, _, rfl, HI.out.s2 hL8⟩
    | 3, _ =>
      have q := HI.out.h2 (hdep _ rfl ⟨2, .data⟩ (by simp) (by kernel_rfl))
      subst q
      clear hdep hnd
      refine wpOp_step rfl (fun K' hK => ?_)
      go_simp
      refine (HB.out _).mono ?_
      rintro e w1 ⟨rfl, hb1⟩
      exact hK _ _ ⟨_, _, _, _, _, _, rfl, (HI.out.below' hb1).s3 hL8⟩
    | 4, _ =>
      have hnd' := Lib.hid hnd
      clear hdep hnd
      refine wpOp_step rfl (fun K' hK => ?_)
      go_simp
      rw [HZ.out]
      exact hK _ _ ⟨_, _, _, _, _, _, rfl, HI.out.s4 hL8 hnd'.out⟩
    | 5, _ =>
      have hnd' := Lib.hid hnd
      clear hdep hnd
      refine wpOp_step rfl (fun K' hK => ?_)
      go_simp
      rw [HZ.out]
      exact hK _ _ ⟨_, _, _, _, _, _, rfl, HI.out.s5 hL8 hnd'.out⟩
    | 6, _ =>
      have q4 := hdep _ rfl ⟨4, .data⟩ (by simp) (by kernel_rfl)
      have q := HI.out.h1 (hdep _ rfl ⟨1, .data⟩ (by simp) (by kernel_rfl))
      subst q
      obtain ⟨g, e1, -, e3⟩ := HI.out.h4 q4
      subst e1
      clear hdep hnd
      refine wpOp_step rfl (fun K' hK => ?_)
      refine store_wanted rfl ?_
      exact wp_store_row 120 (.tmp 5) (.tmp 9) rfl g (rowA fa) rfl rfl 120 _ e3 (by rw [rowA_size]; exact infoRow) (by rw [rowA_size, rowA_size]) (rowA_one _) (hK _ _ ⟨_, _, _, _, _, _, rfl, HI.out.s6 hL8 q4 rfl⟩)
    | 7, _ =>
      have q5 := hdep _ rfl ⟨5, .data⟩ (by simp) (by kernel_rfl)
      have q := HI.out.h3 (hdep _ rfl ⟨3, .data⟩ (by simp) (by kernel_rfl))
      subst q
      obtain ⟨g, e1, -, e3⟩ := HI.out.h5 q5
      subst e1
      clear hdep hnd
      refine wpOp_step rfl (fun K' hK => ?_)
      refine store_wanted rfl ?_
      exact wp_store_row 120 (.tmp 6) (.tmp 11) rfl g (rowA fb) rfl rfl 120 _ e3 (by rw [rowA_size]; exact infoRow) (by rw [rowA_size, rowA_size]) (rowA_one _) (hK _ _ ⟨_, _, _, _, _, _, rfl, HI.out.s7 hL8 q5 rfl⟩)
  · intro i o ho e he
    match i, ho with
    | 0, ho => cases ho; simp at he
    | 1, ho => cases ho; simp at he; subst he; show (0 : Nat) < 1; omega
    | 2, ho => cases ho; simp at he
    | 3, ho => cases ho; simp at he; rcases he with rfl | rfl <;> (simp <;> omega)
    | 4, ho => cases ho; simp at he
    | 5, ho => cases ho; simp at he
    | 6, ho => cases ho; simp at he; rcases he with rfl | rfl | rfl | rfl | rfl | rfl | rfl | rfl | rfl <;> (simp <;> omega)
    | 7, ho => cases ho; simp at he; rcases he with rfl | rfl | rfl | rfl | rfl | rfl | rfl | rfl | rfl | rfl <;> (simp <;> omega)
  rintro L a' w' hall ⟨v5, v6, v8, v9, v10, v11, rfl, hI⟩
  obtain ⟨rfl, rfl, rfl, rfl, gx, gy, hgn, rfl, rfl, hgx, hgy, hrx, hry, hbw⟩ := hI.all hall
  have HRX := Lib.hid hrx
  have HRY := Lib.hid hry
  have HBW := Lib.hid hbw
  have HGN := Lib.hid hgn
  clear hI hall hrx hry hbw hgn HA HB c0 c1 c2 c3
  have crx := (HBW.out.block (w.heap.size + 1 + 1) z2).trans cr
  have hgx0 : w.heap.size + 1 + 1 < gx := by omega
  have hgy0 : w.heap.size + 1 + 1 < gy := by omega
  have H0 : Hid (OpAt or fa fb w gx gy 0 w') := ⟨by rw [HRX.out]; congr 2, HRY.out, ⟨_, _, crx⟩, HBW0.out.trans (HBW.out.mono HBW0.out.size)⟩
  clear crx cr HBW HBW0 z0 z1 z2 HRX HRY
  go_wp2_with fail
  go_loopw [7] (fun i wr => ∃ k : Nat, k ≤ 128 ∧ i = .int .i64 k ∧ Hid (OpAt or fa fb w gx gy k wr)) (fun i _ => 128 - (intOf i).toNat)
  case atStart => exact ⟨0, Nat.zero_le _, rfl, H0⟩
  case round =>
    obtain ⟨k, hk, rfl, HK⟩ := hrel
    by_cases hlt : k < 128
    · obtain ⟨r1, r2, r3⟩ := HK.out.cells hlt
      cases hf1 : fa k <;> cases hf2 : fb k
      all_goals
        rw [hf1] at r1
        rw [hf2] at r2
        have HF1 := Lib.hid hf1
        have HF2 := Lib.hid hf2
        clear hf1 hf2
        go_wp2_with fail
        go_roundw
        case rel => exact ⟨k + 1, by omega, by go_num, HK.out.step hlt HGN.out (by omega) (by rw [HF1.out, HF2.out]; rfl)⟩
        case measure => simp [intOf]; omega
    · obtain rfl : k = 128 := by omega
      obtain ⟨r1, r2, ⟨x0, x1, r3⟩, r4⟩ := HK.out
      have e : (rowA fun i => if i < 128 then or (fa i) (fb i) else fa i) = rowA fun i => or (fa i) (fb i) := rowA_congr fun i hi => by rw [if_pos hi]
      rw [e] at r1
      have HE : Hid (ofBits (fun i => or (fa i) (fb i)) 128 = a ||| b) := by
        show _ = _
        rw [HFA.out, HFB.out]
        refine ofBits_eq (Nat.or_lt_two_pow (by rw [← BB_pow2]; exact ha) (by rw [← BB_pow2]; exact hb)) fun i _ => ?_
        simp [Nat.testBit_or]
      have HNUM : Hid (∀ W, Calls Try.prog 89 #[.agg (rowA fun i => or (fa i) (fb i))] W (RetNum W (a ||| b))) := fun W => by rw [← HE.out]; exact refNum_any _ W
      have HB4 := Lib.hid r4
      have H3 := Lib.hid r3
      clear e r2 r3 r4 HE HK H0 HGN
      have hRR : (rowA fun i => or (fa i) (fb i)).size = 128 := rowA_size _
      generalize (rowA fun i => or (fa i) (fb i)) = RR at r1 HNUM hRR
      go_wp2_with (first
        | (refine wpList_load_row rfl 120 (.tmp 5) rfl gx rfl 120 RR (0, 0) _ r1 Try.underlying120 rfl (by rw [hRR]; exact infoRow) ?_))
      clear r1
      obtain ⟨h3, l3, e3, -, -⟩ := numV_parts (a ||| b)
      have HE3 := Lib.hid e3
      have HNUM2 : Hid (∀ W, Calls Try.prog 89 #[.agg RR] W fun e w' => e = .returned (.agg #[.int .u64 (h3 : Int), .int .u64 (l3 : Int)]) ∧ Below W.heap.size W w') := fun W => by rw [← HE3.out]; exact HNUM.out W
      clear HNUM e3
      refine (HNUM2.out _).mono ?_
      rintro e w1 ⟨rfl, hb1⟩
      have hr := (hb1.block (w.heap.size + 1 + 1) (lt_of_block H3.out)).trans H3.out
      have q0 : w1.cell? ⟨w.heap.size + 1 + 1, 0, none⟩ = some x0 := by simp [World.cell?, hr]
      have q1 : w1.cell? ⟨w.heap.size + 1 + 1, 1, none⟩ = some x1 := by simp [World.cell?, hr]
      have qz : ∀ j, w1.frozen? ⟨w.heap.size + 1 + 1, j, none⟩ = false := fun j => by simp [World.frozen?, hr]
      have HR := Lib.hid hr
      have HB1 : Hid (Below w.heap.size w w1) := HB4.out.trans (hb1.mono HB4.out.size)
      clear hr hb1
      go_wp2_with fail
      have hg := set_lo (.int .u64 (l3 : Int)) (set_hi (.int .u64 (h3 : Int)) HR.out)
      exact bodyPost_ret (v := .agg #[.int .u64 (h3 : Int), .int .u64 (l3 : Int)]) (results_cell_row Try.results33 _ _ (w.heap.size + 1 + 1) _ _ _ _ (by simp [go_sem]) hg Try.underlying41 rfl (by kernel_rfl)) rfl ⟨by rw [HE3.out], (HB1.out.setCell (by show w.heap.size ≤ w.heap.size + 1 + 1; omega) _).setCell (by show w.heap.size ≤ w.heap.size + 1 + 1; omega) _⟩

end Go.Proofs.Ytlnkflmnjkmhkaa
