/-
  Lemmas, joined: Law17R, Law17S, Law17T.
-/
import Derived.Test.YtlnkflmnjkmhkaaJR30
import Derived.Test.YtlnkflmnjkmhkaaJR31
/-
  The law SymbvMeans of layer 17: the region that makes p, q, r.
-/
namespace Go.Proofs.Ytlnkflmnjkmhkaa
open Go.RowKit Go.Maps

def findRegion (n : Nat) : Code → Option Code
  | .region k ops any => if k = n then some (.region k ops any) else none
  | .seq a b => match findRegion n a with
    | some c => some c
    | none => findRegion n b
  | .block _ c => findRegion n c
  | .scope c => findRegion n c
  | .loop c => findRegion n c
  | .cond _ a b => match findRegion n a with
    | some c => some c
    | none => findRegion n b
  | _ => none
noncomputable def reg17 (n : Nat) : Code := (Try.f4.body.bind (findRegion n)).getD .skip

theorem u64_small (x : Nat) (h : x ≤ 256) : IntKind.u64.wrap (x : Int) = (x : Int) := by rw [wrap_cast, Nat.mod_eq_of_lt (by unfold B; omega)]

set_option maxRecDepth 100000 in
set_option maxHeartbeats 3000000 in
theorem reg19 (k X nb a m c : Nat) (h1 l1 h2 l2 h3 l3 h4 l4 : Nat) (hk : k ≤ 256) (hX1 : 1 ≤ X) (hX4 : X ≤ 4) (ha : a ≤ 256) (hm : m ≤ 16) (hm1 : 1 ≤ m) (hc : c ≤ 256) (HA : Hid ((k : Int) / 2 ^ X = (a : Int))) (HMM : Hid (IntKind.i64.wrap (2 ^ X) = (m : Int))) (HCC : Hid ((k : Int).tmod (m : Int) = (c : Int)))
    (HP : Hid (∀ W, Calls Try.prog 30 #[.int .u64 (a : Int)] W fun e w' => e = .returned (.agg #[.int .u64 (h2 : Int), .int .u64 (l2 : Int)]) ∧ Below W.heap.size W w'))
    (HK : Hid (∀ W, Calls Try.prog 30 #[.int .u64 (c : Int)] W fun e w' => e = .returned (.agg #[.int .u64 (h3 : Int), .int .u64 (l3 : Int)]) ∧ Below W.heap.size W w'))
    (HR : Hid (∀ W, Calls Try.prog 31 #[.agg #[.int .u64 (h1 : Int), .int .u64 (l1 : Int)], .int .i64 6] W fun e w' => e = .returned (.agg #[.int .u64 (h4 : Int), .int .u64 (l4 : Int)]) ∧ Below W.heap.size W w'))
    (WB : World) (z0 : nb < WB.heap.size) (k0 : WB.cell? ⟨nb, 0, none⟩ = some (.int .u64 (h1 : Int))) (k1 : WB.cell? ⟨nb, 1, none⟩ = some (.int .u64 (l1 : Int)))
    (c0 c1 c2 c3 c4 c5 c7 c8 c9 c11 c12 c13 c14 c15 c16 c17 c19 c20 c21 c22 c23 c24 c25 c26 c27 c28 c29 c30 c31 c32 c33 c34 c35 c36 c37 c38 c39 c40 c41 c42 c43 c44 c45 c46 c47 c48 c49 c50 c51 c52 c53 c54 c55 c56 c57 c58 c59 c60 c61 c62 c63 c64 c65 c66 c67 c68 c69 c70 c71 c72 c73 c74 c75 c76 c77 c78 c79 c80 c81 c82 c83 c84 c85 c86 c87 c88 c89 c90 c91 c92 c93 c94 c95 c96 c97 c98 c99 c100 c101 c102 c103 c104 c105 c106 c107 c108 c109 c110 c111 c112 c113 c114 c115 c116 c117 c118 c119 c120 c121 c122 c123 c124 c125 c126 c127 c128 c129 c130 c131 c132 c133 c134 c135 c136 c137 c138 c139 c140 c141 c142 c143 c144 c145 c146 c147 c148 c149 c150 c151 c152 c153 c154 c155 c156 c157 c158 c159 c160 c161 c162 c163 c164 c165 c166 c167 c168 c169 c170 c171 c172 c173 c174 c175 c176 c177 c178 c179 c180 c181 c182 c183 c184 c185 c186 c187 c188 c189 c190 c191 c192 c193 c194 c195 c196 c197 c198 c199 c200 c201 c202 c203 c204 c205 c206 c207 c208 : Value) (Q : Exit → Act → World → Prop)
    (hexit : ∀ (g0 g1 g2 : Nat) (w' : World), G3 (.int .i64 (k : Int)) (.int .i64 (X : Int)) (.int .i64 (a : Int)) (.int .u64 (a : Int)) (.agg #[.int .u64 (h2 : Int), .int .u64 (l2 : Int)]) (.int .i64 (k : Int)) (.int .i64 (X : Int)) (.int .i64 (m : Int)) (.int .i64 (c : Int)) (.int .u64 (c : Int)) (.agg #[.int .u64 (h3 : Int), .int .u64 (l3 : Int)]) (.agg #[.int .u64 (h1 : Int), .int .u64 (l1 : Int)]) (.agg #[.int .u64 (h4 : Int), .int .u64 (l4 : Int)]) (.int .u64 (h2 : Int)) (.int .u64 (l2 : Int)) (.int .u64 (h3 : Int)) (.int .u64 (l3 : Int)) (.int .u64 (h4 : Int)) (.int .u64 (l4 : Int)) WB (Array.replicate 19 true) (.int .i64 (k : Int)) (.int .i64 (X : Int)) (.int .i64 (a : Int)) (.int .u64 (a : Int)) (.agg #[.int .u64 (h2 : Int), .int .u64 (l2 : Int)]) (.int .i64 (k : Int)) (.int .i64 (X : Int)) (.int .i64 (m : Int)) (.int .i64 (c : Int)) (.int .u64 (c : Int)) (.agg #[.int .u64 (h3 : Int), .int .u64 (l3 : Int)]) (.agg #[.int .u64 (h1 : Int), .int .u64 (l1 : Int)]) (.agg #[.int .u64 (h4 : Int), .int .u64 (l4 : Int)]) (.pointer (some ⟨g0, 0, none⟩)) (.pointer (some ⟨g1, 0, none⟩)) (.pointer (some ⟨g2, 0, none⟩)) w' → Q .normal ⟨#[c0, c1, c2, c3, c4, c5, .pointer (some ⟨nb, 0, none⟩), c7, c8, c9, .int .i64 (X : Int), c11, c12, c13, c14, c15, c16, c17, .int .i64 (k : Int), c19, c20, .pointer (some ⟨g0, 0, none⟩), .pointer (some ⟨g1, 0, none⟩), .pointer (some ⟨g2, 0, none⟩), c24, c25, c26, c27, c28, c29, c30, c31, c32, c33, c34, c35, c36, c37, c38, c39, c40, c41, c42, c43, c44, c45, c46, c47, c48, c49, c50, c51, c52, c53, c54, c55, c56, c57, c58, c59, c60, c61, c62, c63, c64, c65, c66, c67, c68, c69, c70, c71, c72, c73, c74, c75, c76, c77, c78, c79, c80, c81, c82, c83, c84, c85, c86, c87, c88, c89, c90, c91, c92, c93, c94, c95, c96, c97, c98, c99, c100, c101, c102, c103, c104, c105, c106, c107, c108, c109, c110, c111, c112, c113, c114, c115, c116, c117, c118, c119, c120, c121, c122, c123, c124, c125, c126, c127, c128, c129, c130, c131, c132, c133, c134, c135, c136, c137, c138, c139, (.int .i64 (k : Int)), (.int .i64 (X : Int)), (.int .i64 (a : Int)), (.int .u64 (a : Int)), (.agg #[.int .u64 (h2 : Int), .int .u64 (l2 : Int)]), (.int .i64 (k : Int)), (.int .i64 (X : Int)), (.int .i64 (m : Int)), (.int .i64 (c : Int)), (.int .u64 (c : Int)), (.agg #[.int .u64 (h3 : Int), .int .u64 (l3 : Int)]), (.agg #[.int .u64 (h1 : Int), .int .u64 (l1 : Int)]), (.agg #[.int .u64 (h4 : Int), .int .u64 (l4 : Int)]), c153, c154, c155, c156, c157, c158, c159, c160, c161, c162, c163, c164, c165, c166, c167, c168, c169, c170, c171, c172, c173, c174, c175, c176, c177, c178, c179, c180, c181, c182, c183, c184, c185, c186, c187, c188, c189, c190, c191, c192, c193, c194, c195, c196, c197, c198, c199, c200, c201, c202, c203, c204, c205, c206, c207, c208], []⟩ w') :
    Code.wp Try.prog (reg17 19) Q ⟨#[c0, c1, c2, c3, c4, c5, .pointer (some ⟨nb, 0, none⟩), c7, c8, c9, .int .i64 (X : Int), c11, c12, c13, c14, c15, c16, c17, .int .i64 (k : Int), c19, c20, c21, c22, c23, c24, c25, c26, c27, c28, c29, c30, c31, c32, c33, c34, c35, c36, c37, c38, c39, c40, c41, c42, c43, c44, c45, c46, c47, c48, c49, c50, c51, c52, c53, c54, c55, c56, c57, c58, c59, c60, c61, c62, c63, c64, c65, c66, c67, c68, c69, c70, c71, c72, c73, c74, c75, c76, c77, c78, c79, c80, c81, c82, c83, c84, c85, c86, c87, c88, c89, c90, c91, c92, c93, c94, c95, c96, c97, c98, c99, c100, c101, c102, c103, c104, c105, c106, c107, c108, c109, c110, c111, c112, c113, c114, c115, c116, c117, c118, c119, c120, c121, c122, c123, c124, c125, c126, c127, c128, c129, c130, c131, c132, c133, c134, c135, c136, c137, c138, c139, c140, c141, c142, c143, c144, c145, c146, c147, c148, c149, c150, c151, c152, c153, c154, c155, c156, c157, c158, c159, c160, c161, c162, c163, c164, c165, c166, c167, c168, c169, c170, c171, c172, c173, c174, c175, c176, c177, c178, c179, c180, c181, c182, c183, c184, c185, c186, c187, c188, c189, c190, c191, c192, c193, c194, c195, c196, c197, c198, c199, c200, c201, c202, c203, c204, c205, c206, c207, c208], []⟩ WB := by
  dsimp only at hexit ⊢
  conv => arg 2; whnf
  have HEX := Lib.hid hexit
  clear hexit
  refine wp_region_inv (by kernel_rfl) (fun L a' w' => ∃ u0 u1 u2 u3 u4 u5 u6 u7 u8 u9 u10 u11 u12 v0 v1 v2 : Value, a' = ⟨#[c0, c1, c2, c3, c4, c5, .pointer (some ⟨nb, 0, none⟩), c7, c8, c9, .int .i64 (X : Int), c11, c12, c13, c14, c15, c16, c17, .int .i64 (k : Int), c19, c20, v0, v1, v2, c24, c25, c26, c27, c28, c29, c30, c31, c32, c33, c34, c35, c36, c37, c38, c39, c40, c41, c42, c43, c44, c45, c46, c47, c48, c49, c50, c51, c52, c53, c54, c55, c56, c57, c58, c59, c60, c61, c62, c63, c64, c65, c66, c67, c68, c69, c70, c71, c72, c73, c74, c75, c76, c77, c78, c79, c80, c81, c82, c83, c84, c85, c86, c87, c88, c89, c90, c91, c92, c93, c94, c95, c96, c97, c98, c99, c100, c101, c102, c103, c104, c105, c106, c107, c108, c109, c110, c111, c112, c113, c114, c115, c116, c117, c118, c119, c120, c121, c122, c123, c124, c125, c126, c127, c128, c129, c130, c131, c132, c133, c134, c135, c136, c137, c138, c139, u0, u1, u2, u3, u4, u5, u6, u7, u8, u9, u10, u11, u12, c153, c154, c155, c156, c157, c158, c159, c160, c161, c162, c163, c164, c165, c166, c167, c168, c169, c170, c171, c172, c173, c174, c175, c176, c177, c178, c179, c180, c181, c182, c183, c184, c185, c186, c187, c188, c189, c190, c191, c192, c193, c194, c195, c196, c197, c198, c199, c200, c201, c202, c203, c204, c205, c206, c207, c208], []⟩ ∧ G3 (.int .i64 (k : Int)) (.int .i64 (X : Int)) (.int .i64 (a : Int)) (.int .u64 (a : Int)) (.agg #[.int .u64 (h2 : Int), .int .u64 (l2 : Int)]) (.int .i64 (k : Int)) (.int .i64 (X : Int)) (.int .i64 (m : Int)) (.int .i64 (c : Int)) (.int .u64 (c : Int)) (.agg #[.int .u64 (h3 : Int), .int .u64 (l3 : Int)]) (.agg #[.int .u64 (h1 : Int), .int .u64 (l1 : Int)]) (.agg #[.int .u64 (h4 : Int), .int .u64 (l4 : Int)]) (.int .u64 (h2 : Int)) (.int .u64 (l2 : Int)) (.int .u64 (h3 : Int)) (.int .u64 (l3 : Int)) (.int .u64 (h4 : Int)) (.int .u64 (l4 : Int)) WB L u0 u1 u2 u3 u4 u5 u6 u7 u8 u9 u10 u11 u12 v0 v1 v2 w') ?_ ?_ ?_ ?_
  · exact ⟨_, _, _, _, _, _, _, _, _, _, _, _, _, _, _, _, rfl, G3.init (by funext i; unfold did; match i with | 0 => rfl | 1 => rfl | 2 => rfl | 3 => rfl | 4 => rfl | 5 => rfl | 6 => rfl | 7 => rfl | 8 => rfl | 9 => rfl | 10 => rfl | 11 => rfl | 12 => rfl | 13 => rfl | 14 => rfl | 15 => rfl | 16 => rfl | 17 => rfl | 18 => rfl | i + 19 => rfl) (below_drewN (Below.refl _ _) 1)⟩
  · rintro L a' w' i hL hi hnd hdep ⟨u0, u1, u2, u3, u4, u5, u6, u7, u8, u9, u10, u11, u12, v0, v1, v2, rfl, hI⟩
    dsimp only
    have hL19 : L.size = 19 := hL
    have HI := Lib.hid hI
    have d0 : w'.cell? ⟨nb, 0, none⟩ = some (.int .u64 (h1 : Int)) := (hI.below.cell (p := ⟨nb, 0, none⟩) z0).trans k0
    have d1 : w'.cell? ⟨nb, 1, none⟩ = some (.int .u64 (l1 : Int)) := (hI.below.cell (p := ⟨nb, 1, none⟩) z0).trans k1
    clear hI
    match i, hi with
    | 0, _ =>
      clear hdep hnd
      refine wpOp_step rfl (fun K' hK => ?_)
      go_simp
      exact hK _ _ ⟨_, _, _, _, _, _, _, _, _, _, _, _, _, _, _, _, rfl, HI.out.s0 hL19⟩
    | 1, _ =>
      clear hdep hnd
      refine wpOp_step rfl (fun K' hK => ?_)
      go_simp
      exact hK _ _ ⟨_, _, _, _, _, _, _, _, _, _, _, _, _, _, _, _, rfl, HI.out.s1 hL19⟩
    | 2, _ =>
      have q0 := HI.out.h0 (hdep _ rfl ⟨0, .data⟩ (by simp) (by kernel_rfl))
      subst q0
      have q1 := HI.out.h1 (hdep _ rfl ⟨1, .data⟩ (by simp) (by kernel_rfl))
      subst q1
      clear hdep hnd
      refine wpOp_step rfl (fun K' hK => ?_)
      go_simp
      rw [HA.out]
      exact hK _ _ ⟨_, _, _, _, _, _, _, _, _, _, _, _, _, _, _, _, rfl, HI.out.s2 hL19⟩
    | 3, _ =>
      have q2 := HI.out.h2 (hdep _ rfl ⟨2, .data⟩ (by simp) (by kernel_rfl))
      subst q2
      clear hdep hnd
      refine wpOp_step rfl (fun K' hK => ?_)
      go_simp
      rw [u64_small a (by omega)]
      exact hK _ _ ⟨_, _, _, _, _, _, _, _, _, _, _, _, _, _, _, _, rfl, HI.out.s3 hL19⟩
    | 4, _ =>
      have q3 := HI.out.h3 (hdep _ rfl ⟨3, .data⟩ (by simp) (by kernel_rfl))
      subst q3
      clear hdep hnd
      refine wpOp_step rfl (fun K' hK => ?_)
      go_simp
      refine (HP.out _).mono ?_
      rintro e w1 ⟨rfl, hb1⟩
      exact hK _ _ ⟨_, _, _, _, _, _, _, _, _, _, _, _, _, _, _, _, rfl, (HI.out.below' hb1).s4 hL19⟩
    | 5, _ =>
      clear hdep hnd
      refine wpOp_step rfl (fun K' hK => ?_)
      go_simp
      exact hK _ _ ⟨_, _, _, _, _, _, _, _, _, _, _, _, _, _, _, _, rfl, HI.out.s5 hL19⟩
    | 6, _ =>
      clear hdep hnd
      refine wpOp_step rfl (fun K' hK => ?_)
      go_simp
      exact hK _ _ ⟨_, _, _, _, _, _, _, _, _, _, _, _, _, _, _, _, rfl, HI.out.s6 hL19⟩
    | 7, _ =>
      have q6 := HI.out.h6 (hdep _ rfl ⟨6, .data⟩ (by simp) (by kernel_rfl))
      subst q6
      clear hdep hnd
      refine wpOp_step rfl (fun K' hK => ?_)
      go_simp
      rw [HMM.out]
      exact hK _ _ ⟨_, _, _, _, _, _, _, _, _, _, _, _, _, _, _, _, rfl, HI.out.s7 hL19⟩
    | 8, _ =>
      have q5 := HI.out.h5 (hdep _ rfl ⟨5, .data⟩ (by simp) (by kernel_rfl))
      subst q5
      have q7 := HI.out.h7 (hdep _ rfl ⟨7, .data⟩ (by simp) (by kernel_rfl))
      subst q7
      clear hdep hnd
      refine wpOp_step rfl (fun K' hK => ?_)
      go_simp
      rw [if_neg (by omega)]
      go_simp
      rw [HCC.out]
      exact hK _ _ ⟨_, _, _, _, _, _, _, _, _, _, _, _, _, _, _, _, rfl, HI.out.s8 hL19⟩
    | 9, _ =>
      have q8 := HI.out.h8 (hdep _ rfl ⟨8, .data⟩ (by simp) (by kernel_rfl))
      subst q8
      clear hdep hnd
      refine wpOp_step rfl (fun K' hK => ?_)
      go_simp
      rw [u64_small c (by omega)]
      exact hK _ _ ⟨_, _, _, _, _, _, _, _, _, _, _, _, _, _, _, _, rfl, HI.out.s9 hL19⟩
    | 10, _ =>
      have q9 := HI.out.h9 (hdep _ rfl ⟨9, .data⟩ (by simp) (by kernel_rfl))
      subst q9
      clear hdep hnd
      refine wpOp_step rfl (fun K' hK => ?_)
      go_simp
      refine (HK.out _).mono ?_
      rintro e w1 ⟨rfl, hb1⟩
      exact hK _ _ ⟨_, _, _, _, _, _, _, _, _, _, _, _, _, _, _, _, rfl, (HI.out.below' hb1).s10 hL19⟩
    | 11, _ =>
      clear hdep hnd
      refine wpOp_step rfl (fun K' hK => ?_)
      go_simp
      exact hK _ _ ⟨_, _, _, _, _, _, _, _, _, _, _, _, _, _, _, _, rfl, HI.out.s11 hL19⟩
    | 12, _ =>
      have q11 := HI.out.h11 (hdep _ rfl ⟨11, .data⟩ (by simp) (by kernel_rfl))
      subst q11
      clear hdep hnd
      refine wpOp_step rfl (fun K' hK => ?_)
      go_simp
      refine (HR.out _).mono ?_
      rintro e w1 ⟨rfl, hb1⟩
      exact hK _ _ ⟨_, _, _, _, _, _, _, _, _, _, _, _, _, _, _, _, rfl, (HI.out.below' hb1).s12 hL19⟩
    | 13, _ =>
      have hnd' := Lib.hid hnd
      clear hdep hnd
      refine wpOp_step rfl (fun K' hK => ?_)
      go_simp
      exact hK _ _ ⟨_, _, _, _, _, _, _, _, _, _, _, _, _, _, _, _, rfl, HI.out.s13 hL19 hnd'.out⟩
    | 14, _ =>
      have hnd' := Lib.hid hnd
      clear hdep hnd
      refine wpOp_step rfl (fun K' hK => ?_)
      go_simp
      exact hK _ _ ⟨_, _, _, _, _, _, _, _, _, _, _, _, _, _, _, _, rfl, HI.out.s14 hL19 hnd'.out⟩
    | 15, _ =>
      have hnd' := Lib.hid hnd
      clear hdep hnd
      refine wpOp_step rfl (fun K' hK => ?_)
      go_simp
      exact hK _ _ ⟨_, _, _, _, _, _, _, _, _, _, _, _, _, _, _, _, rfl, HI.out.s15 hL19 hnd'.out⟩
    | 16, _ =>
      have qa := hdep _ rfl ⟨13, .data⟩ (by simp) (by kernel_rfl)
      have qc := HI.out.h4 (hdep _ rfl ⟨4, .data⟩ (by simp) (by kernel_rfl))
      subst qc
      obtain ⟨g, e1, -, e3⟩ := HI.out.b0 qa
      subst e1
      have hnd' := Lib.hid hnd
      have z0 : ∃ x, w'.cell? ⟨g, 0, none⟩ = some x := by rw [hnd'.out] at e3; exact ⟨_, by simp [World.cell?, e3]; rfl⟩
      have z1 : ∃ x, w'.cell? ⟨g, 1, none⟩ = some x := by rw [hnd'.out] at e3; exact ⟨_, by simp [World.cell?, e3]; rfl⟩
      obtain ⟨x0, y0⟩ := z0
      obtain ⟨x1, y1⟩ := z1
      have f0 : w'.frozen? ⟨g, 0, none⟩ = false := by simp [World.frozen?, e3]
      have f1 : w'.frozen? ⟨g, 1, none⟩ = false := by simp [World.frozen?, e3]
      have QA := Lib.hid qa
      clear hdep hnd e3 qa
      refine wpOp_step rfl (fun K' hK => ?_)
      go_simp
      exact hK _ _ ⟨_, _, _, _, _, _, _, _, _, _, _, _, _, _, _, _, rfl, HI.out.s16 hL19 QA.out hnd'.out⟩
    | 17, _ =>
      have qa := hdep _ rfl ⟨14, .data⟩ (by simp) (by kernel_rfl)
      have qc := HI.out.h10 (hdep _ rfl ⟨10, .data⟩ (by simp) (by kernel_rfl))
      subst qc
      obtain ⟨g, e1, -, e3⟩ := HI.out.b1 qa
      subst e1
      have hnd' := Lib.hid hnd
      have z0 : ∃ x, w'.cell? ⟨g, 0, none⟩ = some x := by rw [hnd'.out] at e3; exact ⟨_, by simp [World.cell?, e3]; rfl⟩
      have z1 : ∃ x, w'.cell? ⟨g, 1, none⟩ = some x := by rw [hnd'.out] at e3; exact ⟨_, by simp [World.cell?, e3]; rfl⟩
      obtain ⟨x0, y0⟩ := z0
      obtain ⟨x1, y1⟩ := z1
      have f0 : w'.frozen? ⟨g, 0, none⟩ = false := by simp [World.frozen?, e3]
      have f1 : w'.frozen? ⟨g, 1, none⟩ = false := by simp [World.frozen?, e3]
      have QA := Lib.hid qa
      clear hdep hnd e3 qa
      refine wpOp_step rfl (fun K' hK => ?_)
      go_simp
      exact hK _ _ ⟨_, _, _, _, _, _, _, _, _, _, _, _, _, _, _, _, rfl, HI.out.s17 hL19 QA.out hnd'.out⟩
    | 18, _ =>
      have qa := hdep _ rfl ⟨15, .data⟩ (by simp) (by kernel_rfl)
      have qc := HI.out.h12 (hdep _ rfl ⟨12, .data⟩ (by simp) (by kernel_rfl))
      subst qc
      obtain ⟨g, e1, -, e3⟩ := HI.out.b2 qa
      subst e1
      have hnd' := Lib.hid hnd
      have z0 : ∃ x, w'.cell? ⟨g, 0, none⟩ = some x := by rw [hnd'.out] at e3; exact ⟨_, by simp [World.cell?, e3]; rfl⟩
      have z1 : ∃ x, w'.cell? ⟨g, 1, none⟩ = some x := by rw [hnd'.out] at e3; exact ⟨_, by simp [World.cell?, e3]; rfl⟩
      obtain ⟨x0, y0⟩ := z0
      obtain ⟨x1, y1⟩ := z1
      have f0 : w'.frozen? ⟨g, 0, none⟩ = false := by simp [World.frozen?, e3]
      have f1 : w'.frozen? ⟨g, 1, none⟩ = false := by simp [World.frozen?, e3]
      have QA := Lib.hid qa
      clear hdep hnd e3 qa
      refine wpOp_step rfl (fun K' hK => ?_)
      go_simp
      exact hK _ _ ⟨_, _, _, _, _, _, _, _, _, _, _, _, _, _, _, _, rfl, HI.out.s18 hL19 QA.out hnd'.out⟩
    | i + 19, hi => exact absurd hi (by show ¬ (i + 19 < 19); omega)
  · intro i o ho e he
    match i, ho with
    | 0, ho => cases ho; simp at he
    | 1, ho => cases ho; simp at he
    | 2, ho => cases ho; simp at he; rcases he with rfl | rfl <;> simp
    | 3, ho => cases ho; simp at he; subst he; simp
    | 4, ho => cases ho; simp at he; subst he; simp
    | 5, ho => cases ho; simp at he
    | 6, ho => cases ho; simp at he
    | 7, ho => cases ho; simp at he; subst he; simp
    | 8, ho => cases ho; simp at he; rcases he with rfl | rfl <;> simp
    | 9, ho => cases ho; simp at he; subst he; simp
    | 10, ho => cases ho; simp at he; rcases he with rfl | rfl <;> simp
    | 11, ho => cases ho; simp at he
    | 12, ho => cases ho; simp at he; rcases he with rfl | rfl <;> simp
    | 13, ho => cases ho; simp at he
    | 14, ho => cases ho; simp at he
    | 15, ho => cases ho; simp at he
    | 16, ho => cases ho; simp at he; rcases he with rfl | rfl | rfl | rfl | rfl | rfl | rfl | rfl | rfl | rfl | rfl | rfl | rfl | rfl | rfl | rfl | rfl | rfl | rfl <;> simp
    | 17, ho => cases ho; simp at he; rcases he with rfl | rfl | rfl | rfl | rfl | rfl | rfl | rfl | rfl | rfl | rfl | rfl | rfl | rfl | rfl | rfl | rfl | rfl | rfl | rfl <;> simp
    | 18, ho => cases ho; simp at he; rcases he with rfl | rfl | rfl | rfl | rfl | rfl | rfl | rfl | rfl | rfl | rfl | rfl | rfl | rfl | rfl | rfl | rfl | rfl | rfl | rfl | rfl <;> simp
    | i + 19, ho => simp at ho
  · rintro L a' w' hall ⟨u0, u1, u2, u3, u4, u5, u6, u7, u8, u9, u10, u11, u12, v0, v1, v2, rfl, hI⟩
    have hall' : ∀ i, i < 19 → did L i = true := hall
    obtain ⟨g0, p0, -⟩ := hI.b0 (hall' 13 (by omega))
    obtain ⟨g1, p1, -⟩ := hI.b1 (hall' 14 (by omega))
    obtain ⟨g2, p2, -⟩ := hI.b2 (hall' 15 (by omega))
    have t0 := hI.h0 (hall' 0 (by omega))
    subst t0
    have t1 := hI.h1 (hall' 1 (by omega))
    subst t1
    have t2 := hI.h2 (hall' 2 (by omega))
    subst t2
    have t3 := hI.h3 (hall' 3 (by omega))
    subst t3
    have t4 := hI.h4 (hall' 4 (by omega))
    subst t4
    have t5 := hI.h5 (hall' 5 (by omega))
    subst t5
    have t6 := hI.h6 (hall' 6 (by omega))
    subst t6
    have t7 := hI.h7 (hall' 7 (by omega))
    subst t7
    have t8 := hI.h8 (hall' 8 (by omega))
    subst t8
    have t9 := hI.h9 (hall' 9 (by omega))
    subst t9
    have t10 := hI.h10 (hall' 10 (by omega))
    subst t10
    have t11 := hI.h11 (hall' 11 (by omega))
    subst t11
    have t12 := hI.h12 (hall' 12 (by omega))
    subst t12
    subst p0 p1 p2
    exact HEX.out g0 g1 g2 w' (hI.full hall')

end Go.Proofs.Ytlnkflmnjkmhkaa

/-
  The law SymbvMeans of layer 17: the region that asks the reference for ten numbers.
-/
namespace Go.Proofs.Ytlnkflmnjkmhkaa
open Go.RowKit Go.Maps

theorem held23 {g0 g1 g2 g3 : Nat} {h2 l2 h3 l3 h4 l4 h5 l5 : Nat} {WC W w1 : World} (hb : Below W.heap.size W w1) (h : W.cell? ⟨g0, 0, none⟩ = some (.int .u64 (h2 : Int)) ∧ W.cell? ⟨g0, 1, none⟩ = some (.int .u64 (l2 : Int)) ∧ W.cell? ⟨g1, 0, none⟩ = some (.int .u64 (h3 : Int)) ∧ W.cell? ⟨g1, 1, none⟩ = some (.int .u64 (l3 : Int)) ∧ W.cell? ⟨g2, 0, none⟩ = some (.int .u64 (h4 : Int)) ∧ W.cell? ⟨g2, 1, none⟩ = some (.int .u64 (l4 : Int)) ∧ W.cell? ⟨g3, 0, none⟩ = some (.int .u64 (h5 : Int)) ∧ W.cell? ⟨g3, 1, none⟩ = some (.int .u64 (l5 : Int)) ∧ Below WC.heap.size WC W) :
    w1.cell? ⟨g0, 0, none⟩ = some (.int .u64 (h2 : Int)) ∧ w1.cell? ⟨g0, 1, none⟩ = some (.int .u64 (l2 : Int)) ∧ w1.cell? ⟨g1, 0, none⟩ = some (.int .u64 (h3 : Int)) ∧ w1.cell? ⟨g1, 1, none⟩ = some (.int .u64 (l3 : Int)) ∧ w1.cell? ⟨g2, 0, none⟩ = some (.int .u64 (h4 : Int)) ∧ w1.cell? ⟨g2, 1, none⟩ = some (.int .u64 (l4 : Int)) ∧ w1.cell? ⟨g3, 0, none⟩ = some (.int .u64 (h5 : Int)) ∧ w1.cell? ⟨g3, 1, none⟩ = some (.int .u64 (l5 : Int)) ∧ Below WC.heap.size WC w1 := by
  obtain ⟨e, -⟩ := bcell hb
  obtain ⟨q0, q1, q2, q3, q4, q5, q6, q7, q8⟩ := h
  exact ⟨(e _ _ (cell_there q0).1).trans q0, (e _ _ (cell_there q1).1).trans q1, (e _ _ (cell_there q2).1).trans q2, (e _ _ (cell_there q3).1).trans q3, (e _ _ (cell_there q4).1).trans q4, (e _ _ (cell_there q5).1).trans q5, (e _ _ (cell_there q6).1).trans q6, (e _ _ (cell_there q7).1).trans q7, q8.trans (hb.mono q8.size)⟩

set_option maxRecDepth 100000 in
set_option maxHeartbeats 3000000 in
theorem reg23 (W X K g0 g1 g2 g3 h2 l2 h3 l3 h4 l4 h5 l5 x0 y0 x1 y1 x2 y2 x3 y3 x5 y5 x6 y6 x7 y7 x8 y8 x9 y9 : Nat)
    (HC0 : Hid (∀ W', Calls Try.prog 32 #[.agg #[.int .u64 (h2 : Int), .int .u64 (l2 : Int)], .agg #[.int .u64 (h4 : Int), .int .u64 (l4 : Int)]] W' fun e w' => e = .returned (.agg #[.int .u64 (x0 : Int), .int .u64 (y0 : Int)]) ∧ Below W'.heap.size W' w'))
    (HC1 : Hid (∀ W', Calls Try.prog 33 #[.agg #[.int .u64 (h2 : Int), .int .u64 (l2 : Int)], .agg #[.int .u64 (h3 : Int), .int .u64 (l3 : Int)]] W' fun e w' => e = .returned (.agg #[.int .u64 (x1 : Int), .int .u64 (y1 : Int)]) ∧ Below W'.heap.size W' w'))
    (HC2 : Hid (∀ W', Calls Try.prog 34 #[.agg #[.int .u64 (h2 : Int), .int .u64 (l2 : Int)], .agg #[.int .u64 (h4 : Int), .int .u64 (l4 : Int)]] W' fun e w' => e = .returned (.agg #[.int .u64 (x2 : Int), .int .u64 (y2 : Int)]) ∧ Below W'.heap.size W' w'))
    (HC3 : Hid (∀ W', Calls Try.prog 35 #[.agg #[.int .u64 (h2 : Int), .int .u64 (l2 : Int)], .int .i64 (W : Int)] W' fun e w' => e = .returned (.agg #[.int .u64 (x3 : Int), .int .u64 (y3 : Int)]) ∧ Below W'.heap.size W' w'))
    (HC5 : Hid (∀ W', Calls Try.prog 36 #[.agg #[.int .u64 (h2 : Int), .int .u64 (l2 : Int)], .agg #[.int .u64 (h3 : Int), .int .u64 (l3 : Int)], .int .i64 (X : Int)] W' fun e w' => e = .returned (.agg #[.int .u64 (x5 : Int), .int .u64 (y5 : Int)]) ∧ Below W'.heap.size W' w'))
    (HC6 : Hid (∀ W', Calls Try.prog 37 #[.agg #[.int .u64 (h2 : Int), .int .u64 (l2 : Int)], .int .i64 (K : Int), .int .i64 (W : Int)] W' fun e w' => e = .returned (.agg #[.int .u64 (x6 : Int), .int .u64 (y6 : Int)]) ∧ Below W'.heap.size W' w'))
    (HC7 : Hid (∀ W', Calls Try.prog 38 #[.agg #[.int .u64 (h2 : Int), .int .u64 (l2 : Int)], .int .i64 (K : Int)] W' fun e w' => e = .returned (.agg #[.int .u64 (x7 : Int), .int .u64 (y7 : Int)]) ∧ Below W'.heap.size W' w'))
    (HC8 : Hid (∀ W', Calls Try.prog 39 #[.agg #[.int .u64 (h4 : Int), .int .u64 (l4 : Int)], .int .i64 5, .int .i64 (K : Int)] W' fun e w' => e = .returned (.agg #[.int .u64 (x8 : Int), .int .u64 (y8 : Int)]) ∧ Below W'.heap.size W' w'))
    (HC9 : Hid (∀ W', Calls Try.prog 31 #[.agg #[.int .u64 (h2 : Int), .int .u64 (l2 : Int)], .int .i64 (K : Int)] W' fun e w' => e = .returned (.agg #[.int .u64 (x9 : Int), .int .u64 (y9 : Int)]) ∧ Below W'.heap.size W' w'))
    (WC : World) (hS : WC.cell? ⟨g0, 0, none⟩ = some (.int .u64 (h2 : Int)) ∧ WC.cell? ⟨g0, 1, none⟩ = some (.int .u64 (l2 : Int)) ∧ WC.cell? ⟨g1, 0, none⟩ = some (.int .u64 (h3 : Int)) ∧ WC.cell? ⟨g1, 1, none⟩ = some (.int .u64 (l3 : Int)) ∧ WC.cell? ⟨g2, 0, none⟩ = some (.int .u64 (h4 : Int)) ∧ WC.cell? ⟨g2, 1, none⟩ = some (.int .u64 (l4 : Int)) ∧ WC.cell? ⟨g3, 0, none⟩ = some (.int .u64 (h5 : Int)) ∧ WC.cell? ⟨g3, 1, none⟩ = some (.int .u64 (l5 : Int)) ∧ Below WC.heap.size WC WC)
    (c0 c1 c2 c3 c4 c5 c6 c7 c8 c11 c12 c13 c14 c15 c17 c18 c19 c20 c25 c26 c27 c28 c29 c30 c31 c32 c33 c34 c35 c36 c37 c38 c39 c40 c41 c42 c43 c44 c45 c46 c47 c48 c49 c50 c51 c52 c53 c54 c55 c56 c57 c58 c59 c60 c61 c62 c63 c64 c65 c66 c67 c68 c69 c70 c71 c72 c73 c74 c75 c76 c77 c78 c79 c80 c81 c82 c83 c84 c85 c86 c87 c88 c89 c90 c91 c92 c93 c94 c95 c96 c97 c98 c99 c100 c101 c102 c103 c104 c105 c106 c107 c108 c109 c110 c111 c112 c113 c114 c115 c116 c117 c118 c119 c120 c121 c122 c123 c124 c125 c126 c127 c128 c129 c130 c131 c132 c133 c134 c135 c136 c137 c138 c139 c140 c141 c142 c143 c144 c145 c146 c147 c148 c149 c150 c151 c152 c153 c154 c155 c156 c157 c158 c159 c160 c161 c162 c163 c164 c165 c166 c167 c168 c169 c170 c171 c172 c173 c174 c175 c176 c177 c178 c179 c180 c181 c182 c183 c184 c185 c186 c187 c188 c189 c190 c191 c192 c193 c194 c195 c196 c197 c198 c199 c200 c201 c202 c203 c204 c205 c206 c207 c208 : Value) (Q : Exit → Act → World → Prop)
    (hexit : ∀ (u158 u159 u160 u161 u162 u163 u164 u165 u166 u167 u168 u169 u170 u171 u172 u173 u174 u175 u176 u177 u178 u179 u180 u181 u182 u183 u184 u185 u186 u187 u188 : Value) (w1 : World), Below WC.heap.size WC (w1.alloc (.cells #[.int .u64 (x0 : Int), .int .u64 (y0 : Int), .int .u64 (x1 : Int), .int .u64 (y1 : Int), .int .u64 (x2 : Int), .int .u64 (y2 : Int), .int .u64 (x3 : Int), .int .u64 (y3 : Int), .int .u64 (h5 : Int), .int .u64 (l5 : Int), .int .u64 (x5 : Int), .int .u64 (y5 : Int), .int .u64 (x6 : Int), .int .u64 (y6 : Int), .int .u64 (x7 : Int), .int .u64 (y7 : Int), .int .u64 (x8 : Int), .int .u64 (y8 : Int), .int .u64 (x9 : Int), .int .u64 (y9 : Int)] 41)) → Q .normal ⟨#[c0, c1, c2, c3, c4, c5, c6, c7, c8, .int .i64 (W : Int), .int .i64 (X : Int), c11, c12, c13, c14, c15, .int .i64 (K : Int), c17, c18, c19, c20, .pointer (some ⟨g0, 0, none⟩), .pointer (some ⟨g1, 0, none⟩), .pointer (some ⟨g2, 0, none⟩), .pointer (some ⟨g3, 0, none⟩), .slice (some ⟨w1.heap.size, 0, none⟩) 10 10, c26, c27, c28, c29, c30, c31, c32, c33, c34, c35, c36, c37, c38, c39, c40, c41, c42, c43, c44, c45, c46, c47, c48, c49, c50, c51, c52, c53, c54, c55, c56, c57, c58, c59, c60, c61, c62, c63, c64, c65, c66, c67, c68, c69, c70, c71, c72, c73, c74, c75, c76, c77, c78, c79, c80, c81, c82, c83, c84, c85, c86, c87, c88, c89, c90, c91, c92, c93, c94, c95, c96, c97, c98, c99, c100, c101, c102, c103, c104, c105, c106, c107, c108, c109, c110, c111, c112, c113, c114, c115, c116, c117, c118, c119, c120, c121, c122, c123, c124, c125, c126, c127, c128, c129, c130, c131, c132, c133, c134, c135, c136, c137, c138, c139, c140, c141, c142, c143, c144, c145, c146, c147, c148, c149, c150, c151, c152, c153, c154, c155, c156, c157, u158, u159, u160, u161, u162, u163, u164, u165, u166, u167, u168, u169, u170, u171, u172, u173, u174, u175, u176, u177, u178, u179, u180, u181, u182, u183, u184, u185, u186, u187, u188, c189, c190, c191, c192, c193, c194, c195, c196, c197, c198, c199, c200, c201, c202, c203, c204, c205, c206, c207, c208], []⟩ (w1.alloc (.cells #[.int .u64 (x0 : Int), .int .u64 (y0 : Int), .int .u64 (x1 : Int), .int .u64 (y1 : Int), .int .u64 (x2 : Int), .int .u64 (y2 : Int), .int .u64 (x3 : Int), .int .u64 (y3 : Int), .int .u64 (h5 : Int), .int .u64 (l5 : Int), .int .u64 (x5 : Int), .int .u64 (y5 : Int), .int .u64 (x6 : Int), .int .u64 (y6 : Int), .int .u64 (x7 : Int), .int .u64 (y7 : Int), .int .u64 (x8 : Int), .int .u64 (y8 : Int), .int .u64 (x9 : Int), .int .u64 (y9 : Int)] 41))) :
    Code.wp Try.prog (reg17 23) Q ⟨#[c0, c1, c2, c3, c4, c5, c6, c7, c8, .int .i64 (W : Int), .int .i64 (X : Int), c11, c12, c13, c14, c15, .int .i64 (K : Int), c17, c18, c19, c20, .pointer (some ⟨g0, 0, none⟩), .pointer (some ⟨g1, 0, none⟩), .pointer (some ⟨g2, 0, none⟩), .pointer (some ⟨g3, 0, none⟩), c25, c26, c27, c28, c29, c30, c31, c32, c33, c34, c35, c36, c37, c38, c39, c40, c41, c42, c43, c44, c45, c46, c47, c48, c49, c50, c51, c52, c53, c54, c55, c56, c57, c58, c59, c60, c61, c62, c63, c64, c65, c66, c67, c68, c69, c70, c71, c72, c73, c74, c75, c76, c77, c78, c79, c80, c81, c82, c83, c84, c85, c86, c87, c88, c89, c90, c91, c92, c93, c94, c95, c96, c97, c98, c99, c100, c101, c102, c103, c104, c105, c106, c107, c108, c109, c110, c111, c112, c113, c114, c115, c116, c117, c118, c119, c120, c121, c122, c123, c124, c125, c126, c127, c128, c129, c130, c131, c132, c133, c134, c135, c136, c137, c138, c139, c140, c141, c142, c143, c144, c145, c146, c147, c148, c149, c150, c151, c152, c153, c154, c155, c156, c157, c158, c159, c160, c161, c162, c163, c164, c165, c166, c167, c168, c169, c170, c171, c172, c173, c174, c175, c176, c177, c178, c179, c180, c181, c182, c183, c184, c185, c186, c187, c188, c189, c190, c191, c192, c193, c194, c195, c196, c197, c198, c199, c200, c201, c202, c203, c204, c205, c206, c207, c208], []⟩ WC := by
  dsimp only at hexit ⊢
  conv => arg 2; whnf
  have HEX := Lib.hid hexit
  clear hexit
  obtain ⟨k0, k1, k2, k3, k4, k5, k6, k7, -⟩ := hS
  go_region_held3 (fun w' => w'.cell? ⟨g0, 0, none⟩ = some (.int .u64 (h2 : Int)) ∧ w'.cell? ⟨g0, 1, none⟩ = some (.int .u64 (l2 : Int)) ∧ w'.cell? ⟨g1, 0, none⟩ = some (.int .u64 (h3 : Int)) ∧ w'.cell? ⟨g1, 1, none⟩ = some (.int .u64 (l3 : Int)) ∧ w'.cell? ⟨g2, 0, none⟩ = some (.int .u64 (h4 : Int)) ∧ w'.cell? ⟨g2, 1, none⟩ = some (.int .u64 (l4 : Int)) ∧ w'.cell? ⟨g3, 0, none⟩ = some (.int .u64 (h5 : Int)) ∧ w'.cell? ⟨g3, 1, none⟩ = some (.int .u64 (l5 : Int)) ∧ Below WC.heap.size WC w')
    (first | exact ⟨k0, k1, k2, k3, k4, k5, k6, k7, below_drewN (Below.refl _ _) 1⟩ | exact held23 hb1 (by assumption) | exact held23 ((Below.refl _ _).alloc (Nat.le_refl _) _) (by assumption))
    (first
      | (go_at_call 32; (with_reducible refine (HC0.out _).mono ?_); rintro e w1 ⟨rfl, hb1⟩)
      | (go_at_call 33; (with_reducible refine (HC1.out _).mono ?_); rintro e w1 ⟨rfl, hb1⟩)
      | (go_at_call 34; (with_reducible refine (HC2.out _).mono ?_); rintro e w1 ⟨rfl, hb1⟩)
      | (go_at_call 35; (with_reducible refine (HC3.out _).mono ?_); rintro e w1 ⟨rfl, hb1⟩)
      | (go_at_call 36; (with_reducible refine (HC5.out _).mono ?_); rintro e w1 ⟨rfl, hb1⟩)
      | (go_at_call 37; (with_reducible refine (HC6.out _).mono ?_); rintro e w1 ⟨rfl, hb1⟩)
      | (go_at_call 38; (with_reducible refine (HC7.out _).mono ?_); rintro e w1 ⟨rfl, hb1⟩)
      | (go_at_call 39; (with_reducible refine (HC8.out _).mono ?_); rintro e w1 ⟨rfl, hb1⟩)
      | (go_at_call 31; (with_reducible refine (HC9.out _).mono ?_); rintro e w1 ⟨rfl, hb1⟩))
  apply HEX.out
  rename_i hh
  exact hh.2.2.2.2.2.2.2.2

end Go.Proofs.Ytlnkflmnjkmhkaa

/-
  The law SymbvMeans of layer 17: the loop that compares.
-/
namespace Go.Proofs.Ytlnkflmnjkmhkaa
open Go.RowKit Go.Maps

noncomputable def loopBody (n : Nat) : Code → Option Code
  | .loop c => if (findRegion n c).isSome then (match loopBody n c with | some d => some d | none => some c) else none
  | .seq a b => match loopBody n a with
    | some c => some c
    | none => loopBody n b
  | .block _ c => loopBody n c
  | .scope c => loopBody n c
  | .cond _ a b => match loopBody n a with
    | some c => some c
    | none => loopBody n b
  | _ => none
noncomputable def body25 : Code := (Try.f4.body.bind (loopBody 25)).getD .skip

theorem heldL {WD W w1 : World} {mb d k : Nat} {v a c : Value} (hb : Below W.heap.size W w1) (h : W.cell? ⟨mb, k, none⟩ = some v ∧ W.cell? ⟨d, k * 2, none⟩ = some a ∧ W.cell? ⟨d, k * 2 + 1, none⟩ = some c ∧ Below WD.heap.size WD W) :
    w1.cell? ⟨mb, k, none⟩ = some v ∧ w1.cell? ⟨d, k * 2, none⟩ = some a ∧ w1.cell? ⟨d, k * 2 + 1, none⟩ = some c ∧ Below WD.heap.size WD w1 := by
  obtain ⟨q0, q1, q2, q3⟩ := h
  exact ⟨(hb.cell (cell_there q0).1).trans q0, (hb.cell (cell_there q1).1).trans q1, (hb.cell (cell_there q2).1).trans q2, q3.trans (hb.mono q3.size)⟩
theorem heldB {WD W : World} {mb d k : Nat} {v a c : Value} (h : W.cell? ⟨mb, k, none⟩ = some v ∧ W.cell? ⟨d, k * 2, none⟩ = some a ∧ W.cell? ⟨d, k * 2 + 1, none⟩ = some c ∧ Below WD.heap.size WD W) : Below WD.heap.size WD W := h.2.2.2

set_option maxRecDepth 100000 in
set_option maxHeartbeats 3000000 in
theorem loop3 (b mb g M d : Nat) (mk : Nat → Value) (x y : Nat → Nat) (WD : World)
    (HM : Hid (∀ i, i < 10 → WD.cell? ⟨mb, i, none⟩ = some (mk i)))
    (HE : Hid (∀ i, i < 10 → ∀ W', Below WD.heap.size WD W' → Calls Try.prog 40 #[.pointer (some ⟨b, 0, none⟩), mk i, .slice (some ⟨g, 0, none⟩) M M] W' fun e w' => e = .returned (.agg #[.int .u64 (x i : Int), .int .u64 (y i : Int)]) ∧ Below W'.heap.size W' w'))
    (HD : Hid (∀ i, i < 10 → WD.cell? ⟨d, i * 2, none⟩ = some (.int .u64 (x i : Int)) ∧ WD.cell? ⟨d, i * 2 + 1, none⟩ = some (.int .u64 (y i : Int))))
    (c0 c1 c2 c3 c4 c5 c6 c7 c9 c10 c12 c13 c14 c15 c16 c18 c20 c21 c22 c23 c24 c26 c27 c28 c29 c30 c31 c32 c33 c34 c35 c36 c37 c38 c39 c40 c41 c42 c43 c44 c45 c46 c47 c48 c49 c50 c51 c52 c53 c54 c55 c56 c57 c58 c59 c60 c61 c62 c63 c64 c65 c66 c67 c68 c69 c70 c71 c72 c73 c74 c75 c76 c77 c78 c79 c80 c81 c82 c83 c84 c85 c86 c87 c88 c89 c90 c91 c92 c93 c94 c95 c96 c97 c98 c99 c100 c101 c102 c103 c104 c105 c106 c107 c108 c109 c110 c111 c112 c113 c114 c115 c116 c117 c118 c119 c120 c121 c122 c123 c124 c125 c126 c127 c128 c129 c130 c131 c132 c133 c134 c135 c136 c137 c138 c139 c140 c141 c142 c143 c144 c145 c146 c147 c148 c149 c150 c151 c152 c153 c154 c155 c156 c157 c158 c159 c160 c161 c162 c163 c164 c165 c166 c167 c168 c169 c170 c171 c172 c173 c174 c175 c176 c177 c178 c179 c180 c181 c182 c183 c184 c185 c186 c187 c188 c189 c192 c193 c194 c195 c196 c197 c198 c199 c200 c201 c202 c203 c204 c205 c206 c207 c208 : Value) (Q : Exit → Act → World → Prop)
    (hexit : ∀ (u26 u191 u192 u193 u194 u195 u196 u197 u198 u199 u200 u201 u202 u203 u204 u205 u206 : Value) (w' : World), Below WD.heap.size WD w' → Q (.exit 4) ⟨#[c0, c1, c2, c3, c4, c5, c6, c7, .bool false, c9, c10, .pointer (some ⟨b, 0, none⟩), c12, c13, c14, c15, c16, .slice (some ⟨mb, 0, none⟩) 10 10, c18, .slice (some ⟨g, 0, none⟩) M M, c20, c21, c22, c23, c24, .slice (some ⟨d, 0, none⟩) 10 10, u26, c27, c28, c29, c30, c31, c32, c33, c34, c35, c36, c37, c38, c39, c40, c41, c42, c43, c44, c45, c46, c47, c48, c49, c50, c51, c52, c53, c54, c55, c56, c57, c58, c59, c60, c61, c62, c63, c64, c65, c66, c67, c68, c69, c70, c71, c72, c73, c74, c75, c76, c77, c78, c79, c80, c81, c82, c83, c84, c85, c86, c87, c88, c89, c90, c91, c92, c93, c94, c95, c96, c97, c98, c99, c100, c101, c102, c103, c104, c105, c106, c107, c108, c109, c110, c111, c112, c113, c114, c115, c116, c117, c118, c119, c120, c121, c122, c123, c124, c125, c126, c127, c128, c129, c130, c131, c132, c133, c134, c135, c136, c137, c138, c139, c140, c141, c142, c143, c144, c145, c146, c147, c148, c149, c150, c151, c152, c153, c154, c155, c156, c157, c158, c159, c160, c161, c162, c163, c164, c165, c166, c167, c168, c169, c170, c171, c172, c173, c174, c175, c176, c177, c178, c179, c180, c181, c182, c183, c184, c185, c186, c187, c188, c189, .int .i64 10, u191, u192, u193, u194, u195, u196, u197, u198, u199, u200, u201, u202, u203, u204, u205, u206, c207, c208], []⟩ w') :
    Code.wp Try.prog (Code.loop body25) Q ⟨#[c0, c1, c2, c3, c4, c5, c6, c7, .bool false, c9, c10, .pointer (some ⟨b, 0, none⟩), c12, c13, c14, c15, c16, .slice (some ⟨mb, 0, none⟩) 10 10, c18, .slice (some ⟨g, 0, none⟩) M M, c20, c21, c22, c23, c24, .slice (some ⟨d, 0, none⟩) 10 10, c26, c27, c28, c29, c30, c31, c32, c33, c34, c35, c36, c37, c38, c39, c40, c41, c42, c43, c44, c45, c46, c47, c48, c49, c50, c51, c52, c53, c54, c55, c56, c57, c58, c59, c60, c61, c62, c63, c64, c65, c66, c67, c68, c69, c70, c71, c72, c73, c74, c75, c76, c77, c78, c79, c80, c81, c82, c83, c84, c85, c86, c87, c88, c89, c90, c91, c92, c93, c94, c95, c96, c97, c98, c99, c100, c101, c102, c103, c104, c105, c106, c107, c108, c109, c110, c111, c112, c113, c114, c115, c116, c117, c118, c119, c120, c121, c122, c123, c124, c125, c126, c127, c128, c129, c130, c131, c132, c133, c134, c135, c136, c137, c138, c139, c140, c141, c142, c143, c144, c145, c146, c147, c148, c149, c150, c151, c152, c153, c154, c155, c156, c157, c158, c159, c160, c161, c162, c163, c164, c165, c166, c167, c168, c169, c170, c171, c172, c173, c174, c175, c176, c177, c178, c179, c180, c181, c182, c183, c184, c185, c186, c187, c188, c189, .int .i64 10, .int .i64 0, c192, c193, c194, c195, c196, c197, c198, c199, c200, c201, c202, c203, c204, c205, c206, c207, c208], []⟩ WD := by
  dsimp only at hexit ⊢
  conv => arg 2; arg 1; whnf
  have HEX := Lib.hid hexit
  clear hexit
  go_loopw [8, 191] (fun z i wr => ∃ k : Nat, k ≤ 10 ∧ z = .bool false ∧ i = .int .i64 k ∧ Hid (Below WD.heap.size WD wr)) (fun _ i _ => 10 - (intOf i).toNat)
  case atStart => exact ⟨0, Nat.zero_le _, rfl, rfl, Below.refl _ _⟩
  case round =>
    obtain ⟨k, hk, rfl, rfl, HB⟩ := hrel
    by_cases hlt : k < 10
    · have q0 := HM.out k hlt
      obtain ⟨q1, q2⟩ := HD.out k hlt
      have HC : Hid (∀ W', Below WD.heap.size WD W' → Calls Try.prog 40 #[.pointer (some ⟨b, 0, none⟩), mk k, .slice (some ⟨g, 0, none⟩) M M] W' fun e w' => e = .returned (.agg #[.int .u64 (x k : Int), .int .u64 (y k : Int)]) ∧ Below W'.heap.size W' w') := HE.out k hlt
      have r0 := (HB.out.cell (p := ⟨mb, k, none⟩) (cell_there q0).1).trans q0
      have r1 := (HB.out.cell (p := ⟨d, k * 2, none⟩) (cell_there q1).1).trans q1
      have r2 := (HB.out.cell (p := ⟨d, k * 2 + 1, none⟩) (cell_there q2).1).trans q2
      clear q0 q1 q2
      generalize mk k = v at *
      generalize x k = xx at *
      generalize y k = yy at *
      go_wp2_with fail
      go_region_held3 (fun w' => w'.cell? ⟨mb, k, none⟩ = some v ∧ w'.cell? ⟨d, k * 2, none⟩ = some (.int .u64 (xx : Int)) ∧ w'.cell? ⟨d, k * 2 + 1, none⟩ = some (.int .u64 (yy : Int)) ∧ Below WD.heap.size WD w')
        (first | exact ⟨r0, r1, r2, below_drewN HB.out 1⟩ | exact heldL hb1 (by assumption))
        (first
          | (go_at_call 40; (with_reducible refine (HC.out _ (heldB (by assumption))).mono ?_); rintro e w1 ⟨rfl, hb1⟩))
      rename_i hh
      have HF := Lib.hid hh.2.2.2
      clear hh
      go_wp2_with fail
      go_roundw
      case rel => exact ⟨k + 1, by omega, rfl, by go_num, HF⟩
      case measure => simp [intOf]; omega
    · obtain rfl : k = 10 := by omega
      go_wp2_with fail
      apply HEX.out
      exact HB.out

end Go.Proofs.Ytlnkflmnjkmhkaa
