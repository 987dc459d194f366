/-
  Lemmas, joined: Law18B, SumS, SumS2.
-/
import Derived.Test.YtlnkflmnjkmhkaaJO20
import Derived.Test.YtlnkflmnjkmhkaaJO07
import Derived.Test.YtlnkflmnjkmhkaaJO08
import Derived.Test.YtlnkflmnjkmhkaaJO06
import Derived.Test.YtlnkflmnjkmhkaaJO09
import Derived.Test.YtlnkflmnjkmhkaaJO11
/-
  The law SymopMeans of layer 18: the region that makes n and k.
-/
namespace Go.Proofs.Ytlnkflmnjkmhkaa
open Go.RowKit Go.Maps

def box16 (k X a m c h2 l2 h3 l3 : Nat) : Boxes :=
  ⟨[some (.int .i64 (k : Int)), some (.int .i64 (X : Int)), some (.int .i64 (a : Int)), some (.int .u64 (a : Int)), some (.agg #[.int .u64 (h2 : Int), .int .u64 (l2 : Int)]), some (.int .i64 (k : Int)), some (.int .i64 (X : Int)), some (.int .i64 (m : Int)), some (.int .i64 (c : Int)), some (.int .u64 (c : Int)), some (.agg #[.int .u64 (h3 : Int), .int .u64 (l3 : Int)]), none, none, none, none], [(11, 13, #[.int .u64 0, .int .u64 0], #[.int .u64 (h2 : Int), .int .u64 (l2 : Int)], 41), (12, 14, #[.int .u64 0, .int .u64 0], #[.int .u64 (h3 : Int), .int .u64 (l3 : Int)], 41)]⟩

set_option maxRecDepth 100000 in
set_option maxHeartbeats 6000000 in
theorem regb16 (k X a m c : Nat) (h2 l2 h3 l3 : Nat) (hk : k ≤ 256) (hX1 : 1 ≤ X) (hX4 : X ≤ 4) (ha : a ≤ 256) (hm : m ≤ 16) (hm1 : 1 ≤ m) (hc : c ≤ 256) (HA : Hid ((k : Int) / 2 ^ X = (a : Int))) (HMM : Hid (IntKind.i64.wrap (2 ^ X) = (m : Int))) (HCC : Hid ((k : Int).tmod (m : Int) = (c : Int)))
    (HP : Hid (∀ W, Calls Try.prog 30 #[.int .u64 (a : Int)] W fun e w' => e = .returned (.agg #[.int .u64 (h2 : Int), .int .u64 (l2 : Int)]) ∧ Below W.heap.size W w'))
    (HK : Hid (∀ W, Calls Try.prog 30 #[.int .u64 (c : Int)] W fun e w' => e = .returned (.agg #[.int .u64 (h3 : Int), .int .u64 (l3 : Int)]) ∧ Below W.heap.size W w'))
    (WB : World)
    (c0 c1 c2 c3 c4 c5 c6 c7 c9 c10 c11 c12 c13 c14 c16 c17 c18 c19 c20 c21 c22 c23 c24 c25 c26 c27 c28 c29 c30 c31 c32 c33 c34 c35 c36 c37 c38 c39 c40 c41 c42 c43 c44 c45 c46 c47 c48 c49 c50 c51 c52 c53 c54 c55 c56 c57 c58 c59 c60 c61 c62 c63 c64 c65 c66 c67 c68 c69 c70 c71 c72 c73 c74 c75 c76 c77 c78 c79 c80 c81 c82 c83 c84 c85 c86 c87 c88 c89 c90 c91 c92 c93 c94 c95 c96 c97 c98 c99 c100 c101 c102 c103 c104 c105 c106 c107 c108 c109 c110 c111 c112 c113 c114 c115 c116 c117 c118 c119 c120 c121 c122 c123 c124 c125 c126 c127 c128 c129 c130 c131 c132 c133 c134 c135 c136 c137 c138 c139 c140 c141 c142 c143 c144 c145 c146 c147 c148 c149 c150 c151 c152 c153 c154 c155 c156 c157 c158 c159 c160 c161 c162 c163 c164 c165 c166 c167 c168 c169 c170 c171 c172 c173 c174 c175 c176 c177 c178 c179 c180 c181 c182 c183 c184 c185 c186 c187 c188 c189 c190 c191 : Value) (Q : Exit → Act → World → Prop)
    (hexit : ∀ (g0 g1 : Nat) (u0 u1 u2 u3 u4 u5 u6 u7 u8 u9 u10 : Value) (w' : World), Below WB.heap.size WB w' → WB.heap.size ≤ g0 → w'.heap[g0]? = some (.cells #[.int .u64 (h2 : Int), .int .u64 (l2 : Int)] 41 (0, 0)) → WB.heap.size ≤ g1 → w'.heap[g1]? = some (.cells #[.int .u64 (h3 : Int), .int .u64 (l3 : Int)] 41 (0, 0)) → Q .normal ⟨#[c0, c1, c2, c3, c4, c5, c6, c7, .int .i64 (X : Int), c9, c10, c11, c12, c13, c14, .int .i64 (k : Int), c16, c17, .pointer (some ⟨g0, 0, none⟩), .pointer (some ⟨g1, 0, none⟩), c20, c21, c22, c23, c24, c25, c26, c27, c28, c29, c30, c31, c32, c33, c34, c35, c36, c37, c38, c39, c40, c41, c42, c43, c44, c45, c46, c47, c48, c49, c50, c51, c52, c53, c54, c55, c56, c57, c58, c59, c60, c61, c62, c63, c64, c65, c66, c67, c68, c69, c70, c71, c72, c73, c74, c75, c76, c77, c78, c79, c80, c81, c82, c83, c84, c85, c86, c87, c88, c89, c90, c91, c92, c93, c94, c95, c96, c97, c98, c99, c100, c101, c102, c103, c104, c105, c106, c107, c108, c109, c110, c111, c112, c113, c114, c115, c116, u0, u1, u2, u3, u4, u5, u6, u7, u8, u9, u10, c128, c129, c130, c131, c132, c133, c134, c135, c136, c137, c138, c139, c140, c141, c142, c143, c144, c145, c146, c147, c148, c149, c150, c151, c152, c153, c154, c155, c156, c157, c158, c159, c160, c161, c162, c163, c164, c165, c166, c167, c168, c169, c170, c171, c172, c173, c174, c175, c176, c177, c178, c179, c180, c181, c182, c183, c184, c185, c186, c187, c188, c189, c190, c191], []⟩ w') :
    Code.wp Try.prog (reg18 16) Q ⟨#[c0, c1, c2, c3, c4, c5, c6, c7, .int .i64 (X : Int), c9, c10, c11, c12, c13, c14, .int .i64 (k : Int), c16, c17, c18, c19, c20, c21, c22, c23, c24, c25, c26, c27, c28, c29, c30, c31, c32, c33, c34, c35, c36, c37, c38, c39, c40, c41, c42, c43, c44, c45, c46, c47, c48, c49, c50, c51, c52, c53, c54, c55, c56, c57, c58, c59, c60, c61, c62, c63, c64, c65, c66, c67, c68, c69, c70, c71, c72, c73, c74, c75, c76, c77, c78, c79, c80, c81, c82, c83, c84, c85, c86, c87, c88, c89, c90, c91, c92, c93, c94, c95, c96, c97, c98, c99, c100, c101, c102, c103, c104, c105, c106, c107, c108, c109, c110, c111, c112, c113, c114, c115, c116, c117, c118, c119, c120, c121, c122, c123, c124, c125, c126, c127, c128, c129, c130, c131, c132, c133, c134, c135, c136, c137, c138, c139, c140, c141, c142, c143, c144, c145, c146, c147, c148, c149, c150, c151, c152, c153, c154, c155, c156, c157, c158, c159, c160, c161, c162, c163, c164, c165, c166, c167, c168, c169, c170, c171, c172, c173, c174, c175, c176, c177, c178, c179, c180, c181, c182, c183, c184, c185, c186, c187, c188, c189, c190, c191], []⟩ WB := by
  dsimp only at hexit ⊢
  conv => arg 2; whnf
  have HEX := Lib.hid hexit
  clear hexit
  refine wp_region_inv (by kernel_rfl) (fun L a' w' => ∃ u0 u1 u2 u3 u4 u5 u6 u7 u8 u9 u10 u11 u12 : Value, a' = ⟨#[c0, c1, c2, c3, c4, c5, c6, c7, .int .i64 (X : Int), c9, c10, c11, c12, c13, c14, .int .i64 (k : Int), c16, c17, u11, u12, c20, c21, c22, c23, c24, c25, c26, c27, c28, c29, c30, c31, c32, c33, c34, c35, c36, c37, c38, c39, c40, c41, c42, c43, c44, c45, c46, c47, c48, c49, c50, c51, c52, c53, c54, c55, c56, c57, c58, c59, c60, c61, c62, c63, c64, c65, c66, c67, c68, c69, c70, c71, c72, c73, c74, c75, c76, c77, c78, c79, c80, c81, c82, c83, c84, c85, c86, c87, c88, c89, c90, c91, c92, c93, c94, c95, c96, c97, c98, c99, c100, c101, c102, c103, c104, c105, c106, c107, c108, c109, c110, c111, c112, c113, c114, c115, c116, u0, u1, u2, u3, u4, u5, u6, u7, u8, u9, u10, c128, c129, c130, c131, c132, c133, c134, c135, c136, c137, c138, c139, c140, c141, c142, c143, c144, c145, c146, c147, c148, c149, c150, c151, c152, c153, c154, c155, c156, c157, c158, c159, c160, c161, c162, c163, c164, c165, c166, c167, c168, c169, c170, c171, c172, c173, c174, c175, c176, c177, c178, c179, c180, c181, c182, c183, c184, c185, c186, c187, c188, c189, c190, c191], []⟩ ∧ L.size = 15 ∧ RB (box16 k X a m c h2 l2 h3 l3) WB L [u0, u1, u2, u3, u4, u5, u6, u7, u8, u9, u10, u11, u12, undef, undef] w') ?_ ?_ ?_ ?_
  · exact ⟨_, _, _, _, _, _, _, _, _, _, _, _, _, rfl, by simp, RB.init (fun i => did_none _ _) (below_drewN (Below.refl _ _) 1)⟩
  · rintro L a' w' i hL hi hnd hdep ⟨u0, u1, u2, u3, u4, u5, u6, u7, u8, u9, u10, u11, u12, rfl, hLn, hI⟩
    dsimp only
    have hsz : ∀ i, (L.setIfInBounds i true).size = 15 := fun i => by simpa using hLn
    have hL15 : L.size = 15 := hL
    have HI := Lib.hid hI
    clear hI
    match i, hi with
    | 0, _ =>
      have HN := Lib.hid hnd
      clear hdep hnd
      refine wpOp_step rfl (fun K' hK => ?_)
      go_simp
      exact hK _ _ ⟨_, _, _, _, _, _, _, _, _, _, _, _, _, rfl, hsz _, HI.out.step 0 _ (by omega) (by show 0 < 15; omega) rfl rfl (Below.refl _ _)⟩
    | 1, _ =>
      have HN := Lib.hid hnd
      clear hdep hnd
      refine wpOp_step rfl (fun K' hK => ?_)
      go_simp
      exact hK _ _ ⟨_, _, _, _, _, _, _, _, _, _, _, _, _, rfl, hsz _, HI.out.step 1 _ (by omega) (by show 1 < 15; omega) rfl rfl (Below.refl _ _)⟩
    | 2, _ =>
      have HN := Lib.hid hnd
      have q0 := (HI.out.got 0 (hdep _ rfl ⟨0, .data⟩ (by simp) (by kernel_rfl)) rfl).symm
      subst q0
      have q1 := (HI.out.got 1 (hdep _ rfl ⟨1, .data⟩ (by simp) (by kernel_rfl)) rfl).symm
      subst q1
      clear hdep hnd
      refine wpOp_step rfl (fun K' hK => ?_)
      go_simp
      rw [HA.out]
      exact hK _ _ ⟨_, _, _, _, _, _, _, _, _, _, _, _, _, rfl, hsz _, HI.out.step 2 _ (by omega) (by show 2 < 15; omega) rfl rfl (Below.refl _ _)⟩
    | 3, _ =>
      have HN := Lib.hid hnd
      have q2 := (HI.out.got 2 (hdep _ rfl ⟨2, .data⟩ (by simp) (by kernel_rfl)) rfl).symm
      subst q2
      clear hdep hnd
      refine wpOp_step rfl (fun K' hK => ?_)
      go_simp
      rw [u64_small a (by omega)]
      exact hK _ _ ⟨_, _, _, _, _, _, _, _, _, _, _, _, _, rfl, hsz _, HI.out.step 3 _ (by omega) (by show 3 < 15; omega) rfl rfl (Below.refl _ _)⟩
    | 4, _ =>
      have HN := Lib.hid hnd
      have q3 := (HI.out.got 3 (hdep _ rfl ⟨3, .data⟩ (by simp) (by kernel_rfl)) rfl).symm
      subst q3
      clear hdep hnd
      refine wpOp_step rfl (fun K' hK => ?_)
      go_simp
      refine (HP.out _).mono ?_
      rintro e w1 ⟨rfl, hb1⟩
      exact hK _ _ ⟨_, _, _, _, _, _, _, _, _, _, _, _, _, rfl, hsz _, HI.out.step 4 _ (by omega) (by show 4 < 15; omega) rfl rfl hb1⟩
    | 5, _ =>
      have HN := Lib.hid hnd
      clear hdep hnd
      refine wpOp_step rfl (fun K' hK => ?_)
      go_simp
      exact hK _ _ ⟨_, _, _, _, _, _, _, _, _, _, _, _, _, rfl, hsz _, HI.out.step 5 _ (by omega) (by show 5 < 15; omega) rfl rfl (Below.refl _ _)⟩
    | 6, _ =>
      have HN := Lib.hid hnd
      clear hdep hnd
      refine wpOp_step rfl (fun K' hK => ?_)
      go_simp
      exact hK _ _ ⟨_, _, _, _, _, _, _, _, _, _, _, _, _, rfl, hsz _, HI.out.step 6 _ (by omega) (by show 6 < 15; omega) rfl rfl (Below.refl _ _)⟩
    | 7, _ =>
      have HN := Lib.hid hnd
      have q6 := (HI.out.got 6 (hdep _ rfl ⟨6, .data⟩ (by simp) (by kernel_rfl)) rfl).symm
      subst q6
      clear hdep hnd
      refine wpOp_step rfl (fun K' hK => ?_)
      go_simp
      rw [HMM.out]
      exact hK _ _ ⟨_, _, _, _, _, _, _, _, _, _, _, _, _, rfl, hsz _, HI.out.step 7 _ (by omega) (by show 7 < 15; omega) rfl rfl (Below.refl _ _)⟩
    | 8, _ =>
      have HN := Lib.hid hnd
      have q5 := (HI.out.got 5 (hdep _ rfl ⟨5, .data⟩ (by simp) (by kernel_rfl)) rfl).symm
      subst q5
      have q7 := (HI.out.got 7 (hdep _ rfl ⟨7, .data⟩ (by simp) (by kernel_rfl)) rfl).symm
      subst q7
      clear hdep hnd
      refine wpOp_step rfl (fun K' hK => ?_)
      go_simp
      rw [if_neg (by omega)]
      go_simp
      rw [HCC.out]
      exact hK _ _ ⟨_, _, _, _, _, _, _, _, _, _, _, _, _, rfl, hsz _, HI.out.step 8 _ (by omega) (by show 8 < 15; omega) rfl rfl (Below.refl _ _)⟩
    | 9, _ =>
      have HN := Lib.hid hnd
      have q8 := (HI.out.got 8 (hdep _ rfl ⟨8, .data⟩ (by simp) (by kernel_rfl)) rfl).symm
      subst q8
      clear hdep hnd
      refine wpOp_step rfl (fun K' hK => ?_)
      go_simp
      rw [u64_small c (by omega)]
      exact hK _ _ ⟨_, _, _, _, _, _, _, _, _, _, _, _, _, rfl, hsz _, HI.out.step 9 _ (by omega) (by show 9 < 15; omega) rfl rfl (Below.refl _ _)⟩
    | 10, _ =>
      have HN := Lib.hid hnd
      have q9 := (HI.out.got 9 (hdep _ rfl ⟨9, .data⟩ (by simp) (by kernel_rfl)) rfl).symm
      subst q9
      clear hdep hnd
      refine wpOp_step rfl (fun K' hK => ?_)
      go_simp
      refine (HK.out _).mono ?_
      rintro e w1 ⟨rfl, hb1⟩
      exact hK _ _ ⟨_, _, _, _, _, _, _, _, _, _, _, _, _, rfl, hsz _, HI.out.step 10 _ (by omega) (by show 10 < 15; omega) rfl rfl hb1⟩
    | 11, _ =>
      have HN := Lib.hid hnd
      clear hdep hnd
      refine wpOp_step rfl (fun K' hK => ?_)
      go_simp
      exact hK _ _ ⟨_, _, _, _, _, _, _, _, _, _, _, _, _, rfl, hsz _, HI.out.alloc 11 13 _ #[.int .u64 (h2 : Int), .int .u64 (l2 : Int)] _ (by omega) (by show 11 < 15; omega) rfl (by simp [box16]) (by intro p hp he; simp only [box16, List.mem_cons, List.not_mem_nil, or_false] at hp; rcases hp with rfl | rfl <;> first | rfl | simp at he) rfl HN.out⟩
    | 12, _ =>
      have HN := Lib.hid hnd
      clear hdep hnd
      refine wpOp_step rfl (fun K' hK => ?_)
      go_simp
      exact hK _ _ ⟨_, _, _, _, _, _, _, _, _, _, _, _, _, rfl, hsz _, HI.out.alloc 12 14 _ #[.int .u64 (h3 : Int), .int .u64 (l3 : Int)] _ (by omega) (by show 12 < 15; omega) rfl (by simp [box16]) (by intro p hp he; simp only [box16, List.mem_cons, List.not_mem_nil, or_false] at hp; rcases hp with rfl | rfl <;> first | rfl | simp at he) rfl HN.out⟩
    | 13, _ =>
      have HN := Lib.hid hnd
      have q4 := (HI.out.got 4 (hdep _ rfl ⟨4, .data⟩ (by simp) (by kernel_rfl)) rfl).symm
      subst q4
      obtain ⟨gA, e1, e2, e3, hput⟩ := RB.at (i := 13) HI.out (show (11, 13, #[.int .u64 0, .int .u64 0], #[.int .u64 (h2 : Int), .int .u64 (l2 : Int)], 41) ∈ ((box16 k X a m c h2 l2 h3 l3)).al by simp [box16]) (hdep _ rfl ⟨11, .data⟩ (by simp) (by kernel_rfl)) HN.out
      replace e1 := Eq.symm e1
      subst e1
      have HP := Lib.hid hput
      have HB := Lib.hid HI.out.below
      have HE3 := Lib.hid e3
      have HE2 := Lib.hid e2
      have z0 : ∃ x, w'.cell? ⟨gA, 0, none⟩ = some x := ⟨_, by simp [World.cell?, e3]; rfl⟩
      have y0 : w'.frozen? ⟨gA, 0, none⟩ = false := by simp [World.frozen?, e3]
      have z1 : ∃ x, w'.cell? ⟨gA, 1, none⟩ = some x := ⟨_, by simp [World.cell?, e3]; rfl⟩
      have y1 : w'.frozen? ⟨gA, 1, none⟩ = false := by simp [World.frozen?, e3]
      obtain ⟨x0, z0⟩ := z0
      obtain ⟨x1, z1⟩ := z1
      clear hput hdep hnd e3
      refine wpOp_step rfl (fun K' hK => ?_)
      go_simp
      refine hK _ _ ⟨_, _, _, _, _, _, _, _, _, _, _, _, _, rfl, hsz _, HP.out _ ?_ (by omega) rfl ?_ ?_ ?_⟩
      · exact ((HB.out.setCell HE2.out _).setCell HE2.out _)
      · intro p hp; simp only [box16, List.mem_cons, List.not_mem_nil, or_false] at hp; rcases hp with rfl | rfl <;> simp
      · intro k hk; rw [setCell_heap hk, setCell_heap hk]
      · exact set_lo _ (set_hi _ HE3.out)
    | 14, _ =>
      have HN := Lib.hid hnd
      have q10 := (HI.out.got 10 (hdep _ rfl ⟨10, .data⟩ (by simp) (by kernel_rfl)) rfl).symm
      subst q10
      obtain ⟨gA, e1, e2, e3, hput⟩ := RB.at (i := 14) HI.out (show (12, 14, #[.int .u64 0, .int .u64 0], #[.int .u64 (h3 : Int), .int .u64 (l3 : Int)], 41) ∈ ((box16 k X a m c h2 l2 h3 l3)).al by simp [box16]) (hdep _ rfl ⟨12, .data⟩ (by simp) (by kernel_rfl)) HN.out
      replace e1 := Eq.symm e1
      subst e1
      have HP := Lib.hid hput
      have HB := Lib.hid HI.out.below
      have HE3 := Lib.hid e3
      have HE2 := Lib.hid e2
      have z0 : ∃ x, w'.cell? ⟨gA, 0, none⟩ = some x := ⟨_, by simp [World.cell?, e3]; rfl⟩
      have y0 : w'.frozen? ⟨gA, 0, none⟩ = false := by simp [World.frozen?, e3]
      have z1 : ∃ x, w'.cell? ⟨gA, 1, none⟩ = some x := ⟨_, by simp [World.cell?, e3]; rfl⟩
      have y1 : w'.frozen? ⟨gA, 1, none⟩ = false := by simp [World.frozen?, e3]
      obtain ⟨x0, z0⟩ := z0
      obtain ⟨x1, z1⟩ := z1
      clear hput hdep hnd e3
      refine wpOp_step rfl (fun K' hK => ?_)
      go_simp
      refine hK _ _ ⟨_, _, _, _, _, _, _, _, _, _, _, _, _, rfl, hsz _, HP.out _ ?_ (by omega) rfl ?_ ?_ ?_⟩
      · exact ((HB.out.setCell HE2.out _).setCell HE2.out _)
      · intro p hp; simp only [box16, List.mem_cons, List.not_mem_nil, or_false] at hp; rcases hp with rfl | rfl <;> simp
      · intro k hk; rw [setCell_heap hk, setCell_heap hk]
      · exact set_lo _ (set_hi _ HE3.out)
    | i + 15, hi => exact absurd hi (by show ¬ (i + 15 < 15); omega)
  · intro i o ho e he
    match i, ho with
    | 0, ho => cases ho; simp at he
    | 1, ho => cases ho; simp at he
    | 2, ho => cases ho; simp at he; rcases he with rfl | rfl <;> simp
    | 3, ho => cases ho; simp at he; subst he; simp
    | 4, ho => cases ho; simp at he; subst he; simp
    | 5, ho => cases ho; simp at he
    | 6, ho => cases ho; simp at he
    | 7, ho => cases ho; simp at he; subst he; simp
    | 8, ho => cases ho; simp at he; rcases he with rfl | rfl <;> simp
    | 9, ho => cases ho; simp at he; subst he; simp
    | 10, ho => cases ho; simp at he; rcases he with rfl | rfl <;> simp
    | 11, ho => cases ho; simp at he
    | 12, ho => cases ho; simp at he
    | 13, ho => cases ho; simp at he; rcases he with rfl | rfl | rfl | rfl | rfl | rfl | rfl | rfl | rfl | rfl | rfl | rfl | rfl | rfl | rfl | rfl <;> simp
    | 14, ho => cases ho; simp at he; rcases he with rfl | rfl | rfl | rfl | rfl | rfl | rfl | rfl | rfl | rfl | rfl | rfl | rfl | rfl | rfl | rfl | rfl <;> simp
    | i + 15, ho => simp at ho
  · rintro L a' w' hall ⟨u0, u1, u2, u3, u4, u5, u6, u7, u8, u9, u10, u11, u12, rfl, hLn, g, hI⟩
    obtain ⟨e0, f0, h0⟩ := hI.box 11 13 #[.int .u64 0, .int .u64 0] #[.int .u64 (h2 : Int), .int .u64 (l2 : Int)] 41 (by simp [box16]) (hall 11 (by show 11 < 15; omega))
    rw [hall 13 (by show 13 < 15; omega)] at h0
    replace e0 := Eq.symm e0
    subst e0
    obtain ⟨e1, f1, h1⟩ := hI.box 12 14 #[.int .u64 0, .int .u64 0] #[.int .u64 (h3 : Int), .int .u64 (l3 : Int)] 41 (by simp [box16]) (hall 12 (by show 12 < 15; omega))
    rw [hall 14 (by show 14 < 15; omega)] at h1
    replace e1 := Eq.symm e1
    subst e1
    exact HEX.out (g 11) (g 12) u0 u1 u2 u3 u4 u5 u6 u7 u8 u9 u10 w' hI.below f0 h0 f1 h1

end Go.Proofs.Ytlnkflmnjkmhkaa

/-
  Contracts of symop.sum and its closure at a store that is there, by their plain laws.
-/
namespace Go.Proofs.Ytlnkflmnjkmhkaa
open Go.RowKit Go.Maps

/-- A bit of a sum: the calls, one by one. -/
def oneS (s : BS) (x y : Int) : BS × Int := xorF s x y
def bitS (s : BS) (c x y : Int) : BS × Int := xorF (oneS s x y).1 (oneS s x y).2 c
def bothS (s : BS) (c x y : Int) : BS × Int := andF (bitS s c x y).1 x y
def otherS (s : BS) (c x y : Int) : BS × Int := andF (bothS s c x y).1 c (oneS s x y).2
def carryS (s : BS) (c x y : Int) : BS × Int := orF (otherS s c x y).1 (bothS s c x y).2 (otherS s c x y).2

/-- The closure's two variables beside a store: the store's pointer; the bits up to now. -/
structure SumStS (w : World) (b : Nat) (Os : Nat → Prop) (s : BS) (O : Nat → Prop) (bS bV : Nat) (bits : List Int) : Prop where
  sto : Sto w b Os s
  cS : w.cell? ⟨bS, 0, none⟩ = some (.pointer (some ⟨b, 0, none⟩))
  nS : ¬ O bS
  nSs : ¬ Os bS
  fV : w.frozen? ⟨bV, 0, none⟩ = false
  vec : ∃ vv, w.cell? ⟨bV, 0, none⟩ = some vv ∧ w.ownsRow 0 3 1 vv bits.length (bits.map (Value.int .i64)) ∧ vv.ownBlock ≠ some bV ∧ ∀ j, O j ↔ j = bV ∨ vv.ownBlock = some j
  apart : ∀ j, Os j → ¬ O j

theorem SumStS.ltO {w : World} {b : Nat} {Os : Nat → Prop} {s : BS} {O : Nat → Prop} {bS bV : Nat} {bits : List Int} (h : SumStS w b Os s O bS bV bits) : ∀ j, O j → j < w.heap.size := by
  obtain ⟨vv, h5, h6, h7, h8⟩ := h.vec
  intro j hj
  rcases (h8 j).1 hj with rfl | e
  · exact (cell_there h5).1
  · exact (h6.lt j e).2

/-- Behind a call that turns the store alone. -/
theorem SumStS.ext {w w' : World} {b : Nat} {Os Os' : Nat → Prop} {s s' : BS} {O : Nat → Prop} {bS bV : Nat} {bits : List Int} (h : SumStS w b Os s O bS bV bits) (hs : Sto w' b Os' s') (he : Ext Os Os' w w') : SumStS w' b Os' s' O bS bV bits := by
  obtain ⟨h1, h2, h3, h4, h5, ⟨vv, h6, h7, h8, h9⟩, h10⟩ := h
  have nV : ¬ Os bV := fun hh => h10 _ hh ((h9 bV).2 (.inl rfl))
  have eS := he.cell (p := ⟨bS, 0, none⟩) (cell_there h2).1 h4
  have eV := he.cell (p := ⟨bV, 0, none⟩) (cell_there h6).1 nV
  refine ⟨hs, eS.1.trans h2, h3, eS.2.2, eV.2.1.trans h5, ⟨vv, eV.1.trans h6, ?_, h8, h9⟩, fun j hj hO => ?_⟩
  · obtain ⟨hl, h | ⟨g, cap, cur, q1, q2, q3, q4⟩⟩ := h7
    · exact ⟨hl, .inl h⟩
    · have hg : g < w.heap.size := (Array.getElem?_eq_some_iff.1 q3).1
      refine ⟨hl, .inr ⟨g, cap, cur, q1, q2, ?_, q4⟩⟩
      rw [he.1.block g hg (fun hh => h10 _ hh ((h9 g).2 (.inr (by rw [q1]; rfl))))]
      exact q3
  · have hlt : j < w.heap.size := by
      rcases (h9 j).1 hO with rfl | e
      · exact (cell_there h6).1
      · exact (h7.lt j e).2
    rcases he.2 j hj with q | q
    · exact h10 j q hO
    · omega

theorem SumStS.below {w w' : World} {b : Nat} {Os : Nat → Prop} {s : BS} {O : Nat → Prop} {bS bV : Nat} {bits : List Int} (h : SumStS w b Os s O bS bV bits) (hb : Below w.heap.size w w') : SumStS w' b Os s O bS bV bits :=
  h.ext (h.sto.below hb) (Ext.of_below hb)

theorem Ext.wider {O O' Z : Nat → Prop} {w w' : World} (h : Ext O O' w w') : Ext (fun j => O j ∨ Z j) (fun j => O' j ∨ Z j) w w' :=
  ⟨⟨h.1.os, h.1.tape, h.1.output, h.1.size, fun k hk hO => h.1.block k hk (fun hh => hO (.inl hh))⟩, fun k hk => by
    rcases hk with hk | hk
    · rcases h.2 k hk with q | q
      · exact .inl (.inl q)
      · exact .inr q
    · exact .inl (.inr hk)⟩

theorem sumstS_push {w A w3 : World} {b : Nat} {Os O : Nat → Prop} {s : BS} {bS bV : Nat} {bits : List Int} {z : Int} {vv v' : Value} (h : SumStS w b Os s O bS bV bits) (hv : w.cell? ⟨bV, 0, none⟩ = some vv) (hA : Below w.heap.size w A)
    (hg : A.grownBy w3 vv.ownBlock) (hwh : v'.ownBlock = vv.ownBlock ∨ ∀ j, v'.ownBlock = some j → A.heap.size ≤ j) (hown : w3.ownsRow 0 3 1 v' (bits.length + 1) (bits.map (Value.int .i64) ++ [.int .i64 z]))
    (hc : ∃ x, w3.cell? ⟨bV, 0, none⟩ = some x) (hf : w3.frozen? ⟨bV, 0, none⟩ = false) :
    ∃ O', SumStS (w3.setCell ⟨bV, 0, none⟩ v') b Os s O' bS bV (bits ++ [z]) ∧ Ext (fun j => Os j ∨ O j) (fun j => Os j ∨ O' j) w (w3.setCell ⟨bV, 0, none⟩ v') := by
  have hlO := h.ltO
  obtain ⟨h1, h2, h3, h4, h5, ⟨vv', h6, h7, h8, h9⟩, h10⟩ := h
  rw [hv] at h6
  cases h6
  have hAs := hA.size
  have hs3 := hg.size
  have hlV : bV < w.heap.size := (cell_there hv).1
  have hvb : v'.ownBlock ≠ some bV := fun e => by
    rcases hwh with q | q
    · exact h8 (q ▸ e)
    · have := q bV e; omega
  have hblk : ∀ j, j < w.heap.size → ¬ O j → (w3.setCell ⟨bV, 0, none⟩ v').heap[j]? = w.heap[j]? := fun j hj hO => by
    have q1 : j ≠ bV := fun e => hO ((h9 j).2 (.inl e))
    have q2 : vv.ownBlock ≠ some j := fun e => hO ((h9 j).2 (.inr e))
    rw [Below.heap_setCell w3 ⟨bV, 0, none⟩ v' j q1, hg.block j (by omega) (fun e => q2 e.symm)]
    exact hA.block j hj
  have hE : Ext O (fun j => j = bV ∨ v'.ownBlock = some j) w (w3.setCell ⟨bV, 0, none⟩ v') := by
    refine ⟨⟨hg.os.trans hA.os, hg.tape.trans hA.tape, hg.output.trans hA.output, by simp [World.setCell]; omega, hblk⟩, fun j hj => ?_⟩
    rcases hj with rfl | hj
    · exact .inl ((h9 _).2 (.inl rfl))
    · rcases hwh with q | q
      · exact .inl ((h9 _).2 (.inr (q ▸ hj)))
      · exact .inr (by have := q j hj; omega)
  obtain ⟨x, hc⟩ := hc
  have e := hE.cell (p := ⟨bS, 0, none⟩) (cell_there h2).1 h3
  refine ⟨fun j => j = bV ∨ v'.ownBlock = some j, ⟨h1.kept fun k hk => hblk k (h1.lt k hk) (h10 k hk), e.1.trans h2, e.2.2, h4, by rw [World.frozen?_setCell]; exact hf, ⟨v', World.cell?_setCell_same _ _ _ hc, ?_, hvb, fun j => Iff.rfl⟩, fun j hj hO => ?_⟩, ?_⟩
  · rw [List.length_append, List.map_append]
    exact own_setCell hown hvb v'
  · have hjl := h1.lt j hj
    rcases hE.2 j hO with q | q
    · exact h10 j hj q
    · omega
  · refine ⟨⟨hE.1.os, hE.1.tape, hE.1.output, hE.1.size, fun j hj hO => hblk j hj (fun hh => hO (.inr hh))⟩, fun j hj => ?_⟩
    rcases hj with hj | hj
    · exact .inl (.inl hj)
    · rcases hE.2 j hj with q | q
      · exact .inl (.inr q)
      · exact .inr q

theorem SumStS.row {w : World} {b : Nat} {Os : Nat → Prop} {s : BS} {O : Nat → Prop} {bS bV : Nat} {bits : List Int} {vv : Value} (h : SumStS w b Os s O bS bV bits) (hv : w.cell? ⟨bV, 0, none⟩ = some vv) :
    w.ownsRow 0 3 1 vv bits.length (bits.map (Value.int .i64)) ∧ vv.ownBlock ≠ some bV ∧ ∀ j, O j ↔ j = bV ∨ vv.ownBlock = some j := by
  obtain ⟨vv', h6, h7, h8, h9⟩ := h.vec
  rw [hv] at h6
  cases h6
  exact ⟨h7, h8, h9⟩
theorem SumStS.nV {w : World} {b : Nat} {Os : Nat → Prop} {s : BS} {O : Nat → Prop} {bS bV : Nat} {bits : List Int} (h : SumStS w b Os s O bS bV bits) : ¬ Os bV ∧ O bV := by
  obtain ⟨vv', h6, h7, h8, h9⟩ := h.vec
  have := (h9 bV).2 (.inl rfl)
  exact ⟨fun hh => h.apart _ hh this, this⟩

/-- Behind a call that turns the store alone a block of ours, and the box, are as they were. -/
theorem SumStS.keep {w w' : World} {b : Nat} {Os Os' : Nat → Prop} {s : BS} {O : Nat → Prop} {bS bV : Nat} {bits : List Int} (h : SumStS w b Os s O bS bV bits) (he : Ext Os Os' w w') :
    w'.cell? ⟨bS, 0, none⟩ = w.cell? ⟨bS, 0, none⟩ ∧ w'.cell? ⟨bV, 0, none⟩ = w.cell? ⟨bV, 0, none⟩ ∧ w'.frozen? ⟨bV, 0, none⟩ = w.frozen? ⟨bV, 0, none⟩ := by
  obtain ⟨vv, h6, -⟩ := h.vec
  exact ⟨(he.cell (p := ⟨bS, 0, none⟩) (cell_there h.cS).1 h.nSs).1, (he.cell (p := ⟨bV, 0, none⟩) (cell_there h6).1 h.nV.1).1, (he.cell (p := ⟨bV, 0, none⟩) (cell_there h6).1 h.nV.1).2.1⟩

set_option maxRecDepth 100000 in
set_option maxHeartbeats 1600000 in
theorem sum1_sto (b : Nat) (Os O : Nat → Prop) (s : BS) (bS bV : Nat) (bits : List Int) (c x y : Int) (w : World) (hk : bits.length ≤ 1000000) (h : SumStS w b Os s O bS bV bits) :
    Calls Try.prog 145 #[.int .i64 c, .agg #[.int .i64 x, .int .i64 y], .pointer (some ⟨bS, 0, none⟩), .pointer (some ⟨bV, 0, none⟩)] w fun e w' => e = .returned (.int .i64 (carryS s c x y).2) ∧
      ∃ Os' O', SumStS w' b Os' (carryS s c x y).1 O' bS bV (bits ++ [(bitS s c x y).2]) ∧ Ext (fun j => Os j ∨ O j) (fun j => Os' j ∨ O' j) w w' := by
  obtain ⟨i0, hi, hz0, hz1, hz2⟩ := info_parts Try.infoInt
  have HS := Lib.hid h
  obtain ⟨vv, h5, h6, h7, h8⟩ := h.vec
  obtain ⟨pv, cv, rfl, -⟩ := own_shape h6
  have h1 := h.cS
  have hlS := (cell_there h1).1
  have hlV := (cell_there h5).1
  have H1 : Hid (∀ W, Below w.heap.size w W → Calls Try.prog 84 #[.pointer (some ⟨b, 0, none⟩), .int .i64 x, .int .i64 y] W (RetS b Os W (oneS s x y))) := fun W hW => xor_sto b Os s x y W (h.sto.below hW)
  have H2 : Hid (∀ Os' W, Sto W b Os' (oneS s x y).1 → Calls Try.prog 84 #[.pointer (some ⟨b, 0, none⟩), .int .i64 (oneS s x y).2, .int .i64 c] W (RetS b Os' W (bitS s c x y))) := fun Os' W hW => xor_sto b Os' _ _ _ W hW
  have H3 : Hid (∀ Os' W, Sto W b Os' (bitS s c x y).1 → Calls Try.prog 82 #[.pointer (some ⟨b, 0, none⟩), .int .i64 x, .int .i64 y] W (RetS b Os' W (bothS s c x y))) := fun Os' W hW => and_sto b Os' _ _ _ W hW
  have H4 : Hid (∀ Os' W, Sto W b Os' (bothS s c x y).1 → Calls Try.prog 82 #[.pointer (some ⟨b, 0, none⟩), .int .i64 c, .int .i64 (oneS s x y).2] W (RetS b Os' W (otherS s c x y))) := fun Os' W hW => and_sto b Os' _ _ _ W hW
  have H5 : Hid (∀ Os' W, Sto W b Os' (otherS s c x y).1 → Calls Try.prog 83 #[.pointer (some ⟨b, 0, none⟩), .int .i64 (bothS s c x y).2, .int .i64 (otherS s c x y).2] W (RetS b Os' W (carryS s c x y))) := fun Os' W hW => or_sto b Os' _ _ _ W hW
  generalize carryS s c x y = r5 at *
  generalize otherS s c x y = r4 at *
  generalize bothS s c x y = r3 at *
  generalize bitS s c x y = r2 at *
  generalize oneS s x y = r1 at *
  obtain ⟨s1, i1⟩ := r1
  obtain ⟨s2, i2⟩ := r2
  obtain ⟨s3, i3⟩ := r3
  obtain ⟨s4, i4⟩ := r4
  obtain ⟨s5, i5⟩ := r5
  dsimp only at H1 H2 H3 H4 H5 ⊢
  clear h h6 h7 h8
  go_enter Try.func145, Try.ntmps145
  go_wp2_with fail
  refine (H1.out _ (by repeat (first | exact Below.refl _ _ | assumption | refine Below.drew ?_ | refine Below.alloc ?_ (by first | omega | (simp <;> omega)) _ | refine Below.setCell ?_ (by first | omega | (simp <;> omega)) _ | refine Below.trans ?_ (Below.mono (by assumption) (by first | omega | (simp <;> omega)))))).mono ?_
  rintro e w1 ⟨rfl, Os1, hs1, he1⟩
  dsimp only at hs1
  have hbA : Below w.heap.size w (w.alloc (.cells #[.int .i64 x, .int .i64 y] 131)) := (by repeat (first | exact Below.refl _ _ | assumption | refine Below.drew ?_ | refine Below.alloc ?_ (by first | omega | (simp <;> omega)) _ | refine Below.setCell ?_ (by first | omega | (simp <;> omega)) _ | refine Below.trans ?_ (Below.mono (by assumption) (by first | omega | (simp <;> omega)))))
  have hst1 := (HS.out.below hbA).ext hs1 he1
  have hn : ¬ Os w.heap.size := fun hh => by have := HS.out.sto.lt _ hh; omega
  have hnO : ¬ O w.heap.size := fun hh => by have := HS.out.ltO _ hh; omega
  have kx := he1.cell (p := ⟨w.heap.size, 0, none⟩) (by simp) hn
  have x0 : w1.cell? ⟨w.heap.size, 0, none⟩ = some (.int .i64 x) := by rw [kx.1]; simp [go_sem]
  have x1 : w1.cell? ⟨w.heap.size, 1, none⟩ = some (.int .i64 y) := by rw [(he1.cell (p := ⟨w.heap.size, 1, none⟩) (by simp) hn).1]; simp [go_sem]
  have k1 := (HS.out.below hbA).keep he1
  have s1c : w1.cell? ⟨bS, 0, none⟩ = some (.pointer (some ⟨b, 0, none⟩)) := hst1.cS
  have v1 : w1.cell? ⟨bV, 0, none⟩ = some (.slice pv bits.length cv) := k1.2.1.trans ((hbA.cell (p := ⟨bV, 0, none⟩) hlV).trans h5)
  have f1 : w1.frozen? ⟨bV, 0, none⟩ = false := hst1.fV
  have hsz1 : w.heap.size < w1.heap.size := (cell_there x0).1
  have hn1 : ¬ Os1 w.heap.size := kx.2.2
  have HE1 : Hid (Ext (fun j => Os j ∨ O j) (fun j => Os1 j ∨ O j) w w1) := ((Ext.of_below hbA).trans he1).wider
  have HST1 := Lib.hid hst1
  clear hs1 he1 hbA hst1 kx k1 hn h1 h5 H1 HS
  go_wp2_with fail
  go_region_law (first
    | (refine step_append_two rfl (.tmp 16) (.tmp 21) 34 rfl 3 i0 (.int .i64 0) 1 8 Try.underlying34 hi hz0 hz1 hz2 rfl (by decide) _ bits.length _ rfl ((HST2.out.row v2).1.alloc _) ⟨w2.heap.size, 0, none⟩ 1 1 [.int .i64 i2] rfl rfl (cell_one_new _ _ _) (ints_oneCell .i64 [i2]) (by unfold maxLen; omega) (by omega) ?_; intro v' w3 hown3 hgrow3 hwhere; obtain ⟨pv', cv', rfl, hlv⟩ := own_shape hown3; have v3 : w3.cell? ⟨bV, 0, none⟩ = some (.slice pv bits.length cv) := hgrow3.cell (a := ⟨bV, 0, none⟩) ((World.cell?_alloc_lt _ _ _ l2).trans v2) (fun h => (HST2.out.row v2).2.1 h.symm); have f3 : w3.frozen? ⟨bV, 0, none⟩ = false := (World.frozen?_of_block (a := ⟨bV, 0, none⟩) (hgrow3.block bV (by simp; omega) (fun h => (HST2.out.row v2).2.1 h.symm))).trans ((((Below.refl w2.heap.size w2).alloc (Nat.le_refl _) _).frozen (p := ⟨bV, 0, none⟩) l2).trans f2))
    | (go_simp; go_at_call 84; refine (H2.out Os1 _ (HST1.out.sto.below (below_drewN (Below.refl _ _) 1))).mono ?_; rintro e w2 ⟨rfl, Os2, hs2, he2⟩; dsimp only at hs2; have HST2 := Lib.hid ((HST1.out.below (below_drewN (Below.refl _ _) 1)).ext hs2 he2); have v2 : w2.cell? ⟨bV, 0, none⟩ = some (.slice pv bits.length cv) := ((HST1.out.below (below_drewN (Below.refl _ _) 1)).keep he2).2.1.trans v1; have f2 : w2.frozen? ⟨bV, 0, none⟩ = false := HST2.out.fV; have l2 : bV < w2.heap.size := (cell_there v2).1; have y0 : w2.cell? ⟨w.heap.size, 0, none⟩ = some (.int .i64 x) := (he2.cell (p := ⟨w.heap.size, 0, none⟩) hsz1 hn1).1.trans x0; have y1 : w2.cell? ⟨w.heap.size, 1, none⟩ = some (.int .i64 y) := (he2.cell (p := ⟨w.heap.size, 1, none⟩) hsz1 hn1).1.trans x1; have hn2 : ¬ Os2 w.heap.size := (he2.cell (p := ⟨w.heap.size, 0, none⟩) hsz1 hn1).2.2; have HE2 : Hid (Ext (fun j => Os1 j ∨ O j) (fun j => Os2 j ∨ O j) w1 w2) := ((Ext.of_below (below_drewN (Below.refl _ _) 1)).trans he2).wider; clear hs2 he2))
  all_goals
    have HP := Lib.hid (sumstS_push HST2.out v2 ((Below.refl w2.heap.size w2).alloc (Nat.le_refl _) _) hgrow3 hwhere hown3 ⟨_, v3⟩ f3)
    have hwr : some w.heap.size ≠ (Value.slice pv bits.length cv).ownBlock := fun h => hnO (((HST2.out.row v2).2.2 _).2 (.inr h.symm))
    have hVw : ¬ bV = w.heap.size := fun h => hnO (h ▸ HST2.out.nV.2)
    have z0 : w3.cell? ⟨w.heap.size, 0, none⟩ = some (.int .i64 x) := hgrow3.cell (a := ⟨w.heap.size, 0, none⟩) ((World.cell?_alloc_lt w2 _ ⟨w.heap.size, 0, none⟩ (cell_there y0).1).trans y0) hwr
    have z1 : w3.cell? ⟨w.heap.size, 1, none⟩ = some (.int .i64 y) := hgrow3.cell (a := ⟨w.heap.size, 1, none⟩) ((World.cell?_alloc_lt w2 _ ⟨w.heap.size, 1, none⟩ (cell_there y0).1).trans y1) hwr
    have g0 : (w3.setCell ⟨bV, 0, none⟩ (.slice pv' (bits.length + 1) cv')).cell? ⟨w.heap.size, 0, none⟩ = some (.int .i64 x) := (World.cell?_setCell_other _ _ _ _ (by simp [hVw])).trans z0
    have g1 : (w3.setCell ⟨bV, 0, none⟩ (.slice pv' (bits.length + 1) cv')).cell? ⟨w.heap.size, 1, none⟩ = some (.int .i64 y) := (World.cell?_setCell_other _ _ _ _ (by simp [hVw])).trans z1
    clear hgrow3 hwhere hown3 v3 f3 y0 y1 z0 z1 hwr v2 f2 l2 v1 f1 s1c x0 x1
    generalize w3.setCell ⟨bV, 0, none⟩ (.slice pv' (bits.length + 1) cv') = Y at *
    obtain ⟨O', hst, hext⟩ := HP.out
    have HST := Lib.hid hst
    have HEX := Lib.hid hext
    have s3c := hst.cS
    have hlY := (cell_there g0).1
    clear hst hext HP
    go_wp2_with fail
    refine (H3.out Os2 _ HST.out.sto).mono ?_
    rintro e w5 ⟨rfl, Os3, hs3, he3⟩
    dsimp only at hs3
    have hst3 := HST.out.ext hs3 he3
    have s5c : w5.cell? ⟨bS, 0, none⟩ = some (.pointer (some ⟨b, 0, none⟩)) := hst3.cS
    have HST3 := Lib.hid hst3
    have HE3 := Lib.hid he3
    clear hst3 hs3 he3
    go_wp2_with fail
    refine (H4.out Os3 _ HST3.out.sto).mono ?_
    rintro e w6 ⟨rfl, Os4, hs4, he4⟩
    dsimp only at hs4
    have hst4 := HST3.out.ext hs4 he4
    have s6c : w6.cell? ⟨bS, 0, none⟩ = some (.pointer (some ⟨b, 0, none⟩)) := hst4.cS
    have HST4 := Lib.hid hst4
    have HE4 := Lib.hid he4
    clear hst4 hs4 he4
    go_wp2_with fail
    refine (H5.out Os4 _ HST4.out.sto).mono ?_
    rintro e w7 ⟨rfl, Os5, hs5, he5⟩
    dsimp only at hs5
    have HST5 := Lib.hid (HST4.out.ext hs5 he5)
    have HE5 := Lib.hid he5
    clear hs5 he5
    go_wp2_with fail
    go_ret
    exact ⟨rfl, Os5, O', HST5.out, HE1.out.trans (HE2.out.trans (HEX.out.trans (HE3.out.wider.trans (HE4.out.wider.trans HE5.out.wider))))⟩

end Go.Proofs.Ytlnkflmnjkmhkaa

/-
  Contract of symop.sum at a store that is there, by its plain law.
-/
namespace Go.Proofs.Ytlnkflmnjkmhkaa
open Go.RowKit Go.Maps

/-- A sum, bit by bit: the store, what is carried, the bits. -/
def sumA (xs ys : List Int) (c0 : Int) (s : BS) : Nat → BS × Int × List Int
  | 0 => (s, c0, [])
  | n + 1 => ((carryS (sumA xs ys c0 s n).1 (sumA xs ys c0 s n).2.1 (xs.getD n 0) (ys.getD n 0)).1, (carryS (sumA xs ys c0 s n).1 (sumA xs ys c0 s n).2.1 (xs.getD n 0) (ys.getD n 0)).2,
      (sumA xs ys c0 s n).2.2 ++ [(bitS (sumA xs ys c0 s n).1 (sumA xs ys c0 s n).2.1 (xs.getD n 0) (ys.getD n 0)).2])
theorem sumA_len (xs ys : List Int) (c0 : Int) (s : BS) (n : Nat) : (sumA xs ys c0 s n).2.2.length = n := by
  induction n with
  | zero => rfl
  | succ n ih => simp [sumA, ih]

theorem own_nilOk {w : World} {base e size n : Nat} {v : Value} {xs : List Value} (h : w.ownsRow base e size v n xs) : NilOk v := by
  obtain ⟨hl, ⟨h1, h2⟩ | ⟨g, cap, cur, h1, -⟩⟩ := h
  · rw [h1]; exact NilOk.nil
  · rw [h1]; exact NilOk.some _ _ _

theorem SumStS.ret {w : World} {b : Nat} {Os : Nat → Prop} {s : BS} {O : Nat → Prop} {bS bV : Nat} {bits : List Int} {vv : Value} (h : SumStS w b Os s O bS bV bits) (hv : w.cell? ⟨bV, 0, none⟩ = some vv) : IVecX w Os vv bits := by
  obtain ⟨h7, h8, h9⟩ := h.row hv
  exact ⟨IVec.of_owns rfl h7, fun k hk _ hO => h.apart k hO ((h9 k).2 (.inr hk)), own_nilOk h7⟩

set_option maxRecDepth 100000 in
set_option maxHeartbeats 1600000 in
theorem sum_sto (b : Nat) (Os : Nat → Prop) (s : BS) (va vb : Value) (xs ys : List Int) (c : Int) (w : World) (hs : Sto w b Os s) (ha : IVec w va xs) (hb : IVec w vb ys) (hxl : xs.length ≤ 1000000) (hyl : ys.length ≤ 1000000) :
    Calls Try.prog 108 #[.pointer (some ⟨b, 0, none⟩), va, vb, .int .i64 c] w (RetVS b Os w ((sumA xs ys c s (max xs.length ys.length)).1, (sumA xs ys c s (max xs.length ys.length)).2.2)) := by
  have HD := Lib.hid hs
  have HA := Lib.hid ha
  have HB := Lib.hid hb
  clear hs ha hb
  obtain ⟨M, hM⟩ : ∃ M, M = max xs.length ys.length := ⟨_, rfl⟩
  have hMm : M ≤ 1000000 := by omega
  rw [← hM]
  have HMM := Lib.hid hM
  clear hM
  obtain ⟨st, hst⟩ : ∃ st, st = sumA xs ys c s := ⟨_, rfl⟩
  rw [← hst]
  have HST0 := Lib.hid hst
  clear hst
  have hmf := run_makeFunc
  go_enter Try.func108, Try.ntmps108
  go_wp2_with fail
  obtain ⟨A, hA⟩ : ∃ A, A = ((w.alloc (.cells #[.pointer (some ⟨b, 0, none⟩)] 23)).alloc (.cells #[] 3)).alloc (.cells #[.slice (some ⟨w.heap.size + 1, 0, none⟩) 0 0] 34) := ⟨_, rfl⟩
  have hBA : Below w.heap.size w A := by rw [hA]; exact (by repeat (first | exact Below.refl _ _ | assumption | refine Below.drew ?_ | refine Below.alloc ?_ (by first | omega | (simp <;> omega)) _ | refine Below.setCell ?_ (by first | omega | (simp <;> omega)) _ | refine Below.trans ?_ (Below.mono (by assumption) (by first | omega | (simp <;> omega)))))
  have hAs : A.heap.size = w.heap.size + 3 := by rw [hA]; simp
  have a0 : A.cell? ⟨w.heap.size, 0, none⟩ = some (.pointer (some ⟨b, 0, none⟩)) := by rw [hA]; simp [go_sem]
  have aV : A.cell? ⟨w.heap.size + 1 + 1, 0, none⟩ = some (.slice (some ⟨w.heap.size + 1, 0, none⟩) 0 0) := by rw [hA]; simp [go_sem]
  have aF : A.frozen? ⟨w.heap.size + 1 + 1, 0, none⟩ = false := by rw [hA]; simp [go_sem]
  have aO : A.heap[w.heap.size + 1]? = some (.cells #[] 3 (0, 0)) := by
    rw [hA, Below.heap_alloc _ _ _ (by simp)]
    show ((w.heap.push (.cells #[.pointer (some ⟨b, 0, none⟩)] 23)).push (.cells #[] 3))[w.heap.size + 1]? = _
    rw [Array.getElem?_push]
    simp
  let O : Nat → Prop := fun j => j = w.heap.size + 1 + 1 ∨ (Value.slice (some ⟨w.heap.size + 1, 0, none⟩) 0 0).ownBlock = some j
  have hOlo : ∀ j, O j → w.heap.size < j ∧ j < A.heap.size := by
    rintro j (h | h)
    · omega
    · simp [Value.ownBlock] at h; omega
  have hlt := HD.out.lt
  have hST : SumStS A b Os s O w.heap.size (w.heap.size + 1 + 1) [] :=
    ⟨HD.out.below hBA, a0, fun h => by have := hOlo _ h; omega, fun h => by have := hlt _ h; omega, aF, ⟨_, aV, ⟨rfl, .inr ⟨w.heap.size + 1, 0, #[], rfl, Nat.zero_le _, aO, Nat.le_refl _, Nat.zero_le _, rfl, rfl⟩⟩, by simp [Value.ownBlock], fun j => Iff.rfl⟩, fun j hj hO => by have := hlt j hj; have := hOlo j hO; omega⟩
  have hOA : ∀ k, (Os k ∨ O k) → k < A.heap.size := fun k hk => by
    rcases hk with hk | hk
    · have := hlt k hk; omega
    · exact (hOlo k hk).2
  have HST := Lib.hid hST
  have HOL : Hid (∀ j, O j → w.heap.size < j ∧ j < A.heap.size) := hOlo
  have hp := pairs_any (fun j => Os j ∨ O j) va vb xs ys A hOA (HA.out.below hBA) (HB.out.below hBA) hxl hyl
  rw [← HMM.out] at hp
  have HP := Lib.hid hp
  have HBA := Lib.hid hBA
  rw [← hA]
  clear hST hOlo aO aF aV a0 hAs hA hOA hp hBA hlt
  clear_value O
  refine HP.out.mono ?_
  rintro e w1 ⟨v, rfl, hv, hb1⟩
  have HV := Lib.hid hv
  have HB1 := Lib.hid hb1
  clear hv hb1 HP
  have hF : Calls Try.prog 110 #[v, .int .i64 c, .func (.func 145) #[] #[.pointer (some ⟨w.heap.size, 0, none⟩), .pointer (some ⟨w.heap.size + 1 + 1, 0, none⟩)]] w1
      (RetJ fun _ W => ∃ Os' O', PVecX W (fun j => Os' j ∨ O' j) v M (pairAt xs ys) ∧ SumStS W b Os' (st M).1 O' w.heap.size (w.heap.size + 1 + 1) (st M).2.2 ∧ Ext (fun j => Os j ∨ O j) (fun j => Os' j ∨ O' j) w1 W) := by
    have e0 : st 0 = (s, c, []) := by rw [HST0.out]; rfl
    refine (fold_bits 145 #[] _ v M (pairAt xs ys) (fun k t W => t = (st k).2.1 ∧ ∃ Os' O', PVecX W (fun j => Os' j ∨ O' j) v M (pairAt xs ys) ∧ SumStS W b Os' (st k).1 O' w.heap.size (w.heap.size + 1 + 1) (st k).2.2 ∧ Ext (fun j => Os j ∨ O j) (fun j => Os' j ∨ O' j) w1 W) c w1 (by omega) ⟨by rw [e0], Os, O, HV.out, by rw [e0]; exact HST.out.below HB1.out, Ext.refl _ _⟩ ?_ ?_ call_sum1 ?_).mono ?_
    · rintro k t W ⟨-, Os', O', h1, -⟩
      exact h1.pvec
    · rintro k t W W' ⟨h0, Os', O', h1, h2, h3⟩ hb
      exact ⟨h0, Os', O', h1.ext (Ext.of_below hb), h2.below hb, h3.trans (Ext.of_below hb)⟩
    · rintro k hk t W ⟨rfl, Os', O', h1, h2, h3⟩
      have hl : (st k).2.2.length = k := by rw [HST0.out]; exact sumA_len _ _ _ _ _
      have e1 : st (k + 1) = ((carryS (st k).1 (st k).2.1 (xs.getD k 0) (ys.getD k 0)).1, (carryS (st k).1 (st k).2.1 (xs.getD k 0) (ys.getD k 0)).2, (st k).2.2 ++ [(bitS (st k).1 (st k).2.1 (xs.getD k 0) (ys.getD k 0)).2]) := by rw [HST0.out]; rfl
      refine (sum1_sto b Os' O' (st k).1 w.heap.size (w.heap.size + 1 + 1) (st k).2.2 (st k).2.1 (xs.getD k 0) (ys.getD k 0) W (by omega) h2).mono fun e w' ⟨he, Os'', O'', h4, h5⟩ => ⟨_, he, ?_, Os'', O'', h1.ext h5, ?_, h3.trans h5⟩
      · rw [e1]
      · rw [e1]; exact h4
    · rintro e w' ⟨r, hr, -, h⟩
      exact ⟨r, hr, h⟩
  have HF := Lib.hid hF
  clear hF
  go_wp2_with fail
  refine HF.out.mono ?_
  rintro e w2 ⟨r, rfl, Os2, O2, h1, h2, h3⟩
  obtain ⟨vv, q5, q6, -⟩ := h2.vec
  obtain ⟨pv, cv, rfl, -⟩ := own_shape q6
  have HV2 := Lib.hid (h2.ret q5)
  have HS2 := Lib.hid h2.sto
  have HE2 : Hid (Ext Os Os2 w w2) := by
    have g := ((HBA.out.trans (HB1.out.mono HBA.out.size)))
    refine ⟨⟨h3.1.os.trans g.os, h3.1.tape.trans g.tape, h3.1.output.trans g.output, Nat.le_trans g.size h3.1.size, fun k hk hO => (h3.1.block k (Nat.lt_of_lt_of_le hk g.size) fun hh => ?_).trans (g.block k hk)⟩, fun k hk => ?_⟩
    · rcases hh with hh | hh
      · exact hO hh
      · have := HOL.out k hh; omega
    · rcases h3.2 k (.inl hk) with (q | q) | q
      · exact .inl q
      · exact .inr (Nat.le_of_lt (HOL.out k q).1)
      · exact .inr (Nat.le_trans g.size q)
  clear h1 h2 h3 q6 HF HST HV
  go_wp2_with fail
  go_ret
  exact ⟨_, Os2, rfl, HV2.out, HS2.out, HE2.out⟩

end Go.Proofs.Ytlnkflmnjkmhkaa
