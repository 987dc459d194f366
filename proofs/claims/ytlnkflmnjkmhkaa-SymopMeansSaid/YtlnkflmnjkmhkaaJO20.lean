/-
  The law SymopMeans of layer 18: the region that makes the eight vectors.
-/
import Derived.Test.YtlnkflmnjkmhkaaJO07
import Derived.Test.YtlnkflmnjkmhkaaJO10
import Derived.Test.YtlnkflmnjkmhkaaJO19

namespace Go.Proofs.Ytlnkflmnjkmhkaa
open Go.RowKit Go.Maps

noncomputable def reg18 (n : Nat) : Code := (Try.f6.body.bind (findRegion n)).getD .skip
def regS (b : Nat) (va vb : Value) (v0 v1 m0 m1 : Int) (xs : Nat → List Int) (zs : Nat → Int) (st : Nat → BS) : StoR :=
  ⟨[.eq (.pointer (some ⟨b, 0, none⟩)), .eq va, .eq vb, .vec (xs 0), .eq (.pointer (some ⟨b, 0, none⟩)), .eq va, .eq vb, .vec (xs 1), .eq (.pointer (some ⟨b, 0, none⟩)), .eq va, .vec (xs 2), .eq (.pointer (some ⟨b, 0, none⟩)), .eq va, .eq vb, .eq (.int .i64 (zs 0)), .one 3 (.int .i64 (zs 0)), .eq (.pointer (some ⟨b, 0, none⟩)), .eq va, .eq vb, .eq (.int .i64 (zs 1)), .one 3 (.int .i64 (zs 1)), .eq (.pointer (some ⟨b, 0, none⟩)), .eq va, .eq vb, .eq (.int .i64 (zs 2)), .one 3 (.int .i64 (zs 2)), .eq (.pointer (some ⟨b, 0, none⟩)), .eq va, .eq (.int .i64 (zs 3)), .one 3 (.int .i64 (zs 3)), .eq (.pointer (some ⟨b, 0, none⟩)), .eq va, .eq (.agg #[.int .u64 v0, .int .u64 v1, .int .u64 m0, .int .u64 m1]), .eq (.int .i64 (zs 4)), .one 3 (.int .i64 (zs 4)), .arr 34 [3, 7, 10, 15, 20, 25, 29, 34], .same 35], [3, 7, 10, 14, 19, 24, 28, 33], st⟩

set_option maxRecDepth 100000 in
set_option maxHeartbeats 6000000 in
theorem reg6 (W X nb b : Nat) (va vb : Value) (v0 v1 m0 m1 : Int) (xs : Nat → List Int) (zs : Nat → Int) (st : Nat → BS) (O2 : Nat → Prop) (WB : World) (HS : Hid (Sto WB b O2 (st 0))) (hnb : ¬ O2 nb) (hP : PatAt WB nb v0 v1 m0 m1)
    (HC0 : Hid (∀ (O : Nat → Prop) (W : World), Sto W b O (st 0) → Ext O2 O WB W → Calls Try.prog 48 #[.pointer (some ⟨b, 0, none⟩), va, vb] W fun e w' => ∃ v O', e = .returned v ∧ IVecX w' O' v (xs 0) ∧ Sto w' b O' (st 1) ∧ Ext O O' W w'))
    (HC1 : Hid (∀ (O : Nat → Prop) (W : World), Sto W b O (st 1) → Ext O2 O WB W → Calls Try.prog 49 #[.pointer (some ⟨b, 0, none⟩), va, vb] W fun e w' => ∃ v O', e = .returned v ∧ IVecX w' O' v (xs 1) ∧ Sto w' b O' (st 2) ∧ Ext O O' W w'))
    (HC2 : Hid (∀ (O : Nat → Prop) (W : World), Sto W b O (st 2) → Ext O2 O WB W → Calls Try.prog 50 #[.pointer (some ⟨b, 0, none⟩), va] W fun e w' => ∃ v O', e = .returned v ∧ IVecX w' O' v (xs 2) ∧ Sto w' b O' (st 3) ∧ Ext O O' W w'))
    (HC3 : Hid (∀ (O : Nat → Prop) (W : World), Sto W b O (st 3) → Ext O2 O WB W → Calls Try.prog 51 #[.pointer (some ⟨b, 0, none⟩), va, vb] W fun e w' => e = .returned (.int .i64 (zs 0)) ∧ ∃ O', Sto w' b O' (st 4) ∧ Ext O O' W w'))
    (HC4 : Hid (∀ (O : Nat → Prop) (W : World), Sto W b O (st 4) → Ext O2 O WB W → Calls Try.prog 52 #[.pointer (some ⟨b, 0, none⟩), va, vb] W fun e w' => e = .returned (.int .i64 (zs 1)) ∧ ∃ O', Sto w' b O' (st 5) ∧ Ext O O' W w'))
    (HC5 : Hid (∀ (O : Nat → Prop) (W : World), Sto W b O (st 5) → Ext O2 O WB W → Calls Try.prog 53 #[.pointer (some ⟨b, 0, none⟩), va, vb] W fun e w' => e = .returned (.int .i64 (zs 2)) ∧ ∃ O', Sto w' b O' (st 6) ∧ Ext O O' W w'))
    (HC6 : Hid (∀ (O : Nat → Prop) (W : World), Sto W b O (st 6) → Ext O2 O WB W → Calls Try.prog 54 #[.pointer (some ⟨b, 0, none⟩), va] W fun e w' => e = .returned (.int .i64 (zs 3)) ∧ ∃ O', Sto w' b O' (st 7) ∧ Ext O O' W w'))
    (HC7 : Hid (∀ (O : Nat → Prop) (W : World), Sto W b O (st 7) → Ext O2 O WB W → Calls Try.prog 55 #[.pointer (some ⟨b, 0, none⟩), va, .agg #[.int .u64 v0, .int .u64 v1, .int .u64 m0, .int .u64 m1]] W fun e w' => e = .returned (.int .i64 (zs 4)) ∧ ∃ O', Sto w' b O' (st 8) ∧ Ext O O' W w'))
    (c0 c1 c2 c3 c4 c6 c10 c13 c14 c15 c16 c17 c18 c19 c20 c21 c22 c23 c24 c25 c26 c27 c28 c29 c30 c31 c32 c33 c34 c35 c36 c37 c38 c39 c40 c41 c42 c43 c44 c45 c46 c47 c48 c49 c50 c51 c52 c53 c54 c55 c56 c57 c58 c59 c60 c61 c62 c63 c64 c65 c66 c67 c68 c69 c70 c71 c72 c73 c74 c75 c76 c77 c78 c79 c80 c81 c82 c83 c84 c85 c86 c87 c88 c89 c90 c91 c92 c93 c94 c95 c96 c97 c98 c99 c100 c101 c102 c103 c104 c105 c106 c107 c108 c109 c110 c111 c112 c113 c114 c115 c116 c117 c118 c119 c120 c121 c122 c123 c124 c125 c126 c127 c128 c129 c130 c131 c132 c133 c134 c135 c136 c137 c138 c139 c140 c141 c142 c143 c144 c145 c146 c147 c148 c149 c150 c151 c152 c153 c154 c155 c156 c157 c158 c159 c160 c161 c162 c163 c164 c165 c166 c167 c168 c169 c170 c171 c172 c173 c174 c175 c176 c177 c178 c179 c180 c181 c182 c183 c184 c185 c186 c187 c188 c189 c190 c191 : Value) (Q : Exit → Act → World → Prop)
    (hexit : ∀ (u0 u1 u2 u3 u4 u5 u6 u7 u8 u9 u10 u11 u12 u13 u14 u15 u16 u17 u18 u19 u20 u21 u22 u23 u24 u25 u26 u27 u28 u29 u30 u31 u32 u33 u34 u35 u36 : Value) (w' : World), RS (regS b va vb v0 v1 m0 m1 xs zs st) b O2 WB (Array.replicate 37 true) [u0, u1, u2, u3, u4, u5, u6, u7, u8, u9, u10, u11, u12, u13, u14, u15, u16, u17, u18, u19, u20, u21, u22, u23, u24, u25, u26, u27, u28, u29, u30, u31, u32, u33, u34, u35, u36] w' → Q .normal ⟨#[c0, c1, c2, c3, c4, .pointer (some ⟨nb, 0, none⟩), c6, .int .i64 (W : Int), .int .i64 (X : Int), .pointer (some ⟨b, 0, none⟩), c10, va, vb, c13, u36, c15, c16, c17, c18, c19, c20, c21, c22, c23, c24, c25, c26, c27, c28, c29, c30, c31, c32, c33, c34, c35, c36, c37, c38, c39, c40, c41, c42, c43, c44, c45, c46, c47, c48, c49, c50, u0, u1, u2, u3, u4, u5, u6, u7, u8, u9, u10, u11, u12, u13, u14, u15, u16, u17, u18, u19, u20, u21, u22, u23, u24, u25, u26, u27, u28, u29, u30, u31, u32, u33, u34, u35, c87, c88, c89, c90, c91, c92, c93, c94, c95, c96, c97, c98, c99, c100, c101, c102, c103, c104, c105, c106, c107, c108, c109, c110, c111, c112, c113, c114, c115, c116, c117, c118, c119, c120, c121, c122, c123, c124, c125, c126, c127, c128, c129, c130, c131, c132, c133, c134, c135, c136, c137, c138, c139, c140, c141, c142, c143, c144, c145, c146, c147, c148, c149, c150, c151, c152, c153, c154, c155, c156, c157, c158, c159, c160, c161, c162, c163, c164, c165, c166, c167, c168, c169, c170, c171, c172, c173, c174, c175, c176, c177, c178, c179, c180, c181, c182, c183, c184, c185, c186, c187, c188, c189, c190, c191], []⟩ w') :
    Code.wp Try.prog (reg18 6) Q ⟨#[c0, c1, c2, c3, c4, .pointer (some ⟨nb, 0, none⟩), c6, .int .i64 (W : Int), .int .i64 (X : Int), .pointer (some ⟨b, 0, none⟩), c10, va, vb, c13, c14, c15, c16, c17, c18, c19, c20, c21, c22, c23, c24, c25, c26, c27, c28, c29, c30, c31, c32, c33, c34, c35, c36, c37, c38, c39, c40, c41, c42, c43, c44, c45, c46, c47, c48, c49, c50, c51, c52, c53, c54, c55, c56, c57, c58, c59, c60, c61, c62, c63, c64, c65, c66, c67, c68, c69, c70, c71, c72, c73, c74, c75, c76, c77, c78, c79, c80, c81, c82, c83, c84, c85, c86, c87, c88, c89, c90, c91, c92, c93, c94, c95, c96, c97, c98, c99, c100, c101, c102, c103, c104, c105, c106, c107, c108, c109, c110, c111, c112, c113, c114, c115, c116, c117, c118, c119, c120, c121, c122, c123, c124, c125, c126, c127, c128, c129, c130, c131, c132, c133, c134, c135, c136, c137, c138, c139, c140, c141, c142, c143, c144, c145, c146, c147, c148, c149, c150, c151, c152, c153, c154, c155, c156, c157, c158, c159, c160, c161, c162, c163, c164, c165, c166, c167, c168, c169, c170, c171, c172, c173, c174, c175, c176, c177, c178, c179, c180, c181, c182, c183, c184, c185, c186, c187, c188, c189, c190, c191], []⟩ WB := by
  dsimp only at hexit ⊢
  conv => arg 2; whnf
  have HEX := Lib.hid hexit
  clear hexit
  refine wp_region_inv (by kernel_rfl) (fun L a' w' => ∃ u0 u1 u2 u3 u4 u5 u6 u7 u8 u9 u10 u11 u12 u13 u14 u15 u16 u17 u18 u19 u20 u21 u22 u23 u24 u25 u26 u27 u28 u29 u30 u31 u32 u33 u34 u35 u36 : Value, a' = ⟨#[c0, c1, c2, c3, c4, .pointer (some ⟨nb, 0, none⟩), c6, .int .i64 (W : Int), .int .i64 (X : Int), .pointer (some ⟨b, 0, none⟩), c10, va, vb, c13, u36, c15, c16, c17, c18, c19, c20, c21, c22, c23, c24, c25, c26, c27, c28, c29, c30, c31, c32, c33, c34, c35, c36, c37, c38, c39, c40, c41, c42, c43, c44, c45, c46, c47, c48, c49, c50, u0, u1, u2, u3, u4, u5, u6, u7, u8, u9, u10, u11, u12, u13, u14, u15, u16, u17, u18, u19, u20, u21, u22, u23, u24, u25, u26, u27, u28, u29, u30, u31, u32, u33, u34, u35, c87, c88, c89, c90, c91, c92, c93, c94, c95, c96, c97, c98, c99, c100, c101, c102, c103, c104, c105, c106, c107, c108, c109, c110, c111, c112, c113, c114, c115, c116, c117, c118, c119, c120, c121, c122, c123, c124, c125, c126, c127, c128, c129, c130, c131, c132, c133, c134, c135, c136, c137, c138, c139, c140, c141, c142, c143, c144, c145, c146, c147, c148, c149, c150, c151, c152, c153, c154, c155, c156, c157, c158, c159, c160, c161, c162, c163, c164, c165, c166, c167, c168, c169, c170, c171, c172, c173, c174, c175, c176, c177, c178, c179, c180, c181, c182, c183, c184, c185, c186, c187, c188, c189, c190, c191], []⟩ ∧ L.size = 37 ∧ RS (regS b va vb v0 v1 m0 m1 xs zs st) b O2 WB L [u0, u1, u2, u3, u4, u5, u6, u7, u8, u9, u10, u11, u12, u13, u14, u15, u16, u17, u18, u19, u20, u21, u22, u23, u24, u25, u26, u27, u28, u29, u30, u31, u32, u33, u34, u35, u36] w') ?_ ?_ ?_ ?_
  · exact ⟨_, _, _, _, _, _, _, _, _, _, _, _, _, _, _, _, _, _, _, _, _, _, _, _, _, _, _, _, _, _, _, _, _, _, _, _, _, rfl, by simp, RS.init (fun i => did_none _ _) HS.out (below_drewN (Below.refl _ _) 1)⟩
  · rintro L a' w' i hL hi hnd hdep ⟨u0, u1, u2, u3, u4, u5, u6, u7, u8, u9, u10, u11, u12, u13, u14, u15, u16, u17, u18, u19, u20, u21, u22, u23, u24, u25, u26, u27, u28, u29, u30, u31, u32, u33, u34, u35, u36, rfl, hLn, hI⟩
    dsimp only
    have hsz : ∀ i, (L.setIfInBounds i true).size = 37 := fun i => by simpa using hLn
    have hL37 : L.size = 37 := hL
    have HI := Lib.hid hI
    have z0 := (hI.cell (p := ⟨nb, 0, none⟩) (cell_there hP.1).1 hnb).trans hP.1
    have z1 := (hI.cell (p := ⟨nb, 1, none⟩) (cell_there hP.1).1 hnb).trans hP.2.1
    have z2 := (hI.cell (p := ⟨nb, 2, none⟩) (cell_there hP.1).1 hnb).trans hP.2.2.1
    have z3 := (hI.cell (p := ⟨nb, 3, none⟩) (cell_there hP.1).1 hnb).trans hP.2.2.2
    clear hI
    match i, hi with
    | 0, _ =>
      have HN := Lib.hid hnd
      clear hdep hnd
      refine wpOp_step rfl (fun K' hK => ?_)
      go_simp
      exact hK _ _ ⟨_, _, _, _, _, _, _, _, _, _, _, _, _, _, _, _, _, _, _, _, _, _, _, _, _, _, _, _, _, _, _, _, _, _, _, _, _, rfl, hsz _, HI.out.val 0 _ HN.out (by show 0 < 37; omega) rfl rfl (Below.refl _ _)⟩
    | 1, _ =>
      have HN := Lib.hid hnd
      clear hdep hnd
      refine wpOp_step rfl (fun K' hK => ?_)
      go_simp
      exact hK _ _ ⟨_, _, _, _, _, _, _, _, _, _, _, _, _, _, _, _, _, _, _, _, _, _, _, _, _, _, _, _, _, _, _, _, _, _, _, _, _, rfl, hsz _, HI.out.val 1 _ HN.out (by show 1 < 37; omega) rfl rfl (Below.refl _ _)⟩
    | 2, _ =>
      have HN := Lib.hid hnd
      clear hdep hnd
      refine wpOp_step rfl (fun K' hK => ?_)
      go_simp
      exact hK _ _ ⟨_, _, _, _, _, _, _, _, _, _, _, _, _, _, _, _, _, _, _, _, _, _, _, _, _, _, _, _, _, _, _, _, _, _, _, _, _, rfl, hsz _, HI.out.val 2 _ HN.out (by show 2 < 37; omega) rfl rfl (Below.refl _ _)⟩
    | 3, _ =>
      have HN := Lib.hid hnd
      have q0 := (HI.out.got 0 (hdep _ rfl ⟨0, .data⟩ (by simp) (by kernel_rfl)) rfl).symm
      subst q0
      have q1 := (HI.out.got 1 (hdep _ rfl ⟨1, .data⟩ (by simp) (by kernel_rfl)) rfl).symm
      subst q1
      have q2 := (HI.out.got 2 (hdep _ rfl ⟨2, .data⟩ (by simp) (by kernel_rfl)) rfl).symm
      subst q2
      obtain ⟨O, hS, hE, hput⟩ := HI.out.call 3 0 HN.out rfl (fun m hm => by omega)
      have HP := Lib.hid hput
      clear hput hdep hnd
      refine wpOp_step rfl (fun K' hK => ?_)
      go_simp
      refine (HC0.out O _ hS hE).mono ?_
      rintro e w1 ⟨v, O1, rfl, hv, hs1, hx1⟩
      exact hK _ _ ⟨_, _, _, _, _, _, _, _, _, _, _, _, _, _, _, _, _, _, _, _, _, _, _, _, _, _, _, _, _, _, _, _, _, _, _, _, _, rfl, hsz _, HP.out v O1 w1 (by omega) (by show 3 < 37; omega) hx1 hs1 (fun a c ha hc => by subst hc; exact RS.uniq (l := [3, 7, 10, 14, 19, 24, 28, 33]) (by decide) ha rfl) (fun e he => by cases he; show IVecX w1 O1 (nth (List.set _ _ _) _) _; rw [nth_same (by show 3 < 37; omega)]; exact hv)⟩
    | 4, _ =>
      have HN := Lib.hid hnd
      clear hdep hnd
      refine wpOp_step rfl (fun K' hK => ?_)
      go_simp
      exact hK _ _ ⟨_, _, _, _, _, _, _, _, _, _, _, _, _, _, _, _, _, _, _, _, _, _, _, _, _, _, _, _, _, _, _, _, _, _, _, _, _, rfl, hsz _, HI.out.val 4 _ HN.out (by show 4 < 37; omega) rfl rfl (Below.refl _ _)⟩
    | 5, _ =>
      have HN := Lib.hid hnd
      clear hdep hnd
      refine wpOp_step rfl (fun K' hK => ?_)
      go_simp
      exact hK _ _ ⟨_, _, _, _, _, _, _, _, _, _, _, _, _, _, _, _, _, _, _, _, _, _, _, _, _, _, _, _, _, _, _, _, _, _, _, _, _, rfl, hsz _, HI.out.val 5 _ HN.out (by show 5 < 37; omega) rfl rfl (Below.refl _ _)⟩
    | 6, _ =>
      have HN := Lib.hid hnd
      clear hdep hnd
      refine wpOp_step rfl (fun K' hK => ?_)
      go_simp
      exact hK _ _ ⟨_, _, _, _, _, _, _, _, _, _, _, _, _, _, _, _, _, _, _, _, _, _, _, _, _, _, _, _, _, _, _, _, _, _, _, _, _, rfl, hsz _, HI.out.val 6 _ HN.out (by show 6 < 37; omega) rfl rfl (Below.refl _ _)⟩
    | 7, _ =>
      have HN := Lib.hid hnd
      have q4 := (HI.out.got 4 (hdep _ rfl ⟨4, .data⟩ (by simp) (by kernel_rfl)) rfl).symm
      subst q4
      have q5 := (HI.out.got 5 (hdep _ rfl ⟨5, .data⟩ (by simp) (by kernel_rfl)) rfl).symm
      subst q5
      have q6 := (HI.out.got 6 (hdep _ rfl ⟨6, .data⟩ (by simp) (by kernel_rfl)) rfl).symm
      subst q6
      have hpr := HI.out.chain 0 (hdep _ rfl ⟨3, .chain⟩ (by simp) (by kernel_rfl)) rfl
      obtain ⟨O, hS, hE, hput⟩ := HI.out.call 7 1 HN.out rfl (fun m hm => hpr m (by omega))
      have HP := Lib.hid hput
      clear hput hdep hnd
      refine wpOp_step rfl (fun K' hK => ?_)
      go_simp
      refine (HC1.out O _ hS hE).mono ?_
      rintro e w1 ⟨v, O1, rfl, hv, hs1, hx1⟩
      exact hK _ _ ⟨_, _, _, _, _, _, _, _, _, _, _, _, _, _, _, _, _, _, _, _, _, _, _, _, _, _, _, _, _, _, _, _, _, _, _, _, _, rfl, hsz _, HP.out v O1 w1 (by omega) (by show 7 < 37; omega) hx1 hs1 (fun a c ha hc => by subst hc; exact RS.uniq (l := [3, 7, 10, 14, 19, 24, 28, 33]) (by decide) ha rfl) (fun e he => by cases he; show IVecX w1 O1 (nth (List.set _ _ _) _) _; rw [nth_same (by show 7 < 37; omega)]; exact hv)⟩
    | 8, _ =>
      have HN := Lib.hid hnd
      clear hdep hnd
      refine wpOp_step rfl (fun K' hK => ?_)
      go_simp
      exact hK _ _ ⟨_, _, _, _, _, _, _, _, _, _, _, _, _, _, _, _, _, _, _, _, _, _, _, _, _, _, _, _, _, _, _, _, _, _, _, _, _, rfl, hsz _, HI.out.val 8 _ HN.out (by show 8 < 37; omega) rfl rfl (Below.refl _ _)⟩
    | 9, _ =>
      have HN := Lib.hid hnd
      clear hdep hnd
      refine wpOp_step rfl (fun K' hK => ?_)
      go_simp
      exact hK _ _ ⟨_, _, _, _, _, _, _, _, _, _, _, _, _, _, _, _, _, _, _, _, _, _, _, _, _, _, _, _, _, _, _, _, _, _, _, _, _, rfl, hsz _, HI.out.val 9 _ HN.out (by show 9 < 37; omega) rfl rfl (Below.refl _ _)⟩
    | 10, _ =>
      have HN := Lib.hid hnd
      have q8 := (HI.out.got 8 (hdep _ rfl ⟨8, .data⟩ (by simp) (by kernel_rfl)) rfl).symm
      subst q8
      have q9 := (HI.out.got 9 (hdep _ rfl ⟨9, .data⟩ (by simp) (by kernel_rfl)) rfl).symm
      subst q9
      have hpr := HI.out.chain 1 (hdep _ rfl ⟨7, .chain⟩ (by simp) (by kernel_rfl)) rfl
      obtain ⟨O, hS, hE, hput⟩ := HI.out.call 10 2 HN.out rfl (fun m hm => hpr m (by omega))
      have HP := Lib.hid hput
      clear hput hdep hnd
      refine wpOp_step rfl (fun K' hK => ?_)
      go_simp
      refine (HC2.out O _ hS hE).mono ?_
      rintro e w1 ⟨v, O1, rfl, hv, hs1, hx1⟩
      exact hK _ _ ⟨_, _, _, _, _, _, _, _, _, _, _, _, _, _, _, _, _, _, _, _, _, _, _, _, _, _, _, _, _, _, _, _, _, _, _, _, _, rfl, hsz _, HP.out v O1 w1 (by omega) (by show 10 < 37; omega) hx1 hs1 (fun a c ha hc => by subst hc; exact RS.uniq (l := [3, 7, 10, 14, 19, 24, 28, 33]) (by decide) ha rfl) (fun e he => by cases he; show IVecX w1 O1 (nth (List.set _ _ _) _) _; rw [nth_same (by show 10 < 37; omega)]; exact hv)⟩
    | 11, _ =>
      have HN := Lib.hid hnd
      clear hdep hnd
      refine wpOp_step rfl (fun K' hK => ?_)
      go_simp
      exact hK _ _ ⟨_, _, _, _, _, _, _, _, _, _, _, _, _, _, _, _, _, _, _, _, _, _, _, _, _, _, _, _, _, _, _, _, _, _, _, _, _, rfl, hsz _, HI.out.val 11 _ HN.out (by show 11 < 37; omega) rfl rfl (Below.refl _ _)⟩
    | 12, _ =>
      have HN := Lib.hid hnd
      clear hdep hnd
      refine wpOp_step rfl (fun K' hK => ?_)
      go_simp
      exact hK _ _ ⟨_, _, _, _, _, _, _, _, _, _, _, _, _, _, _, _, _, _, _, _, _, _, _, _, _, _, _, _, _, _, _, _, _, _, _, _, _, rfl, hsz _, HI.out.val 12 _ HN.out (by show 12 < 37; omega) rfl rfl (Below.refl _ _)⟩
    | 13, _ =>
      have HN := Lib.hid hnd
      clear hdep hnd
      refine wpOp_step rfl (fun K' hK => ?_)
      go_simp
      exact hK _ _ ⟨_, _, _, _, _, _, _, _, _, _, _, _, _, _, _, _, _, _, _, _, _, _, _, _, _, _, _, _, _, _, _, _, _, _, _, _, _, rfl, hsz _, HI.out.val 13 _ HN.out (by show 13 < 37; omega) rfl rfl (Below.refl _ _)⟩
    | 14, _ =>
      have HN := Lib.hid hnd
      have q11 := (HI.out.got 11 (hdep _ rfl ⟨11, .data⟩ (by simp) (by kernel_rfl)) rfl).symm
      subst q11
      have q12 := (HI.out.got 12 (hdep _ rfl ⟨12, .data⟩ (by simp) (by kernel_rfl)) rfl).symm
      subst q12
      have q13 := (HI.out.got 13 (hdep _ rfl ⟨13, .data⟩ (by simp) (by kernel_rfl)) rfl).symm
      subst q13
      have hpr := HI.out.chain 2 (hdep _ rfl ⟨10, .chain⟩ (by simp) (by kernel_rfl)) rfl
      obtain ⟨O, hS, hE, hput⟩ := HI.out.call 14 3 HN.out rfl (fun m hm => hpr m (by omega))
      have HP := Lib.hid hput
      clear hput hdep hnd
      refine wpOp_step rfl (fun K' hK => ?_)
      go_simp
      refine (HC3.out O _ hS hE).mono ?_
      rintro e w1 ⟨rfl, O1, hs1, hx1⟩
      exact hK _ _ ⟨_, _, _, _, _, _, _, _, _, _, _, _, _, _, _, _, _, _, _, _, _, _, _, _, _, _, _, _, _, _, _, _, _, _, _, _, _, rfl, hsz _, HP.out _ O1 w1 (by omega) (by show 14 < 37; omega) hx1 hs1 (fun a c ha hc => by subst hc; exact RS.uniq (l := [3, 7, 10, 14, 19, 24, 28, 33]) (by decide) ha rfl) (fun e he => by cases he; exact nth_same (by show 14 < 37; omega))⟩
    | 15, _ =>
      have HN := Lib.hid hnd
      have q14 := (HI.out.got 14 (hdep _ rfl ⟨14, .data⟩ (by simp) (by kernel_rfl)) rfl).symm
      subst q14
      clear hdep hnd
      refine wpOp_step rfl (fun K' hK => ?_)
      go_simp
      exact hK _ _ ⟨_, _, _, _, _, _, _, _, _, _, _, _, _, _, _, _, _, _, _, _, _, _, _, _, _, _, _, _, _, _, _, _, _, _, _, _, _, rfl, hsz _, HI.out.one 15 _ _ HN.out (by show 15 < 37; omega) rfl rfl⟩
    | 16, _ =>
      have HN := Lib.hid hnd
      clear hdep hnd
      refine wpOp_step rfl (fun K' hK => ?_)
      go_simp
      exact hK _ _ ⟨_, _, _, _, _, _, _, _, _, _, _, _, _, _, _, _, _, _, _, _, _, _, _, _, _, _, _, _, _, _, _, _, _, _, _, _, _, rfl, hsz _, HI.out.val 16 _ HN.out (by show 16 < 37; omega) rfl rfl (Below.refl _ _)⟩
    | 17, _ =>
      have HN := Lib.hid hnd
      clear hdep hnd
      refine wpOp_step rfl (fun K' hK => ?_)
      go_simp
      exact hK _ _ ⟨_, _, _, _, _, _, _, _, _, _, _, _, _, _, _, _, _, _, _, _, _, _, _, _, _, _, _, _, _, _, _, _, _, _, _, _, _, rfl, hsz _, HI.out.val 17 _ HN.out (by show 17 < 37; omega) rfl rfl (Below.refl _ _)⟩
    | 18, _ =>
      have HN := Lib.hid hnd
      clear hdep hnd
      refine wpOp_step rfl (fun K' hK => ?_)
      go_simp
      exact hK _ _ ⟨_, _, _, _, _, _, _, _, _, _, _, _, _, _, _, _, _, _, _, _, _, _, _, _, _, _, _, _, _, _, _, _, _, _, _, _, _, rfl, hsz _, HI.out.val 18 _ HN.out (by show 18 < 37; omega) rfl rfl (Below.refl _ _)⟩
    | 19, _ =>
      have HN := Lib.hid hnd
      have q16 := (HI.out.got 16 (hdep _ rfl ⟨16, .data⟩ (by simp) (by kernel_rfl)) rfl).symm
      subst q16
      have q17 := (HI.out.got 17 (hdep _ rfl ⟨17, .data⟩ (by simp) (by kernel_rfl)) rfl).symm
      subst q17
      have q18 := (HI.out.got 18 (hdep _ rfl ⟨18, .data⟩ (by simp) (by kernel_rfl)) rfl).symm
      subst q18
      have hpr := HI.out.chain 3 (hdep _ rfl ⟨14, .chain⟩ (by simp) (by kernel_rfl)) rfl
      obtain ⟨O, hS, hE, hput⟩ := HI.out.call 19 4 HN.out rfl (fun m hm => hpr m (by omega))
      have HP := Lib.hid hput
      clear hput hdep hnd
      refine wpOp_step rfl (fun K' hK => ?_)
      go_simp
      refine (HC4.out O _ hS hE).mono ?_
      rintro e w1 ⟨rfl, O1, hs1, hx1⟩
      exact hK _ _ ⟨_, _, _, _, _, _, _, _, _, _, _, _, _, _, _, _, _, _, _, _, _, _, _, _, _, _, _, _, _, _, _, _, _, _, _, _, _, rfl, hsz _, HP.out _ O1 w1 (by omega) (by show 19 < 37; omega) hx1 hs1 (fun a c ha hc => by subst hc; exact RS.uniq (l := [3, 7, 10, 14, 19, 24, 28, 33]) (by decide) ha rfl) (fun e he => by cases he; exact nth_same (by show 19 < 37; omega))⟩
    | 20, _ =>
      have HN := Lib.hid hnd
      have q19 := (HI.out.got 19 (hdep _ rfl ⟨19, .data⟩ (by simp) (by kernel_rfl)) rfl).symm
      subst q19
      clear hdep hnd
      refine wpOp_step rfl (fun K' hK => ?_)
      go_simp
      exact hK _ _ ⟨_, _, _, _, _, _, _, _, _, _, _, _, _, _, _, _, _, _, _, _, _, _, _, _, _, _, _, _, _, _, _, _, _, _, _, _, _, rfl, hsz _, HI.out.one 20 _ _ HN.out (by show 20 < 37; omega) rfl rfl⟩
    | 21, _ =>
      have HN := Lib.hid hnd
      clear hdep hnd
      refine wpOp_step rfl (fun K' hK => ?_)
      go_simp
      exact hK _ _ ⟨_, _, _, _, _, _, _, _, _, _, _, _, _, _, _, _, _, _, _, _, _, _, _, _, _, _, _, _, _, _, _, _, _, _, _, _, _, rfl, hsz _, HI.out.val 21 _ HN.out (by show 21 < 37; omega) rfl rfl (Below.refl _ _)⟩
    | 22, _ =>
      have HN := Lib.hid hnd
      clear hdep hnd
      refine wpOp_step rfl (fun K' hK => ?_)
      go_simp
      exact hK _ _ ⟨_, _, _, _, _, _, _, _, _, _, _, _, _, _, _, _, _, _, _, _, _, _, _, _, _, _, _, _, _, _, _, _, _, _, _, _, _, rfl, hsz _, HI.out.val 22 _ HN.out (by show 22 < 37; omega) rfl rfl (Below.refl _ _)⟩
    | 23, _ =>
      have HN := Lib.hid hnd
      clear hdep hnd
      refine wpOp_step rfl (fun K' hK => ?_)
      go_simp
      exact hK _ _ ⟨_, _, _, _, _, _, _, _, _, _, _, _, _, _, _, _, _, _, _, _, _, _, _, _, _, _, _, _, _, _, _, _, _, _, _, _, _, rfl, hsz _, HI.out.val 23 _ HN.out (by show 23 < 37; omega) rfl rfl (Below.refl _ _)⟩
    | 24, _ =>
      have HN := Lib.hid hnd
      have q21 := (HI.out.got 21 (hdep _ rfl ⟨21, .data⟩ (by simp) (by kernel_rfl)) rfl).symm
      subst q21
      have q22 := (HI.out.got 22 (hdep _ rfl ⟨22, .data⟩ (by simp) (by kernel_rfl)) rfl).symm
      subst q22
      have q23 := (HI.out.got 23 (hdep _ rfl ⟨23, .data⟩ (by simp) (by kernel_rfl)) rfl).symm
      subst q23
      have hpr := HI.out.chain 4 (hdep _ rfl ⟨19, .chain⟩ (by simp) (by kernel_rfl)) rfl
      obtain ⟨O, hS, hE, hput⟩ := HI.out.call 24 5 HN.out rfl (fun m hm => hpr m (by omega))
      have HP := Lib.hid hput
      clear hput hdep hnd
      refine wpOp_step rfl (fun K' hK => ?_)
      go_simp
      refine (HC5.out O _ hS hE).mono ?_
      rintro e w1 ⟨rfl, O1, hs1, hx1⟩
      exact hK _ _ ⟨_, _, _, _, _, _, _, _, _, _, _, _, _, _, _, _, _, _, _, _, _, _, _, _, _, _, _, _, _, _, _, _, _, _, _, _, _, rfl, hsz _, HP.out _ O1 w1 (by omega) (by show 24 < 37; omega) hx1 hs1 (fun a c ha hc => by subst hc; exact RS.uniq (l := [3, 7, 10, 14, 19, 24, 28, 33]) (by decide) ha rfl) (fun e he => by cases he; exact nth_same (by show 24 < 37; omega))⟩
    | 25, _ =>
      have HN := Lib.hid hnd
      have q24 := (HI.out.got 24 (hdep _ rfl ⟨24, .data⟩ (by simp) (by kernel_rfl)) rfl).symm
      subst q24
      clear hdep hnd
      refine wpOp_step rfl (fun K' hK => ?_)
      go_simp
      exact hK _ _ ⟨_, _, _, _, _, _, _, _, _, _, _, _, _, _, _, _, _, _, _, _, _, _, _, _, _, _, _, _, _, _, _, _, _, _, _, _, _, rfl, hsz _, HI.out.one 25 _ _ HN.out (by show 25 < 37; omega) rfl rfl⟩
    | 26, _ =>
      have HN := Lib.hid hnd
      clear hdep hnd
      refine wpOp_step rfl (fun K' hK => ?_)
      go_simp
      exact hK _ _ ⟨_, _, _, _, _, _, _, _, _, _, _, _, _, _, _, _, _, _, _, _, _, _, _, _, _, _, _, _, _, _, _, _, _, _, _, _, _, rfl, hsz _, HI.out.val 26 _ HN.out (by show 26 < 37; omega) rfl rfl (Below.refl _ _)⟩
    | 27, _ =>
      have HN := Lib.hid hnd
      clear hdep hnd
      refine wpOp_step rfl (fun K' hK => ?_)
      go_simp
      exact hK _ _ ⟨_, _, _, _, _, _, _, _, _, _, _, _, _, _, _, _, _, _, _, _, _, _, _, _, _, _, _, _, _, _, _, _, _, _, _, _, _, rfl, hsz _, HI.out.val 27 _ HN.out (by show 27 < 37; omega) rfl rfl (Below.refl _ _)⟩
    | 28, _ =>
      have HN := Lib.hid hnd
      have q26 := (HI.out.got 26 (hdep _ rfl ⟨26, .data⟩ (by simp) (by kernel_rfl)) rfl).symm
      subst q26
      have q27 := (HI.out.got 27 (hdep _ rfl ⟨27, .data⟩ (by simp) (by kernel_rfl)) rfl).symm
      subst q27
      have hpr := HI.out.chain 5 (hdep _ rfl ⟨24, .chain⟩ (by simp) (by kernel_rfl)) rfl
      obtain ⟨O, hS, hE, hput⟩ := HI.out.call 28 6 HN.out rfl (fun m hm => hpr m (by omega))
      have HP := Lib.hid hput
      clear hput hdep hnd
      refine wpOp_step rfl (fun K' hK => ?_)
      go_simp
      refine (HC6.out O _ hS hE).mono ?_
      rintro e w1 ⟨rfl, O1, hs1, hx1⟩
      exact hK _ _ ⟨_, _, _, _, _, _, _, _, _, _, _, _, _, _, _, _, _, _, _, _, _, _, _, _, _, _, _, _, _, _, _, _, _, _, _, _, _, rfl, hsz _, HP.out _ O1 w1 (by omega) (by show 28 < 37; omega) hx1 hs1 (fun a c ha hc => by subst hc; exact RS.uniq (l := [3, 7, 10, 14, 19, 24, 28, 33]) (by decide) ha rfl) (fun e he => by cases he; exact nth_same (by show 28 < 37; omega))⟩
    | 29, _ =>
      have HN := Lib.hid hnd
      have q28 := (HI.out.got 28 (hdep _ rfl ⟨28, .data⟩ (by simp) (by kernel_rfl)) rfl).symm
      subst q28
      clear hdep hnd
      refine wpOp_step rfl (fun K' hK => ?_)
      go_simp
      exact hK _ _ ⟨_, _, _, _, _, _, _, _, _, _, _, _, _, _, _, _, _, _, _, _, _, _, _, _, _, _, _, _, _, _, _, _, _, _, _, _, _, rfl, hsz _, HI.out.one 29 _ _ HN.out (by show 29 < 37; omega) rfl rfl⟩
    | 30, _ =>
      have HN := Lib.hid hnd
      clear hdep hnd
      refine wpOp_step rfl (fun K' hK => ?_)
      go_simp
      exact hK _ _ ⟨_, _, _, _, _, _, _, _, _, _, _, _, _, _, _, _, _, _, _, _, _, _, _, _, _, _, _, _, _, _, _, _, _, _, _, _, _, rfl, hsz _, HI.out.val 30 _ HN.out (by show 30 < 37; omega) rfl rfl (Below.refl _ _)⟩
    | 31, _ =>
      have HN := Lib.hid hnd
      clear hdep hnd
      refine wpOp_step rfl (fun K' hK => ?_)
      go_simp
      exact hK _ _ ⟨_, _, _, _, _, _, _, _, _, _, _, _, _, _, _, _, _, _, _, _, _, _, _, _, _, _, _, _, _, _, _, _, _, _, _, _, _, rfl, hsz _, HI.out.val 31 _ HN.out (by show 31 < 37; omega) rfl rfl (Below.refl _ _)⟩
    | 32, _ =>
      have HN := Lib.hid hnd
      clear hdep hnd
      refine wpOp_step rfl (fun K' hK => ?_)
      go_simp
      exact hK _ _ ⟨_, _, _, _, _, _, _, _, _, _, _, _, _, _, _, _, _, _, _, _, _, _, _, _, _, _, _, _, _, _, _, _, _, _, _, _, _, rfl, hsz _, HI.out.val 32 _ HN.out (by show 32 < 37; omega) rfl rfl (Below.refl _ _)⟩
    | 33, _ =>
      have HN := Lib.hid hnd
      have q30 := (HI.out.got 30 (hdep _ rfl ⟨30, .data⟩ (by simp) (by kernel_rfl)) rfl).symm
      subst q30
      have q31 := (HI.out.got 31 (hdep _ rfl ⟨31, .data⟩ (by simp) (by kernel_rfl)) rfl).symm
      subst q31
      have q32 := (HI.out.got 32 (hdep _ rfl ⟨32, .data⟩ (by simp) (by kernel_rfl)) rfl).symm
      subst q32
      have hpr := HI.out.chain 6 (hdep _ rfl ⟨28, .chain⟩ (by simp) (by kernel_rfl)) rfl
      obtain ⟨O, hS, hE, hput⟩ := HI.out.call 33 7 HN.out rfl (fun m hm => hpr m (by omega))
      have HP := Lib.hid hput
      clear hput hdep hnd
      refine wpOp_step rfl (fun K' hK => ?_)
      go_simp
      refine (HC7.out O _ hS hE).mono ?_
      rintro e w1 ⟨rfl, O1, hs1, hx1⟩
      exact hK _ _ ⟨_, _, _, _, _, _, _, _, _, _, _, _, _, _, _, _, _, _, _, _, _, _, _, _, _, _, _, _, _, _, _, _, _, _, _, _, _, rfl, hsz _, HP.out _ O1 w1 (by omega) (by show 33 < 37; omega) hx1 hs1 (fun a c ha hc => by subst hc; exact RS.uniq (l := [3, 7, 10, 14, 19, 24, 28, 33]) (by decide) ha rfl) (fun e he => by cases he; exact nth_same (by show 33 < 37; omega))⟩
    | 34, _ =>
      have HN := Lib.hid hnd
      have q33 := (HI.out.got 33 (hdep _ rfl ⟨33, .data⟩ (by simp) (by kernel_rfl)) rfl).symm
      subst q33
      clear hdep hnd
      refine wpOp_step rfl (fun K' hK => ?_)
      go_simp
      exact hK _ _ ⟨_, _, _, _, _, _, _, _, _, _, _, _, _, _, _, _, _, _, _, _, _, _, _, _, _, _, _, _, _, _, _, _, _, _, _, _, _, rfl, hsz _, HI.out.one 34 _ _ HN.out (by show 34 < 37; omega) rfl rfl⟩
    | 35, _ =>
      have HN := Lib.hid hnd
      have h3 := hdep _ rfl ⟨3, .data⟩ (by simp) (by kernel_rfl)
      obtain ⟨p3, n3, k3, z3⟩ := HI.out.isVec 3 h3 rfl
      subst z3
      have h7 := hdep _ rfl ⟨7, .data⟩ (by simp) (by kernel_rfl)
      obtain ⟨p7, n7, k7, z7⟩ := HI.out.isVec 7 h7 rfl
      subst z7
      have h10 := hdep _ rfl ⟨10, .data⟩ (by simp) (by kernel_rfl)
      obtain ⟨p10, n10, k10, z10⟩ := HI.out.isVec 10 h10 rfl
      subst z10
      have h15 := hdep _ rfl ⟨15, .data⟩ (by simp) (by kernel_rfl)
      obtain ⟨p15, z15⟩ := HI.out.isOne 15 h15 rfl
      subst z15
      have h20 := hdep _ rfl ⟨20, .data⟩ (by simp) (by kernel_rfl)
      obtain ⟨p20, z20⟩ := HI.out.isOne 20 h20 rfl
      subst z20
      have h25 := hdep _ rfl ⟨25, .data⟩ (by simp) (by kernel_rfl)
      obtain ⟨p25, z25⟩ := HI.out.isOne 25 h25 rfl
      subst z25
      have h29 := hdep _ rfl ⟨29, .data⟩ (by simp) (by kernel_rfl)
      obtain ⟨p29, z29⟩ := HI.out.isOne 29 h29 rfl
      subst z29
      have h34 := hdep _ rfl ⟨34, .data⟩ (by simp) (by kernel_rfl)
      obtain ⟨p34, z34⟩ := HI.out.isOne 34 h34 rfl
      subst z34
      have HD : ∀ j ∈ [3, 7, 10, 15, 20, 25, 29, 34], did L j = true := by
        intro j hj
        simp only [List.mem_cons, List.not_mem_nil, or_false] at hj
        rcases hj with rfl | rfl | rfl | rfl | rfl | rfl | rfl | rfl
        · exact h3
        · exact h7
        · exact h10
        · exact h15
        · exact h20
        · exact h25
        · exact h29
        · exact h34
      have HDD := Lib.hid HD
      clear hdep hnd HD h3 h7 h10 h15 h20 h25 h29 h34
      refine wpOp_step rfl (fun K' hK => ?_)
      go_simp
      exact hK _ _ ⟨_, _, _, _, _, _, _, _, _, _, _, _, _, _, _, _, _, _, _, _, _, _, _, _, _, _, _, _, _, _, _, _, _, _, _, _, _, rfl, hsz _, HI.out.arr 35 _ [3, 7, 10, 15, 20, 25, 29, 34] _ _ HN.out (by show 35 < 37; omega) rfl rfl HDD.out rfl rfl⟩
    | 36, _ =>
      have HN := Lib.hid hnd
      have h35 := hdep _ rfl ⟨35, .data⟩ (by simp) (by kernel_rfl)
      have HD := Lib.hid h35
      clear hdep hnd h35
      refine wpOp_step rfl (fun K' hK => ?_)
      go_simp
      exact hK _ _ ⟨_, _, _, _, _, _, _, _, _, _, _, _, _, _, _, _, _, _, _, _, _, _, _, _, _, _, _, _, _, _, _, _, _, _, _, _, _, rfl, hsz _, HI.out.copy 36 35 HN.out HD.out (by show 36 < 37; omega) rfl rfl⟩
    | i + 37, hi => exact absurd hi (by show ¬ (i + 37 < 37); omega)
  · intro i o ho e he
    match i, ho with
    | 0, ho => cases ho; simp at he
    | 1, ho => cases ho; simp at he
    | 2, ho => cases ho; simp at he
    | 3, ho => cases ho; simp at he; rcases he with rfl | rfl | rfl <;> simp
    | 4, ho => cases ho; simp at he
    | 5, ho => cases ho; simp at he
    | 6, ho => cases ho; simp at he
    | 7, ho => cases ho; simp at he; rcases he with rfl | rfl | rfl | rfl <;> simp
    | 8, ho => cases ho; simp at he
    | 9, ho => cases ho; simp at he
    | 10, ho => cases ho; simp at he; rcases he with rfl | rfl | rfl <;> simp
    | 11, ho => cases ho; simp at he
    | 12, ho => cases ho; simp at he
    | 13, ho => cases ho; simp at he
    | 14, ho => cases ho; simp at he; rcases he with rfl | rfl | rfl | rfl <;> simp
    | 15, ho => cases ho; simp at he; subst he; simp
    | 16, ho => cases ho; simp at he
    | 17, ho => cases ho; simp at he
    | 18, ho => cases ho; simp at he
    | 19, ho => cases ho; simp at he; rcases he with rfl | rfl | rfl | rfl <;> simp
    | 20, ho => cases ho; simp at he; subst he; simp
    | 21, ho => cases ho; simp at he
    | 22, ho => cases ho; simp at he
    | 23, ho => cases ho; simp at he
    | 24, ho => cases ho; simp at he; rcases he with rfl | rfl | rfl | rfl <;> simp
    | 25, ho => cases ho; simp at he; subst he; simp
    | 26, ho => cases ho; simp at he
    | 27, ho => cases ho; simp at he
    | 28, ho => cases ho; simp at he; rcases he with rfl | rfl | rfl <;> simp
    | 29, ho => cases ho; simp at he; subst he; simp
    | 30, ho => cases ho; simp at he
    | 31, ho => cases ho; simp at he
    | 32, ho => cases ho; simp at he
    | 33, ho => cases ho; simp at he; rcases he with rfl | rfl | rfl | rfl <;> simp
    | 34, ho => cases ho; simp at he; subst he; simp
    | 35, ho => cases ho; simp at he; rcases he with rfl | rfl | rfl | rfl | rfl | rfl | rfl | rfl <;> simp
    | 36, ho => cases ho; simp at he; rcases he with rfl | rfl | rfl | rfl | rfl | rfl | rfl | rfl | rfl | rfl | rfl | rfl | rfl | rfl | rfl | rfl | rfl | rfl | rfl | rfl | rfl | rfl | rfl | rfl | rfl | rfl | rfl | rfl | rfl | rfl | rfl | rfl | rfl | rfl | rfl | rfl | rfl | rfl <;> simp
    | i + 37, ho => simp at ho
  · rintro L a' w' hall ⟨u0, u1, u2, u3, u4, u5, u6, u7, u8, u9, u10, u11, u12, u13, u14, u15, u16, u17, u18, u19, u20, u21, u22, u23, u24, u25, u26, u27, u28, u29, u30, u31, u32, u33, u34, u35, u36, rfl, hLn, hI⟩
    exact HEX.out u0 u1 u2 u3 u4 u5 u6 u7 u8 u9 u10 u11 u12 u13 u14 u15 u16 u17 u18 u19 u20 u21 u22 u23 u24 u25 u26 u27 u28 u29 u30 u31 u32 u33 u34 u35 u36 w' (hI.whole 37 hall hLn rfl)

end Go.Proofs.Ytlnkflmnjkmhkaa
